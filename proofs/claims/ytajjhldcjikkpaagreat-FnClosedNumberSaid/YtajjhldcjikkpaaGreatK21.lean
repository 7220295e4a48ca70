/- Parts of the proof. No condition. -/
import Derived.Test.YtajjhldcjikkpaaGreatK16
open Go.Proofs.Tryz
namespace Go.Proofs.YtajjhldcjikkpaaGreat
open Go.RowKit
set_option maxHeartbeats 8000000
set_option maxRecDepth 100000
set_option linter.unusedSimpArgs false
set_option linter.unusedVariables false
theorem aNt {w:World}{z o:Nat}{k n:Int}{ks:List Tm}(hZ:Blk w z Zr)(hv:aE (.mk k n ks)=true)(hc:w.cell? ⟨z,o,none⟩=some (.int .i64 k)):False:=by
 obtain ⟨q,_,ha,_,_,_⟩:=bX (aW hv);have h0:k≠0:=by rintro rfl;have:aK 0 = -1:=rfl;omega
 rw [hZ.cell] at hc;rcases o with _|_|_|o
 ·simp at hc;exact h0 hc.symm
 ·simp at hc;exact h0 hc.symm
 ·simp at hc
 ·simp at hc
theorem aRh {N:Nat}(ih:nW N)(ctx:List Tm)(C:Option Addr)(cc:Nat)(k n:Int)(A:Option Addr)(c:Nat)(ka na:Int)(sa:List Tm)(kx nx:Int)(sx:List Tm)(ky ny:Int)(sy:List Tm)(r:Rs Tm)(w:World)(hs:aWn (bJ N) ctx (.mk ka na sa) (.mk kx nx sx) (.mk ky ny sy)=some r)(hva:aE (.mk ka na sa)=true)(hvx:aE (.mk kx nx sx)=true)(hvy:aE (.mk ky ny sy)=true)(hvc:∀u,u∈ctx→aE u=true)(hm:ctx.length≤20)(hrc:Rd w C 0 ctx)(hr:Rd w A 0 [.mk ka na sa,.mk kx nx sx,.mk ky ny sy]) :
  Calls prog 122 #[.slice C ctx.length cc,.agg (Ro k n A 3 c)] w (oH w r):=by
 have hsza:=aJ hva;obtain ⟨bk,ok,Aa,ca,rfl,a1,a2,a3,hla,ra⟩:=kZ hr;obtain ⟨Ax,cx,x1,x2,x3,hlx,rx⟩:=tI hr;obtain ⟨Ay,cy,y1,y2,y3,hly,ry⟩:=kd2 hr;simp only [Nat.zero_mul,Nat.add_zero,Nat.one_mul,Nat.reduceMul] at a1 a2 a3 x1 x2 x3 y1 y2 y3
 have lbp:=kY _ _ a1;rcases aO hs with ⟨b,h1,rfl⟩|⟨li,h1,hs⟩
 ·have hS1:=aD (fun (w:World) (hrc:Rd w C 0 ctx) (hra:Rd w Aa 0 sa)=>eA ih ctx C cc ka na sa Aa ca _ w h1 hva hvc (by omega) hrc hra);have qb:=iN b;clear hs h1 hva hvx hvy hvc ih;go_enter func122,ntmps122;go_wp2_with (first
   | (go_at_call 23;have _t:=tok;refine (bB _ _ _).mono ?_;rintro e w9 ⟨rfl,hb9⟩;have hZ9:=hZw1.keep hb9;clear d0 d1 d2 e0 e1 e2 lz;obtain ⟨d0,d1,d2,e0,e1,e2,lz⟩:=dA hZ9;have g9:=kww1.trans (hb9.mono kww1.size))
   | (go_at_call 67;refine (hS1.out _ ((hrc.alloc _).alloc _) ((ra.alloc _).alloc _)).mono ?_;rintro e w1 ⟨l1,rfl,hb1⟩;have hTw1:=cV hb1;have hZw1:=bH hb1;have kww1:Bw w w1:=bQ bw2 hb1;have ltw:=hTw1.lt;obtain ⟨d0,d1,d2,e0,e1,e2,lz⟩:=dA hZw1;have tok:=trivial))
  refine bodyPost_ret (v:=.tuple #[.agg (Ro 2 l1 none 0 0),.int .i64 (dL b)]) (by simp [results,results122,go_sem,d0,d1,d2]) rfl ⟨2,l1,none,0,0,rfl,?_⟩;exact bT g9
 ·have hS1:=aD (fun (w:World) (hrc:Rd w C 0 ctx) (hra:Rd w Aa 0 sa)=>eA ih ctx C cc ka na sa Aa ca _ w h1 hva hvc (by omega) hrc hra);rcases aO hs with ⟨b,h2,rfl⟩|⟨u1,h2,hs⟩
  ·have hC1:=aD (fun (A2:Option Addr) (c2:Nat) (w:World) (hrc:Rd w C 0 ctx) (hrt:Rd w Ax 0 sx) (hr2:Rd w A2 0 sa)=>cC ih ctx C cc kx nx sx Ax cx ka na sa A2 c2 _ w h2 hvx hvc (by omega) hrc hrt (by omega) hr2);have qb:=iN b;clear hs h1 h2 hva hvx hvy hvc ih;go_enter func122,ntmps122;go_upto_region 3 with (go_at_call 67;refine (hS1.out _ ((hrc.alloc _).alloc _) ((ra.alloc _).alloc _)).mono ?_;rintro e w1 ⟨rfl,hb1⟩;have hTw1:=cV hb1;have hZw1:=bH hb1;have kww1:Bw w w1:=bQ bw2 hb1;have ltw:=hTw1.lt)
   refine sT hTw1 hZw1 kww1 ?_;intro wx hTwx hZwx kwwx;have v2:=aF hTwx.three.2.2;obtain ⟨ux1,ux2,ux3⟩:=iI kwwx x1 x2 x3;obtain ⟨ua1,ua2,ua3⟩:=iI kwwx a1 a2 a3;refine dX wx [10] [0,1,2,3,4,5,6,7,8] 11 2 (lT:=[_,_,_,_,_,_,_,_,_]) ?_;intro q0 bq0;refine bV (aD ?_);refine bG 9 ?_
   ·go_wp2_with (go_at_call 46;refine (hC1.out _ _ _ ((hrc.below kwwx).below bq0) ((rx.below kwwx).below bq0) ((ra.below kwwx).below bq0)).mono ?_;rintro e q1 ⟨he,hbq1⟩;obtain rfl:e = .returned (.int .i64 (dL b)):=he)
    refine aY bq0 hbq1 ?_;intro bq1 lq1;refine cD [10] (lB:=[_]) ?_;refine gS (aD ?_);have hTq1:=hTwx.keep bq1;have hZq1:=hZwx.keep bq1;have kwq1:=kwwx.trans (bq1.mono kwwx.size);have kwxq1:=bq1;obtain ⟨d0,d1,d2,e0,e1,e2,lz⟩:=dA hZq1;go_wp2_with (go_at_call 23;refine (bB _ _ _).mono ?_;rintro e w9 ⟨rfl,hb9⟩;have hZ9:=hZq1.keep hb9;clear d0 d1 d2 e0 e1 e2 lz;obtain ⟨d0,d1,d2,e0,e1,e2,lz⟩:=dA hZ9;have g9:=kwq1.trans (hb9.mono kwq1.size))
    refine bodyPost_ret (v:=.tuple #[.agg (Ro 2 li none 0 0),.int .i64 (dL b)]) (by simp [results,results122,go_sem,d0,d1,d2]) rfl ⟨2,li,none,0,0,rfl,?_⟩;exact bT g9
  ·have hC1:=aD (fun (A2:Option Addr) (c2:Nat) (w:World) (hrc:Rd w C 0 ctx) (hrt:Rd w Ax 0 sx) (hr2:Rd w A2 0 sa)=>cC ih ctx C cc kx nx sx Ax cx ka na sa A2 c2 _ w h2 hvx hvc (by omega) hrc hrt (by omega) hr2);rcases aO hs with ⟨b,h3,rfl⟩|⟨u2,h3,hs⟩
   ·have hC2:=aD (fun (A2:Option Addr) (c2:Nat) (w:World) (hrc:Rd w C 0 ctx) (hrt:Rd w Ay 0 sy) (hr2:Rd w A2 0 sa)=>cC ih ctx C cc ky ny sy Ay cy ka na sa A2 c2 _ w h3 hvy hvc (by omega) hrc hrt (by omega) hr2);have qb:=iN b;clear hs h1 h2 h3 hva hvx hvy hvc ih;go_enter func122,ntmps122;go_upto_region 3 with (go_at_call 67;refine (hS1.out _ ((hrc.alloc _).alloc _) ((ra.alloc _).alloc _)).mono ?_;rintro e w1 ⟨rfl,hb1⟩;have hTw1:=cV hb1;have hZw1:=bH hb1;have kww1:Bw w w1:=bQ bw2 hb1;have ltw:=hTw1.lt)
    refine sT hTw1 hZw1 kww1 ?_;intro wx hTwx hZwx kwwx;have v2:=aF hTwx.three.2.2;obtain ⟨ux1,ux2,ux3⟩:=iI kwwx x1 x2 x3;obtain ⟨ua1,ua2,ua3⟩:=iI kwwx a1 a2 a3;refine dX wx [10] [0,1,2,3,4,5,6,7,8] 11 2 (lT:=[_,_,_,_,_,_,_,_,_]) ?_;intro q0 bq0;refine bV (aD ?_);refine bG 9 ?_
    ·go_wp2_with (go_at_call 46;refine (hC1.out _ _ _ ((hrc.below kwwx).below bq0) ((rx.below kwwx).below bq0) ((ra.below kwwx).below bq0)).mono ?_;rintro e q1 ⟨he,hbq1⟩;obtain rfl:e = .returned (.int .i64 0):=he)
     refine aY bq0 hbq1 ?_;intro bq1 lq1;refine cD [10] (lB:=[_]) ?_;refine gS (aD ?_);have hTq1:=hTwx.keep bq1;have hZq1:=hZwx.keep bq1;have kwq1:=kwwx.trans (bq1.mono kwwx.size);have kwxq1:=bq1;go_upto_region 5 with fail
     refine aWl hTq1 hZq1 kwq1 kwxq1 ?_;intro wu hTwu hZwu kwwu kwxwu;clear v2 ux1 ux2 ux3 ua1 ua2 ua3;have v2:=aF hTwu.three.2.2;obtain ⟨uy1,uy2,uy3⟩:=iI kwwu y1 y2 y3;obtain ⟨ua1,ua2,ua3⟩:=iI kwwu a1 a2 a3;refine dX wu [10] [0,1,2,3,4,5,6,7,8] 11 2 (lT:=[_,_,_,_,_,_,_,_,_]) ?_;intro q0 bq0;refine bV (aD ?_);refine bG 9 ?_
     ·go_wp2_with (go_at_call 46;refine (hC2.out _ _ _ ((hrc.below kwwu).below bq0) ((ry.below kwwu).below bq0) ((ra.below kwwu).below bq0)).mono ?_;rintro e q1 ⟨he,hbq1⟩;obtain rfl:e = .returned (.int .i64 (dL b)):=he)
      refine aY bq0 hbq1 ?_;intro bq1 lq1;refine cD [10] (lB:=[_]) ?_;refine gS (aD ?_);have hTq1:=hTwu.keep bq1;have hZq1:=hZwu.keep bq1;have kwq1:=kwwu.trans (bq1.mono kwwu.size);have kwxq1:=kwxwu.trans (bq1.mono kwxwu.size);have kwuq1:=bq1;obtain ⟨d0,d1,d2,e0,e1,e2,lz⟩:=dA hZq1;go_wp2_with (go_at_call 23;refine (bB _ _ _).mono ?_;rintro e w9 ⟨rfl,hb9⟩;have hZ9:=hZq1.keep hb9;clear d0 d1 d2 e0 e1 e2 lz;obtain ⟨d0,d1,d2,e0,e1,e2,lz⟩:=dA hZ9;have g9:=kwq1.trans (hb9.mono kwq1.size))
      refine bodyPost_ret (v:=.tuple #[.agg (Ro 2 li none 0 0),.int .i64 (dL b)]) (by simp [results,results122,go_sem,d0,d1,d2]) rfl ⟨2,li,none,0,0,rfl,?_⟩;exact bT g9
   ·have hC2:=aD (fun (A2:Option Addr) (c2:Nat) (w:World) (hrc:Rd w C 0 ctx) (hrt:Rd w Ay 0 sy) (hr2:Rd w A2 0 sa)=>cC ih ctx C cc ky ny sy Ay cy ka na sa A2 c2 _ w h3 hvy hvc (by omega) hrc hrt (by omega) hr2);injection hs with hs;subst hs;clear h1 h2 h3 hva hvx hvy hvc ih;go_enter func122,ntmps122;go_upto_region 3 with (go_at_call 67;refine (hS1.out _ ((hrc.alloc _).alloc _) ((ra.alloc _).alloc _)).mono ?_;rintro e w1 ⟨rfl,hb1⟩;have hTw1:=cV hb1;have hZw1:=bH hb1;have kww1:Bw w w1:=bQ bw2 hb1;have ltw:=hTw1.lt)
    refine sT hTw1 hZw1 kww1 ?_;intro wx hTwx hZwx kwwx;have v2:=aF hTwx.three.2.2;obtain ⟨ux1,ux2,ux3⟩:=iI kwwx x1 x2 x3;obtain ⟨ua1,ua2,ua3⟩:=iI kwwx a1 a2 a3;refine dX wx [10] [0,1,2,3,4,5,6,7,8] 11 2 (lT:=[_,_,_,_,_,_,_,_,_]) ?_;intro q0 bq0;refine bV (aD ?_);refine bG 9 ?_
    ·go_wp2_with (go_at_call 46;refine (hC1.out _ _ _ ((hrc.below kwwx).below bq0) ((rx.below kwwx).below bq0) ((ra.below kwwx).below bq0)).mono ?_;rintro e q1 ⟨he,hbq1⟩;obtain rfl:e = .returned (.int .i64 0):=he)
     refine aY bq0 hbq1 ?_;intro bq1 lq1;refine cD [10] (lB:=[_]) ?_;refine gS (aD ?_);have hTq1:=hTwx.keep bq1;have hZq1:=hZwx.keep bq1;have kwq1:=kwwx.trans (bq1.mono kwwx.size);have kwxq1:=bq1;go_upto_region 5 with fail
     refine aWl hTq1 hZq1 kwq1 kwxq1 ?_;intro wu hTwu hZwu kwwu kwxwu;clear v2 ux1 ux2 ux3 ua1 ua2 ua3;have v2:=aF hTwu.three.2.2;obtain ⟨uy1,uy2,uy3⟩:=iI kwwu y1 y2 y3;obtain ⟨ua1,ua2,ua3⟩:=iI kwwu a1 a2 a3;refine dX wu [10] [0,1,2,3,4,5,6,7,8] 11 2 (lT:=[_,_,_,_,_,_,_,_,_]) ?_;intro q0 bq0;refine bV (aD ?_);refine bG 9 ?_
     ·go_wp2_with (go_at_call 46;refine (hC2.out _ _ _ ((hrc.below kwwu).below bq0) ((ry.below kwwu).below bq0) ((ra.below kwwu).below bq0)).mono ?_;rintro e q1 ⟨he,hbq1⟩;obtain rfl:e = .returned (.int .i64 0):=he)
      refine aY bq0 hbq1 ?_;intro bq1 lq1;refine cD [10] (lB:=[_]) ?_;refine gS (aD ?_);have hTq1:=hTwu.keep bq1;have hZq1:=hZwu.keep bq1;have kwq1:=kwwu.trans (bq1.mono kwwu.size);have kwxq1:=kwxwu.trans (bq1.mono kwxwu.size);have kwuq1:=bq1;obtain ⟨d0,d1,d2,e0,e1,e2,lz⟩:=dA hZq1;go_wp2_with (go_at_call 23;refine (bB _ _ _).mono ?_;rintro e w9 ⟨rfl,hb9⟩;have hZ9:=hZq1.keep hb9;clear d0 d1 d2 e0 e1 e2 lz;obtain ⟨d0,d1,d2,e0,e1,e2,lz⟩:=dA hZ9;have g9:=kwq1.trans (hb9.mono kwq1.size))
      refine bodyPost_ret (v:=.tuple #[.agg (Ro 2 li none 0 0),.int .i64 0]) (by simp [results,results122,go_sem,d0,d1,d2]) rfl ⟨none,0,rfl,by simp,Rd.nil,?_⟩;exact bT g9
theorem aIz {N:Nat}(ih:nW N)(ctx:List Tm)(C:Option Addr)(cc:Nat)(k n:Int)(A:Option Addr)(c:Nat)(kp np:Int)(sp:List Tm)(ke ne:Int)(se:List Tm)(kz nz:Int)(sz:List Tm)(r:Rs Tm)(w:World)(hs:aWv (bJ N) ctx (.mk kp np sp) (.mk ke ne se) (.mk kz nz sz)=some r)(hvp:aE (.mk kp np sp)=true)(hve:aE (.mk ke ne se)=true)(hvz:aE (.mk kz nz sz)=true)(hvc:∀u,u∈ctx→aE u=true)(hm:ctx.length≤20)(hrc:Rd w C 0 ctx)(hr:Rd w A 0 [.mk kp np sp,.mk ke ne se,.mk kz nz sz]) :
  Calls prog 123 #[.slice C ctx.length cc,.agg (Ro k n A 3 c)] w (oH w r):=by
 have hszp:=aJ hvp;obtain ⟨bk,ok,Ap,cp,rfl,p1,p2,p3,hlp,rp⟩:=kZ hr;obtain ⟨Ae,ce,e1,e2,e3,hle,re⟩:=tI hr;obtain ⟨Az,cz,z1,z2,z3,hlz,rz⟩:=kd2 hr;simp only [Nat.zero_mul,Nat.add_zero,Nat.one_mul,Nat.reduceMul] at p1 p2 p3 e1 e2 e3 z1 z2 z3
 have lbp:=kY _ _ p1;rcases aO hs with ⟨b,h1,rfl⟩|⟨⟨k3,n3,s3⟩,h1,hs⟩
 ·have hS1:=aD (fun (w:World) (hrc:Rd w C 0 ctx) (hre:Rd w Ae 0 se)=>fY ih ctx C cc ke ne se Ae ce 10 _ w h1 hve hvc (by omega) hrc hre);have qb:=fF b;clear hs h1 hvp hve hvz hvc ih;go_enter func123,ntmps123;go_wp2_with (go_at_call 139;refine (hS1.out _ ((hrc.alloc _).alloc _) ((re.alloc _).alloc _)).mono ?_;rintro e w1 ⟨k3,n3,A3,l3,c3,rfl,hb1⟩;have hTw1:=cV hb1;have hZw1:=bH hb1;have kww1:Bw w w1:=bQ bw2 hb1;have ltw:=hTw1.lt;have g2:=kww1.alloc kww1.size (.cells (Ro k3 n3 A3 l3 c3) 25);have hZ2:=hZw1.alloc (.cells (Ro k3 n3 A3 l3 c3) 25);obtain ⟨d0,d1,d2,e0,e1,e2,lz⟩:=dA hZ2)
  refine bodyPost_ret (v:=.tuple #[.agg Zr,.int .i64 (dL b)]) (by simp [results,results123,go_sem,d0,d1,d2]) rfl ⟨0,0,none,0,0,rfl,?_⟩;exact bT g2
 ·obtain ⟨hk3,hv3⟩:=nR h1;obtain rfl:k3=10:=hk3;obtain ⟨kha,nha,sha,khb,nhb,shb,khd,nhd,shd,rfl⟩:=aTc (k:=10) rfl hv3;have hszha:aH sha≤400:=aJ (show aE (.mk kha nha sha)=true from aV (i:=0) hv3 (by simp));have hszhb:aH shb≤400:=aJ (show aE (.mk khb nhb shb)=true from aV (i:=1) hv3 (by simp));have hvha:=aD (show aE (.mk kha nha sha)=true from aV (i:=0) hv3 (by simp));have hvl:=aD (show ∀t,t∈[.mk kp np sp,.mk khd nhd shd]→aE t=true from fun t ht=>by
   have hd:=aV (i:=2) hv3 (by simp);rcases List.mem_cons.1 ht with rfl|ht
   ·exact hvp
   ·rw [List.mem_singleton.1 ht];exact hd)
  have hS1:=aD (fun (w:World) (hrc:Rd w C 0 ctx) (hre:Rd w Ae 0 se)=>fY ih ctx C cc ke ne se Ae ce 10 _ w h1 hve hvc (by omega) hrc hre);replace hs:bd (aFk (bJ N) ctx (.mk kp np sp) (.mk kha nha sha)) (fun _=>bd (iL (bJ N) ctx (.mk kz nz sz) (.mk 5 0 [.mk kp np sp,.mk khb nhb shb])) fun _=>some (.ok (.mk 5 0 [.mk kp np sp,.mk khd nhd shd])))=some r:=hs;rcases aO hs with ⟨b,h2,rfl⟩|⟨u1,h2,hs⟩
  ·have hF:=aD (fun (A2:Option Addr) (c2:Nat) (w:World) (hrc:Rd w C 0 ctx) (hrp:Rd w Ap 0 sp) (hr2:Rd w A2 0 sha)=>lL ih ctx C cc kp np sp Ap cp kha nha sha A2 c2 _ w h2 hvp (by omega) hvc hm hrc hrp hr2);have qb:=iN b;clear hs h1 h2 hvp hve hvz hvc ih hv3;go_enter func123,ntmps123;go_upto_region 4 with (go_at_call 139;refine (hS1.out _ ((hrc.alloc _).alloc _) ((re.alloc _).alloc _)).mono ?_;rintro e w1 ⟨A3,c3,rfl,hl3,r3,hb1⟩;have hTw1:=cV hb1;have hZw1:=bH hb1;have kww1:Bw w w1:=bQ bw2 hb1;have ltw:=hTw1.lt)
   refine rL (hTw1.alloc _) (hZw1.alloc _) (show Blk _ w1.heap.size (Ro 10 n3 A3 3 c3) from (aC _ 25 _ (by simp))) (kww1.alloc (by have:=kww1.size;simp<;>omega) _) ?_;intro wx hTwx hZwx hKwx kwwx hwwx;have r3x:Rd wx A3 0 [.mk kha nha sha,.mk khb nhb shb,.mk khd nhd shd]:=by rw [hwwx];exact r3.alloc _
   clear hwwx;obtain ⟨bh,oh,Aha,cha,rfl,ha1,ha2,ha3,hlha,rha⟩:=kZ r3x;obtain ⟨Ahb,chb,hb1,hb2,hb3,hlhb,rhb⟩:=tI r3x;obtain ⟨Ahd,chd,qE,rW,sR,hlhd,rhd⟩:=kd2 r3x;simp only [Nat.zero_mul,Nat.add_zero,Nat.one_mul,Nat.reduceMul] at ha1 ha2 ha3 hb1 hb2 hb3 qE rW sR
   replace hKwx:Blk wx w1.heap.size (Ro 10 n3 (some ⟨bh,oh,none⟩) 3 c3):=hKwx;have v2:=aF hTwx.three.2.2;have kq:=aF hKwx.three.2.2;obtain ⟨up1,up2,up3⟩:=iI kwwx p1 p2 p3;obtain ⟨uha1,uha2,uha3⟩:=rN ha1 ha2 ha3;refine dX wx [10] [0,1,2,3,4,5,6,7,8] 11 2 (lT:=[_,_,_,_,_,_,_,_,_]) ?_;intro q0 bq0;refine bV (aD ?_);refine bG 9 ?_
   ·go_wp2_with (go_at_call 140;refine (hF.out _ _ _ ((hrc.below kwwx).below bq0) ((rp.below kwwx).below bq0) (rha.below bq0)).mono ?_;rintro e q1 ⟨he,hbq1⟩;obtain rfl:e = .returned (.int .i64 (dL b)):=he)
    refine aY bq0 hbq1 ?_;intro bq1 lq1;refine cD [10] (lB:=[_]) ?_;refine gS (aD ?_);have hTq1:=hTwx.keep bq1;have hZq1:=hZwx.keep bq1;have hKq1:=hKwx.keep bq1;have kwq1:=kwwx.trans (bq1.mono kwwx.size);have kwxq1:=bq1;go_upto_region 7 with fail
    refine aJh hTq1 hZq1 hKq1 kwq1 kwxq1 ?_;intro wl hTwl hZwl hKwl kwwl kwxwl;clear v2 kq;have lTz:=hTwl.lt;have lZz:=hZwl.lt;have lwx:=hZwx.lt;have lw1:=hZw1.lt;have nz0:bk≠(w.heap.size+1):=by omega
    have nz1:w.heap.size≠(w.heap.size+1):=by omega
    have nz2:w1.heap.size≠(w.heap.size+1):=by omega
    have nz3:bh≠(w.heap.size+1):=fun e=>aNt hZwx (show aE (.mk kha nha sha)=true from hvha.out) (e▸ha1)
    have v2:=dZ (z:=(w.heap.size+1)) hTwl.three.2.2 nz1;have kq:=dZ (z:=(w.heap.size+1)) hKwl.three.2.2 nz2;obtain ⟨yp1,yp2,yp3⟩:=rk3 kwwl nz0 p1 p2 p3;obtain ⟨yhd1,yhd2,yhd3⟩:=rk3 kwxwl nz3 qE rW sR;refine gBk wl (w.heap.size+1) [12] [0,1,2,3,4,5,6,7,10] 13 4 (lT:=[_,_,_,_,_,_,_,_,_]) ?_;intro q0 bq0 keq0;refine bV (aD ?_);refine bG 8 ?_;go_wp2_with fail
    refine dO ?_;intro q1 hbq1 zq1 seq1;refine xU bq0 hbq1 ?_;intro bq1 lq1 keq1;refine bG 9 ?_;go_wp2_with (go_at_call 31;refine (bP 5 (aT hlp ((rp.below kwwl).below bq1).rdp (aT hlhd ((rhd.below kwxwl).below bq1).rdp cB)) 2 rfl (by omega) _ _ zq1).mono ?_;rintro e q2 ⟨A7,c7,rfl,r7,hbq2⟩)
    refine xU bq1 hbq2 ?_;intro bq2 lq2 keq2;refine bG 11 ?_;have hZz:=hZwl.keep bq2;obtain ⟨d0,d1,d2,e0,e1,e2,lz⟩:=dA hZz;go_wp2_with fail
    refine cK ?_;intro q3 hn;have hZq3:Blk q3 (w.heap.size+1) (Ro 5 0 A7 2 c7):=by rw [hn];exact ((hZz.set_ 0 _).set_ 1 _).set_ 2 _
    have rq3:Rd q3 A7 0 [.mk kp np sp,.mk khd nhd shd]:=by rw [hn];exact eG hZz hvl.out r7 _ _ _
    have kwq3:Bw w q3:=by rw [hn];exact (bT (kwwl.trans (bq2.mono kwwl.size)))
    have keq3:KE wl (w.heap.size+1) q3:=by rw [hn];exact ((keq2.set _ _).set _ _).set _ _
    clear hn d0 d1 d2 e0 e1 e2 lz;refine aP keq3 ?_;refine cD [12] (lB:=[_]) ?_;refine gS (aD ?_);obtain ⟨d0,d1,d2,e0,e1,e2,lz⟩:=dA hZq3;go_wp2_with fail
    refine bodyPost_ret (v:=.tuple #[.agg (Ro 5 0 A7 2 c7),.int .i64 (dL b)]) (by simp [results,results123,go_sem,d0,d1,d2]) rfl ⟨5,0,A7,2,c7,rfl,kwq3⟩
  ·have hF:=aD (fun (A2:Option Addr) (c2:Nat) (w:World) (hrc:Rd w C 0 ctx) (hrp:Rd w Ap 0 sp) (hr2:Rd w A2 0 sha)=>lL ih ctx C cc kp np sp Ap cp kha nha sha A2 c2 _ w h2 hvp (by omega) hvc hm hrc hrp hr2);rcases aO hs with ⟨b,h3,rfl⟩|⟨u2,h3,hs⟩
   ·have hC1:=aD (fun (A2:Option Addr) (c2:Nat) (w:World) (hrc:Rd w C 0 ctx) (hrt:Rd w Az 0 sz) (hr2:Rd w A2 0 [.mk kp np sp,.mk khb nhb shb])=>cC ih ctx C cc kz nz sz Az cz 5 0 [.mk kp np sp,.mk khb nhb shb] A2 c2 _ w h3 hvz hvc (by omega) hrc hrt (by simp only [aH,Tm.size];omega) hr2);have qb:=iN b;clear hs h1 h2 h3 hvp hve hvz hvc ih hv3;go_enter func123,ntmps123;go_upto_region 4 with (go_at_call 139;refine (hS1.out _ ((hrc.alloc _).alloc _) ((re.alloc _).alloc _)).mono ?_;rintro e w1 ⟨A3,c3,rfl,hl3,r3,hb1⟩;have hTw1:=cV hb1;have hZw1:=bH hb1;have kww1:Bw w w1:=bQ bw2 hb1;have ltw:=hTw1.lt)
    refine rL (hTw1.alloc _) (hZw1.alloc _) (show Blk _ w1.heap.size (Ro 10 n3 A3 3 c3) from (aC _ 25 _ (by simp))) (kww1.alloc (by have:=kww1.size;simp<;>omega) _) ?_;intro wx hTwx hZwx hKwx kwwx hwwx;have r3x:Rd wx A3 0 [.mk kha nha sha,.mk khb nhb shb,.mk khd nhd shd]:=by rw [hwwx];exact r3.alloc _
    clear hwwx;obtain ⟨bh,oh,Aha,cha,rfl,ha1,ha2,ha3,hlha,rha⟩:=kZ r3x;obtain ⟨Ahb,chb,hb1,hb2,hb3,hlhb,rhb⟩:=tI r3x;obtain ⟨Ahd,chd,qE,rW,sR,hlhd,rhd⟩:=kd2 r3x;simp only [Nat.zero_mul,Nat.add_zero,Nat.one_mul,Nat.reduceMul] at ha1 ha2 ha3 hb1 hb2 hb3 qE rW sR
    replace hKwx:Blk wx w1.heap.size (Ro 10 n3 (some ⟨bh,oh,none⟩) 3 c3):=hKwx;have v2:=aF hTwx.three.2.2;have kq:=aF hKwx.three.2.2;obtain ⟨up1,up2,up3⟩:=iI kwwx p1 p2 p3;obtain ⟨uha1,uha2,uha3⟩:=rN ha1 ha2 ha3;refine dX wx [10] [0,1,2,3,4,5,6,7,8] 11 2 (lT:=[_,_,_,_,_,_,_,_,_]) ?_;intro q0 bq0;refine bV (aD ?_);refine bG 9 ?_
    ·go_wp2_with (go_at_call 140;refine (hF.out _ _ _ ((hrc.below kwwx).below bq0) ((rp.below kwwx).below bq0) (rha.below bq0)).mono ?_;rintro e q1 ⟨he,hbq1⟩;obtain rfl:e = .returned (.int .i64 0):=he)
     refine aY bq0 hbq1 ?_;intro bq1 lq1;refine cD [10] (lB:=[_]) ?_;refine gS (aD ?_);have hTq1:=hTwx.keep bq1;have hZq1:=hZwx.keep bq1;have hKq1:=hKwx.keep bq1;have kwq1:=kwwx.trans (bq1.mono kwwx.size);have kwxq1:=bq1;go_upto_region 6 with fail
     refine aJh hTq1 hZq1 hKq1 kwq1 kwxq1 ?_;intro wu hTwu hZwu hKwu kwwu kwxwu;clear v2 kq up1 up2 up3 uha1 uha2 uha3;have v2:=aF hTwu.three.2.2;have kq:=aF hKwu.three.2.2;obtain ⟨uz1,uz2,uz3⟩:=iI kwwu z1 z2 z3;obtain ⟨up1,up2,up3⟩:=iI kwwu p1 p2 p3;obtain ⟨uhb1,uhb2,uhb3⟩:=iI kwxwu hb1 hb2 hb3;refine dX wu [16] [0,1,2,3,4,5,6,7,8,9,10,11,12] 17 4 (lT:=[_,_,_,_,_,_,_,_,_,_,_,_,_]) ?_;intro q0 bq0;refine bV (aD ?_);refine bG 13 ?_
     ·go_wp2_with fail
      refine dO ?_;intro q1 hbq1 zq1 seq1;refine aY bq0 hbq1 ?_;intro bq1 lq1;refine bG 14 ?_
      ·go_wp2_with (go_at_call 31;refine (bP 5 (aT hlp ((rp.below kwwu).below bq1).rdp (aT hlhb ((rhb.below kwxwu).below bq1).rdp cB)) 2 rfl (by omega) _ _ zq1).mono ?_;rintro e q2 ⟨A7,c7,rfl,r7,hbq2⟩)
       refine aY bq1 hbq2 ?_;intro bq2 lq2;refine bG 15 ?_
       ·go_wp2_with (go_at_call 46;refine (hC1.out _ _ _ ((hrc.below kwwu).below bq2) ((rz.below kwwu).below bq2) r7).mono ?_;rintro e q3 ⟨he,hbq3⟩;obtain rfl:e = .returned (.int .i64 (dL b)):=he)
        refine aY bq2 hbq3 ?_;intro bq3 lq3;refine cD [16] (lB:=[_]) ?_;refine gS (aD ?_);have hTq3:=hTwu.keep bq3;have hZq3:=hZwu.keep bq3;have hKq3:=hKwu.keep bq3;have kwq3:=kwwu.trans (bq3.mono kwwu.size);have kwxq3:=kwxwu.trans (bq3.mono kwxwu.size);have kwuq3:=bq3;go_upto_region 7 with fail
        refine aWy hTq3 hZq3 hKq3 kwq3 kwxq3 kwuq3 ?_;intro wl hTwl hZwl hKwl kwwl kwxwl kwuwl;clear v2 kq;have lTz:=hTwl.lt;have lZz:=hZwl.lt;have lwx:=hZwx.lt;have lw1:=hZw1.lt;have nz0:bk≠(w.heap.size+1):=by omega
        have nz1:w.heap.size≠(w.heap.size+1):=by omega
        have nz2:w1.heap.size≠(w.heap.size+1):=by omega
        have nz3:bh≠(w.heap.size+1):=fun e=>aNt hZwx (show aE (.mk kha nha sha)=true from hvha.out) (e▸ha1)
        have v2:=dZ (z:=(w.heap.size+1)) hTwl.three.2.2 nz1;have kq:=dZ (z:=(w.heap.size+1)) hKwl.three.2.2 nz2;obtain ⟨yp1,yp2,yp3⟩:=rk3 kwwl nz0 p1 p2 p3;obtain ⟨yhd1,yhd2,yhd3⟩:=rk3 kwxwl nz3 qE rW sR;refine gBk wl (w.heap.size+1) [12] [0,1,2,3,4,5,6,7,10] 13 4 (lT:=[_,_,_,_,_,_,_,_,_]) ?_;intro q0 bq0 keq0;refine bV (aD ?_);refine bG 8 ?_;go_wp2_with fail
        refine dO ?_;intro q1 hbq1 zq1 seq1;refine xU bq0 hbq1 ?_;intro bq1 lq1 keq1;refine bG 9 ?_;go_wp2_with (go_at_call 31;refine (bP 5 (aT hlp ((rp.below kwwl).below bq1).rdp (aT hlhd ((rhd.below kwxwl).below bq1).rdp cB)) 2 rfl (by omega) _ _ zq1).mono ?_;rintro e q2 ⟨A7,c7,rfl,r7,hbq2⟩)
        refine xU bq1 hbq2 ?_;intro bq2 lq2 keq2;refine bG 11 ?_;have hZz:=hZwl.keep bq2;obtain ⟨d0,d1,d2,e0,e1,e2,lz⟩:=dA hZz;go_wp2_with fail
        refine cK ?_;intro q3 hn;have hZq3:Blk q3 (w.heap.size+1) (Ro 5 0 A7 2 c7):=by rw [hn];exact ((hZz.set_ 0 _).set_ 1 _).set_ 2 _
        have rq3:Rd q3 A7 0 [.mk kp np sp,.mk khd nhd shd]:=by rw [hn];exact eG hZz hvl.out r7 _ _ _
        have kwq3:Bw w q3:=by rw [hn];exact (bT (kwwl.trans (bq2.mono kwwl.size)))
        have keq3:KE wl (w.heap.size+1) q3:=by rw [hn];exact ((keq2.set _ _).set _ _).set _ _
        clear hn d0 d1 d2 e0 e1 e2 lz;refine aP keq3 ?_;refine cD [12] (lB:=[_]) ?_;refine gS (aD ?_);obtain ⟨d0,d1,d2,e0,e1,e2,lz⟩:=dA hZq3;go_wp2_with fail
        refine bodyPost_ret (v:=.tuple #[.agg (Ro 5 0 A7 2 c7),.int .i64 (dL b)]) (by simp [results,results123,go_sem,d0,d1,d2]) rfl ⟨5,0,A7,2,c7,rfl,kwq3⟩
   ·have hC1:=aD (fun (A2:Option Addr) (c2:Nat) (w:World) (hrc:Rd w C 0 ctx) (hrt:Rd w Az 0 sz) (hr2:Rd w A2 0 [.mk kp np sp,.mk khb nhb shb])=>cC ih ctx C cc kz nz sz Az cz 5 0 [.mk kp np sp,.mk khb nhb shb] A2 c2 _ w h3 hvz hvc (by omega) hrc hrt (by simp only [aH,Tm.size];omega) hr2);injection hs with hs;subst hs;clear h1 h2 h3 hvp hve hvz hvc ih hv3;go_enter func123,ntmps123;go_upto_region 4 with (go_at_call 139;refine (hS1.out _ ((hrc.alloc _).alloc _) ((re.alloc _).alloc _)).mono ?_;rintro e w1 ⟨A3,c3,rfl,hl3,r3,hb1⟩;have hTw1:=cV hb1;have hZw1:=bH hb1;have kww1:Bw w w1:=bQ bw2 hb1;have ltw:=hTw1.lt)
    refine rL (hTw1.alloc _) (hZw1.alloc _) (show Blk _ w1.heap.size (Ro 10 n3 A3 3 c3) from (aC _ 25 _ (by simp))) (kww1.alloc (by have:=kww1.size;simp<;>omega) _) ?_;intro wx hTwx hZwx hKwx kwwx hwwx;have r3x:Rd wx A3 0 [.mk kha nha sha,.mk khb nhb shb,.mk khd nhd shd]:=by rw [hwwx];exact r3.alloc _
    clear hwwx;obtain ⟨bh,oh,Aha,cha,rfl,ha1,ha2,ha3,hlha,rha⟩:=kZ r3x;obtain ⟨Ahb,chb,hb1,hb2,hb3,hlhb,rhb⟩:=tI r3x;obtain ⟨Ahd,chd,qE,rW,sR,hlhd,rhd⟩:=kd2 r3x;simp only [Nat.zero_mul,Nat.add_zero,Nat.one_mul,Nat.reduceMul] at ha1 ha2 ha3 hb1 hb2 hb3 qE rW sR
    replace hKwx:Blk wx w1.heap.size (Ro 10 n3 (some ⟨bh,oh,none⟩) 3 c3):=hKwx;have v2:=aF hTwx.three.2.2;have kq:=aF hKwx.three.2.2;obtain ⟨up1,up2,up3⟩:=iI kwwx p1 p2 p3;obtain ⟨uha1,uha2,uha3⟩:=rN ha1 ha2 ha3;refine dX wx [10] [0,1,2,3,4,5,6,7,8] 11 2 (lT:=[_,_,_,_,_,_,_,_,_]) ?_;intro q0 bq0;refine bV (aD ?_);refine bG 9 ?_
    ·go_wp2_with (go_at_call 140;refine (hF.out _ _ _ ((hrc.below kwwx).below bq0) ((rp.below kwwx).below bq0) (rha.below bq0)).mono ?_;rintro e q1 ⟨he,hbq1⟩;obtain rfl:e = .returned (.int .i64 0):=he)
     refine aY bq0 hbq1 ?_;intro bq1 lq1;refine cD [10] (lB:=[_]) ?_;refine gS (aD ?_);have hTq1:=hTwx.keep bq1;have hZq1:=hZwx.keep bq1;have hKq1:=hKwx.keep bq1;have kwq1:=kwwx.trans (bq1.mono kwwx.size);have kwxq1:=bq1;go_upto_region 6 with fail
     refine aJh hTq1 hZq1 hKq1 kwq1 kwxq1 ?_;intro wu hTwu hZwu hKwu kwwu kwxwu;clear v2 kq up1 up2 up3 uha1 uha2 uha3;have v2:=aF hTwu.three.2.2;have kq:=aF hKwu.three.2.2;obtain ⟨uz1,uz2,uz3⟩:=iI kwwu z1 z2 z3;obtain ⟨up1,up2,up3⟩:=iI kwwu p1 p2 p3;obtain ⟨uhb1,uhb2,uhb3⟩:=iI kwxwu hb1 hb2 hb3;refine dX wu [16] [0,1,2,3,4,5,6,7,8,9,10,11,12] 17 4 (lT:=[_,_,_,_,_,_,_,_,_,_,_,_,_]) ?_;intro q0 bq0;refine bV (aD ?_);refine bG 13 ?_
     ·go_wp2_with fail
      refine dO ?_;intro q1 hbq1 zq1 seq1;refine aY bq0 hbq1 ?_;intro bq1 lq1;refine bG 14 ?_
      ·go_wp2_with (go_at_call 31;refine (bP 5 (aT hlp ((rp.below kwwu).below bq1).rdp (aT hlhb ((rhb.below kwxwu).below bq1).rdp cB)) 2 rfl (by omega) _ _ zq1).mono ?_;rintro e q2 ⟨A7,c7,rfl,r7,hbq2⟩)
       refine aY bq1 hbq2 ?_;intro bq2 lq2;refine bG 15 ?_
       ·go_wp2_with (go_at_call 46;refine (hC1.out _ _ _ ((hrc.below kwwu).below bq2) ((rz.below kwwu).below bq2) r7).mono ?_;rintro e q3 ⟨he,hbq3⟩;obtain rfl:e = .returned (.int .i64 0):=he)
        refine aY bq2 hbq3 ?_;intro bq3 lq3;refine cD [16] (lB:=[_]) ?_;refine gS (aD ?_);have hTq3:=hTwu.keep bq3;have hZq3:=hZwu.keep bq3;have hKq3:=hKwu.keep bq3;have kwq3:=kwwu.trans (bq3.mono kwwu.size);have kwxq3:=kwxwu.trans (bq3.mono kwxwu.size);have kwuq3:=bq3;go_upto_region 7 with fail
        refine aWy hTq3 hZq3 hKq3 kwq3 kwxq3 kwuq3 ?_;intro wl hTwl hZwl hKwl kwwl kwxwl kwuwl;clear v2 kq;have lTz:=hTwl.lt;have lZz:=hZwl.lt;have lwx:=hZwx.lt;have lw1:=hZw1.lt;have nz0:bk≠(w.heap.size+1):=by omega
        have nz1:w.heap.size≠(w.heap.size+1):=by omega
        have nz2:w1.heap.size≠(w.heap.size+1):=by omega
        have nz3:bh≠(w.heap.size+1):=fun e=>aNt hZwx (show aE (.mk kha nha sha)=true from hvha.out) (e▸ha1)
        have v2:=dZ (z:=(w.heap.size+1)) hTwl.three.2.2 nz1;have kq:=dZ (z:=(w.heap.size+1)) hKwl.three.2.2 nz2;obtain ⟨yp1,yp2,yp3⟩:=rk3 kwwl nz0 p1 p2 p3;obtain ⟨yhd1,yhd2,yhd3⟩:=rk3 kwxwl nz3 qE rW sR;refine gBk wl (w.heap.size+1) [12] [0,1,2,3,4,5,6,7,10] 13 4 (lT:=[_,_,_,_,_,_,_,_,_]) ?_;intro q0 bq0 keq0;refine bV (aD ?_);refine bG 8 ?_;go_wp2_with fail
        refine dO ?_;intro q1 hbq1 zq1 seq1;refine xU bq0 hbq1 ?_;intro bq1 lq1 keq1;refine bG 9 ?_;go_wp2_with (go_at_call 31;refine (bP 5 (aT hlp ((rp.below kwwl).below bq1).rdp (aT hlhd ((rhd.below kwxwl).below bq1).rdp cB)) 2 rfl (by omega) _ _ zq1).mono ?_;rintro e q2 ⟨A7,c7,rfl,r7,hbq2⟩)
        refine xU bq1 hbq2 ?_;intro bq2 lq2 keq2;refine bG 11 ?_;have hZz:=hZwl.keep bq2;obtain ⟨d0,d1,d2,e0,e1,e2,lz⟩:=dA hZz;go_wp2_with fail
        refine cK ?_;intro q3 hn;have hZq3:Blk q3 (w.heap.size+1) (Ro 5 0 A7 2 c7):=by rw [hn];exact ((hZz.set_ 0 _).set_ 1 _).set_ 2 _
        have rq3:Rd q3 A7 0 [.mk kp np sp,.mk khd nhd shd]:=by rw [hn];exact eG hZz hvl.out r7 _ _ _
        have kwq3:Bw w q3:=by rw [hn];exact (bT (kwwl.trans (bq2.mono kwwl.size)))
        have keq3:KE wl (w.heap.size+1) q3:=by rw [hn];exact ((keq2.set _ _).set _ _).set _ _
        clear hn d0 d1 d2 e0 e1 e2 lz;refine aP keq3 ?_;refine cD [12] (lB:=[_]) ?_;refine gS (aD ?_);obtain ⟨d0,d1,d2,e0,e1,e2,lz⟩:=dA hZq3;go_wp2_with fail
        refine bodyPost_ret (v:=.tuple #[.agg (Ro 5 0 A7 2 c7),.int .i64 0]) (by simp [results,results123,go_sem,d0,d1,d2]) rfl ⟨A7,c7,rfl,by simp,rq3,kwq3⟩
theorem aJw {N:Nat}(ih:nW N)(ctx:List Tm)(C:Option Addr)(cc:Nat)(k n:Int)(A:Option Addr)(c:Nat)(kf nf:Int)(sf:List Tm)(ka na:Int)(sa:List Tm)(kb nb:Int)(sb:List Tm)(r:Rs Tm)(w:World)(hs:aTv (bJ N) ctx (.mk kf nf sf) (.mk ka na sa) (.mk kb nb sb)=some r)(hvf:aE (.mk kf nf sf)=true)(hva:aE (.mk ka na sa)=true)(hvb:aE (.mk kb nb sb)=true)(hvc:∀u,u∈ctx→aE u=true)(hm:ctx.length≤20)(hrc:Rd w C 0 ctx)(hr:Rd w A 0 [.mk kf nf sf,.mk ka na sa,.mk kb nb sb]) :
  Calls prog 124 #[.slice C ctx.length cc,.agg (Ro k n A 3 c)] w (oH w r):=by
 have hsza:=aJ hva;have hvf':=aD hvf;obtain ⟨bk,ok,Af,cf,rfl,f1,f2,f3,hlf,rf⟩:=kZ hr;obtain ⟨Aa,ca,a1,a2,a3,hla,ra⟩:=tI hr;obtain ⟨Ab,cb,b1,b2,b3,hlb,rb⟩:=kd2 hr;simp only [Nat.zero_mul,Nat.add_zero,Nat.one_mul,Nat.reduceMul] at f1 f2 f3 a1 a2 a3 b1 b2 b3
 have lbp:=kY _ _ f1;rcases aO hs with ⟨b,h1,rfl⟩|⟨li,h1,hs⟩
 ·have hS1:=aD (fun (w:World) (hrc:Rd w C 0 ctx) (hrs:Rd w Af 0 sf)=>eA ih ctx C cc kf nf sf Af cf _ w h1 hvf hvc (by omega) hrc hrs);have qb:=fF b;clear hs h1 hvf hva hvb hvc ih;go_enter func124,ntmps124;go_wp2_with (go_at_call 67;refine (hS1.out _ ((hrc.alloc _).alloc _) ((rf.alloc _).alloc _)).mono ?_;rintro e w1 ⟨l1,rfl,hb1⟩;have hTw1:=cV hb1;have hZw1:=bH hb1;have kww1:Bw w w1:=bQ bw2 hb1;have ltw:=hTw1.lt;obtain ⟨mf1,mf2,mf3⟩:=xY kww1 f1 f2 f3;have t2:=hTw1.three.2.2;obtain ⟨d0,d1,d2,e0,e1,e2,lz⟩:=dA hZw1)
  refine bodyPost_ret (v:=.tuple #[.agg Zr,.int .i64 (dL b)]) (by simp [results,results124,go_sem,d0,d1,d2]) rfl ⟨0,0,none,0,0,rfl,?_⟩;exact ((kww1.setCell (by simp<;>omega) _).setCell (by simp<;>omega) _).setCell (by simp<;>omega) _
 ·have hS1:=aD (fun (w:World) (hrc:Rd w C 0 ctx) (hrs:Rd w Af 0 sf)=>eA ih ctx C cc kf nf sf Af cf _ w h1 hvf hvc (by omega) hrc hrs);have hH:=aD (fun (w:World) (hr:Rd w Af 0 sf)=>sI kf nf sf Af cf w hvf hr);rcases aO hs with ⟨b,h2,rfl⟩|⟨⟨k3,n3,s3⟩,h2,hs⟩
  ·injection h2 with h2;rw [h2] at hH;have qb:=fF b;clear hs h1 h2 hvf hva hvb hvc ih;go_enter func124,ntmps124;go_wp2_with (first
    | (go_at_call 88;have _t:=tok;refine (hH.out _ (rf.below kww1)).mono ?_;rintro e w2 ⟨k3,n3,A3,l3,c3,rfl,hb2⟩;have hTw2:=hTw1.keep hb2;have hZw2:=hZw1.keep hb2;have kww2:=kww1.trans (hb2.mono kww1.size);have g3:=kww2.alloc kww2.size (.cells (Ro k3 n3 A3 l3 c3) 25);have hZ3:=hZw2.alloc (.cells (Ro k3 n3 A3 l3 c3) 25);obtain ⟨d0,d1,d2,e0,e1,e2,lz⟩:=dA hZ3)
    | (go_at_call 67;refine (hS1.out _ ((hrc.alloc _).alloc _) ((rf.alloc _).alloc _)).mono ?_;rintro e w1 ⟨rfl,hb1⟩;have hTw1:=cV hb1;have hZw1:=bH hb1;have kww1:Bw w w1:=bQ bw2 hb1;have ltw:=hTw1.lt;obtain ⟨mf1,mf2,mf3⟩:=xY kww1 f1 f2 f3;have t2:=hTw1.three.2.2;have tok:=trivial))
   refine bodyPost_ret (v:=.tuple #[.agg Zr,.int .i64 (dL b)]) (by simp [results,results124,go_sem,d0,d1,d2]) rfl ⟨0,0,none,0,0,rfl,?_⟩;exact bT g3
  ·injection h2 with h2;have hv3:=(eL h2).2.1;rw [h2] at hH;unfold gU at hs
   by_cases hk:k3=13
   ·subst hk;rw [if_pos (show (Tm.mk 13 n3 s3).k=13 from rfl)] at hs;obtain ⟨kha,nha,sha,khb,nhb,shb,rfl⟩:=zY (k:=13) rfl hv3;have hszha:aH sha≤400:=aJ (show aE (.mk kha nha sha)=true from aV (i:=0) hv3 (by simp));have hvhb:aE (.mk khb nhb shb)=true:=aV (i:=1) hv3 (by simp);have hszhb:=aJ hvhb;replace hs:bd (iL (bJ N) ctx (.mk ka na sa) (.mk kha nha sha)) (fun _=>bd (iL (bJ N) ctx (.mk kb nb sb) (dC (.mk ka na sa) 0 0 (.mk khb nhb shb))) fun _=>some (.ok (.mk kf nf sf)))=some r:=hs;rcases aO hs with ⟨b,h3,rfl⟩|⟨u1,h3,hs⟩
    ·have hC1:=aD (fun (A2:Option Addr) (c2:Nat) (w:World) (hrc:Rd w C 0 ctx) (hrt:Rd w Aa 0 sa) (hr2:Rd w A2 0 sha)=>cC ih ctx C cc ka na sa Aa ca kha nha sha A2 c2 _ w h3 hva hvc (by omega) hrc hrt (by omega) hr2);have qb:=iN b;clear hs h1 h2 h3 hvf hva hvb hvc ih hv3 hvhb;go_enter func124,ntmps124;go_upto_region 9 with (first
      | (go_at_call 88;have _t:=tok;refine (hH.out _ (rf.below kww1)).mono ?_;rintro e w2 ⟨A3,c3,rfl,hl3,r3,hb2⟩;have hTw2:=hTw1.keep hb2;have hZw2:=hZw1.keep hb2;have kww2:=kww1.trans (hb2.mono kww1.size);have hK3:=aC w2 25 (Ro 13 n3 A3 2 c3) rfl;have y0:=hK3.three.1)
      | (go_at_call 67;refine (hS1.out _ ((hrc.alloc _).alloc _) ((rf.alloc _).alloc _)).mono ?_;rintro e w1 ⟨rfl,hb1⟩;have hTw1:=cV hb1;have hZw1:=bH hb1;have kww1:Bw w w1:=bQ bw2 hb1;have ltw:=hTw1.lt;obtain ⟨mf1,mf2,mf3⟩:=xY kww1 f1 f2 f3;have t2:=hTw1.three.2.2;have tok:=trivial))
     refine rL (hTw2.alloc _) (hZw2.alloc _) (show Blk _ w2.heap.size (Ro 13 n3 A3 2 c3) from (aC _ 25 _ (by simp))) (kww2.alloc (by have:=kww2.size;simp<;>omega) _) ?_;intro wx hTwx hZwx hKwx kwwx hwwx;have r3x:Rd wx A3 0 [.mk kha nha sha,.mk khb nhb shb]:=by rw [hwwx];exact r3.alloc _
     clear hwwx;obtain ⟨bh,oh,Aha,cha,rfl,ha1,ha2,ha3,hlha,rha⟩:=kZ r3x;obtain ⟨Ahb,chb,hb1,hb2,hb3,hlhb,rhb⟩:=tI r3x;simp only [Nat.zero_mul,Nat.add_zero,Nat.one_mul,Nat.reduceMul] at ha1 ha2 ha3 hb1 hb2 hb3
     replace hKwx:Blk wx w2.heap.size (Ro 13 n3 (some ⟨bh,oh,none⟩) 2 c3):=hKwx;clear y0 mf1 mf2 mf3 t2;have v2:=aF hTwx.three.2.2;have kq:=aF hKwx.three.2.2;obtain ⟨ua1,ua2,ua3⟩:=iI kwwx a1 a2 a3;obtain ⟨uha1,uha2,uha3⟩:=rN ha1 ha2 ha3;refine dX wx [10] [0,1,2,3,4,5,6,7,8] 11 2 (lT:=[_,_,_,_,_,_,_,_,_]) ?_;intro q0 bq0;refine bV (aD ?_);refine bG 9 ?_
     ·go_wp2_with (go_at_call 46;refine (hC1.out _ _ _ ((hrc.below kwwx).below bq0) ((ra.below kwwx).below bq0) (rha.below bq0)).mono ?_;rintro e q1 ⟨he,hbq1⟩;obtain rfl:e = .returned (.int .i64 (dL b)):=he)
      refine aY bq0 hbq1 ?_;intro bq1 lq1;refine cD [10] (lB:=[_]) ?_;refine gS (aD ?_);have hTq1:=hTwx.keep bq1;have hZq1:=hZwx.keep bq1;have hKq1:=hKwx.keep bq1;have kwq1:=kwwx.trans (bq1.mono kwwx.size);have kwxq1:=bq1;obtain ⟨d0,d1,d2,e0,e1,e2,lz⟩:=dA hZq1;obtain ⟨mf1,mf2,mf3⟩:=xY kwq1 f1 f2 f3;have t2:=hTq1.three.2.2;go_wp2_with fail
      refine bodyPost_ret (v:=.tuple #[.agg (Ro kf nf Af sf.length cf),.int .i64 (dL b)]) (by simp [results,results124,go_sem,d0,d1,d2]) rfl ⟨kf,nf,Af,sf.length,cf,rfl,?_⟩;exact ((kwq1.setCell (by simp<;>omega) _).setCell (by simp<;>omega) _).setCell (by simp<;>omega) _
    ·have hC1:=aD (fun (A2:Option Addr) (c2:Nat) (w:World) (hrc:Rd w C 0 ctx) (hrt:Rd w Aa 0 sa) (hr2:Rd w A2 0 sha)=>cC ih ctx C cc ka na sa Aa ca kha nha sha A2 c2 _ w h3 hva hvc (by omega) hrc hrt (by omega) hr2);obtain ⟨k5,n5,s5,h5⟩:=jF (dC (.mk ka na sa) 0 0 (.mk khb nhb shb));have h5z:aH s5≤1000000:=by
      have:=vX (.mk ka na sa) (m:=401) (by rw [Tm.size];omega) (by omega) (.mk khb nhb shb) 0 0;rw [h5,Tm.size,Tm.size] at this;omega
     rw [h5] at hs;have hS3:=aD (fun (A2:Option Addr) (c2:Nat) (w:World) (hr2:Rd w A2 0 shb) (hra:Rd w Aa 0 sa)=>aAf khb nhb shb A2 c2 ka na sa Aa ca w hvhb (aW hva) (by omega) hr2 hra k5 n5 s5 h5);rcases aO hs with ⟨b,h4,rfl⟩|⟨u2,h4,hs⟩
     ·have hC2:=aD (fun (A2:Option Addr) (c2:Nat) (w:World) (hrc:Rd w C 0 ctx) (hrt:Rd w Ab 0 sb) (hr2:Rd w A2 0 s5)=>cC ih ctx C cc kb nb sb Ab cb k5 n5 s5 A2 c2 _ w h4 hvb hvc (by omega) hrc hrt h5z hr2);have qb:=iN b;clear hs h1 h2 h3 h4 h5 hvf hva hvb hvc ih hv3 hvhb;go_enter func124,ntmps124;go_upto_region 9 with (first
       | (go_at_call 88;have _t:=tok;refine (hH.out _ (rf.below kww1)).mono ?_;rintro e w2 ⟨A3,c3,rfl,hl3,r3,hb2⟩;have hTw2:=hTw1.keep hb2;have hZw2:=hZw1.keep hb2;have kww2:=kww1.trans (hb2.mono kww1.size);have hK3:=aC w2 25 (Ro 13 n3 A3 2 c3) rfl;have y0:=hK3.three.1)
       | (go_at_call 67;refine (hS1.out _ ((hrc.alloc _).alloc _) ((rf.alloc _).alloc _)).mono ?_;rintro e w1 ⟨rfl,hb1⟩;have hTw1:=cV hb1;have hZw1:=bH hb1;have kww1:Bw w w1:=bQ bw2 hb1;have ltw:=hTw1.lt;obtain ⟨mf1,mf2,mf3⟩:=xY kww1 f1 f2 f3;have t2:=hTw1.three.2.2;have tok:=trivial))
      refine rL (hTw2.alloc _) (hZw2.alloc _) (show Blk _ w2.heap.size (Ro 13 n3 A3 2 c3) from (aC _ 25 _ (by simp))) (kww2.alloc (by have:=kww2.size;simp<;>omega) _) ?_;intro wx hTwx hZwx hKwx kwwx hwwx;have r3x:Rd wx A3 0 [.mk kha nha sha,.mk khb nhb shb]:=by rw [hwwx];exact r3.alloc _
      clear hwwx;obtain ⟨bh,oh,Aha,cha,rfl,ha1,ha2,ha3,hlha,rha⟩:=kZ r3x;obtain ⟨Ahb,chb,hb1,hb2,hb3,hlhb,rhb⟩:=tI r3x;simp only [Nat.zero_mul,Nat.add_zero,Nat.one_mul,Nat.reduceMul] at ha1 ha2 ha3 hb1 hb2 hb3
      replace hKwx:Blk wx w2.heap.size (Ro 13 n3 (some ⟨bh,oh,none⟩) 2 c3):=hKwx;clear y0 mf1 mf2 mf3 t2;have v2:=aF hTwx.three.2.2;have kq:=aF hKwx.three.2.2;obtain ⟨ua1,ua2,ua3⟩:=iI kwwx a1 a2 a3;obtain ⟨uha1,uha2,uha3⟩:=rN ha1 ha2 ha3;refine dX wx [10] [0,1,2,3,4,5,6,7,8] 11 2 (lT:=[_,_,_,_,_,_,_,_,_]) ?_;intro q0 bq0;refine bV (aD ?_);refine bG 9 ?_
      ·go_wp2_with (go_at_call 46;refine (hC1.out _ _ _ ((hrc.below kwwx).below bq0) ((ra.below kwwx).below bq0) (rha.below bq0)).mono ?_;rintro e q1 ⟨he,hbq1⟩;obtain rfl:e = .returned (.int .i64 0):=he)
       refine aY bq0 hbq1 ?_;intro bq1 lq1;refine cD [10] (lB:=[_]) ?_;refine gS (aD ?_);have hTq1:=hTwx.keep bq1;have hZq1:=hZwx.keep bq1;have hKq1:=hKwx.keep bq1;have kwq1:=kwwx.trans (bq1.mono kwwx.size);have kwxq1:=bq1;go_upto_region 11 with fail
       refine aJh hTq1 hZq1 hKq1 kwq1 kwxq1 ?_;intro wu hTwu hZwu hKwu kwwu kwxwu;clear v2 kq ua1 ua2 ua3 uha1 uha2 uha3;have v2:=aF hTwu.three.2.2;have kq:=aF hKwu.three.2.2;obtain ⟨ub1,ub2,ub3⟩:=iI kwwu b1 b2 b3;obtain ⟨uhb1,uhb2,uhb3⟩:=iI kwxwu hb1 hb2 hb3;obtain ⟨ua1,ua2,ua3⟩:=iI kwwu a1 a2 a3;refine dX wu [15] [0,1,2,3,4,5,6,7,8,9,10,11,12] 16 3 (lT:=[_,_,_,_,_,_,_,_,_,_,_,_,_]) ?_;intro q0 bq0;refine bV (aD ?_);refine bG 13 ?_
       ·go_wp2_with (go_at_call 127;refine (hS3.out _ _ _ ((rhb.below kwxwu).below bq0) ((ra.below kwwu).below bq0)).mono ?_;rintro e q1 ⟨A5,c5,rfl,hl5,hf5,hbq1⟩)
        refine aY bq0 hbq1 ?_;intro bq1 lq1;refine bG 14 ?_
        ·go_wp2_with (go_at_call 46;refine (hC2.out _ _ _ ((hrc.below kwwu).below bq1) ((rb.below kwwu).below bq1) hf5.rd).mono ?_;rintro e q2 ⟨he,hbq2⟩;obtain rfl:e = .returned (.int .i64 (dL b)):=he)
         refine aY bq1 hbq2 ?_;intro bq2 lq2;refine cD [15] (lB:=[_]) ?_;refine gS (aD ?_);have hTq2:=hTwu.keep bq2;have hZq2:=hZwu.keep bq2;have hKq2:=hKwu.keep bq2;have kwq2:=kwwu.trans (bq2.mono kwwu.size);have kwxq2:=kwxwu.trans (bq2.mono kwxwu.size);have kwuq2:=bq2;obtain ⟨d0,d1,d2,e0,e1,e2,lz⟩:=dA hZq2;obtain ⟨mf1,mf2,mf3⟩:=xY kwq2 f1 f2 f3;have t2:=hTq2.three.2.2;go_wp2_with fail
         refine bodyPost_ret (v:=.tuple #[.agg (Ro kf nf Af sf.length cf),.int .i64 (dL b)]) (by simp [results,results124,go_sem,d0,d1,d2]) rfl ⟨kf,nf,Af,sf.length,cf,rfl,?_⟩;exact ((kwq2.setCell (by simp<;>omega) _).setCell (by simp<;>omega) _).setCell (by simp<;>omega) _
     ·have hC2:=aD (fun (A2:Option Addr) (c2:Nat) (w:World) (hrc:Rd w C 0 ctx) (hrt:Rd w Ab 0 sb) (hr2:Rd w A2 0 s5)=>cC ih ctx C cc kb nb sb Ab cb k5 n5 s5 A2 c2 _ w h4 hvb hvc (by omega) hrc hrt h5z hr2);injection hs with hs;subst hs;clear h1 h2 h3 h4 h5 hvf hva hvb hvc ih hv3 hvhb;go_enter func124,ntmps124;go_upto_region 9 with (first
       | (go_at_call 88;have _t:=tok;refine (hH.out _ (rf.below kww1)).mono ?_;rintro e w2 ⟨A3,c3,rfl,hl3,r3,hb2⟩;have hTw2:=hTw1.keep hb2;have hZw2:=hZw1.keep hb2;have kww2:=kww1.trans (hb2.mono kww1.size);have hK3:=aC w2 25 (Ro 13 n3 A3 2 c3) rfl;have y0:=hK3.three.1)
       | (go_at_call 67;refine (hS1.out _ ((hrc.alloc _).alloc _) ((rf.alloc _).alloc _)).mono ?_;rintro e w1 ⟨rfl,hb1⟩;have hTw1:=cV hb1;have hZw1:=bH hb1;have kww1:Bw w w1:=bQ bw2 hb1;have ltw:=hTw1.lt;obtain ⟨mf1,mf2,mf3⟩:=xY kww1 f1 f2 f3;have t2:=hTw1.three.2.2;have tok:=trivial))
      refine rL (hTw2.alloc _) (hZw2.alloc _) (show Blk _ w2.heap.size (Ro 13 n3 A3 2 c3) from (aC _ 25 _ (by simp))) (kww2.alloc (by have:=kww2.size;simp<;>omega) _) ?_;intro wx hTwx hZwx hKwx kwwx hwwx;have r3x:Rd wx A3 0 [.mk kha nha sha,.mk khb nhb shb]:=by rw [hwwx];exact r3.alloc _
      clear hwwx;obtain ⟨bh,oh,Aha,cha,rfl,ha1,ha2,ha3,hlha,rha⟩:=kZ r3x;obtain ⟨Ahb,chb,hb1,hb2,hb3,hlhb,rhb⟩:=tI r3x;simp only [Nat.zero_mul,Nat.add_zero,Nat.one_mul,Nat.reduceMul] at ha1 ha2 ha3 hb1 hb2 hb3
      replace hKwx:Blk wx w2.heap.size (Ro 13 n3 (some ⟨bh,oh,none⟩) 2 c3):=hKwx;clear y0 mf1 mf2 mf3 t2;have v2:=aF hTwx.three.2.2;have kq:=aF hKwx.three.2.2;obtain ⟨ua1,ua2,ua3⟩:=iI kwwx a1 a2 a3;obtain ⟨uha1,uha2,uha3⟩:=rN ha1 ha2 ha3;refine dX wx [10] [0,1,2,3,4,5,6,7,8] 11 2 (lT:=[_,_,_,_,_,_,_,_,_]) ?_;intro q0 bq0;refine bV (aD ?_);refine bG 9 ?_
      ·go_wp2_with (go_at_call 46;refine (hC1.out _ _ _ ((hrc.below kwwx).below bq0) ((ra.below kwwx).below bq0) (rha.below bq0)).mono ?_;rintro e q1 ⟨he,hbq1⟩;obtain rfl:e = .returned (.int .i64 0):=he)
       refine aY bq0 hbq1 ?_;intro bq1 lq1;refine cD [10] (lB:=[_]) ?_;refine gS (aD ?_);have hTq1:=hTwx.keep bq1;have hZq1:=hZwx.keep bq1;have hKq1:=hKwx.keep bq1;have kwq1:=kwwx.trans (bq1.mono kwwx.size);have kwxq1:=bq1;go_upto_region 11 with fail
       refine aJh hTq1 hZq1 hKq1 kwq1 kwxq1 ?_;intro wu hTwu hZwu hKwu kwwu kwxwu;clear v2 kq ua1 ua2 ua3 uha1 uha2 uha3;have v2:=aF hTwu.three.2.2;have kq:=aF hKwu.three.2.2;obtain ⟨ub1,ub2,ub3⟩:=iI kwwu b1 b2 b3;obtain ⟨uhb1,uhb2,uhb3⟩:=iI kwxwu hb1 hb2 hb3;obtain ⟨ua1,ua2,ua3⟩:=iI kwwu a1 a2 a3;refine dX wu [15] [0,1,2,3,4,5,6,7,8,9,10,11,12] 16 3 (lT:=[_,_,_,_,_,_,_,_,_,_,_,_,_]) ?_;intro q0 bq0;refine bV (aD ?_);refine bG 13 ?_
       ·go_wp2_with (go_at_call 127;refine (hS3.out _ _ _ ((rhb.below kwxwu).below bq0) ((ra.below kwwu).below bq0)).mono ?_;rintro e q1 ⟨A5,c5,rfl,hl5,hf5,hbq1⟩)
        refine aY bq0 hbq1 ?_;intro bq1 lq1;refine bG 14 ?_
        ·go_wp2_with (go_at_call 46;refine (hC2.out _ _ _ ((hrc.below kwwu).below bq1) ((rb.below kwwu).below bq1) hf5.rd).mono ?_;rintro e q2 ⟨he,hbq2⟩;obtain rfl:e = .returned (.int .i64 0):=he)
         refine aY bq1 hbq2 ?_;intro bq2 lq2;refine cD [15] (lB:=[_]) ?_;refine gS (aD ?_);have hTq2:=hTwu.keep bq2;have hZq2:=hZwu.keep bq2;have hKq2:=hKwu.keep bq2;have kwq2:=kwwu.trans (bq2.mono kwwu.size);have kwxq2:=kwxwu.trans (bq2.mono kwxwu.size);have kwuq2:=bq2;obtain ⟨d0,d1,d2,e0,e1,e2,lz⟩:=dA hZq2;obtain ⟨mf1,mf2,mf3⟩:=xY kwq2 f1 f2 f3;have t2:=hTq2.three.2.2;go_wp2_with fail
         refine bodyPost_ret (v:=.tuple #[.agg (Ro kf nf Af sf.length cf),.int .i64 0]) (by simp [results,results124,go_sem,d0,d1,d2]) rfl ⟨Af,cf,rfl,hlf,iG hZq2 hvf'.out (rf.below kwq2) _ _ _,?_⟩;exact ((kwq2.setCell (by simp<;>omega) _).setCell (by simp<;>omega) _).setCell (by simp<;>omega) _
   ·rw [if_neg (show ¬(Tm.mk k3 n3 s3).k=13 from hk)] at hs;injection hs with hs;subst hs;have qk:(k3 != 13)=true:=by simpa using hk
    clear h1 h2 hvf hva hvb hvc ih hv3 hk;go_enter func124,ntmps124;go_wp2_with (first
     | (go_at_call 88;have _t:=tok;refine (hH.out _ (rf.below kww1)).mono ?_;rintro e w2 ⟨A3,c3,rfl,hl3,r3,hb2⟩;have hTw2:=hTw1.keep hb2;have hZw2:=hZw1.keep hb2;have kww2:=kww1.trans (hb2.mono kww1.size);have g3:=kww2.alloc kww2.size (.cells (Ro k3 n3 A3 s3.length c3) 25);have hZ3:=hZw2.alloc (.cells (Ro k3 n3 A3 s3.length c3) 25);have hK3:=aC w2 25 (Ro k3 n3 A3 s3.length c3) rfl;obtain ⟨y0,y1,y2⟩:=hK3.three;obtain ⟨d0,d1,d2,e0,e1,e2,lz⟩:=dA hZ3)
     | (go_at_call 67;refine (hS1.out _ ((hrc.alloc _).alloc _) ((rf.alloc _).alloc _)).mono ?_;rintro e w1 ⟨rfl,hb1⟩;have hTw1:=cV hb1;have hZw1:=bH hb1;have kww1:Bw w w1:=bQ bw2 hb1;have ltw:=hTw1.lt;obtain ⟨mf1,mf2,mf3⟩:=xY kww1 f1 f2 f3;have t2:=hTw1.three.2.2;have tok:=trivial))
    refine bodyPost_ret (v:=.tuple #[.agg Zr,.int .i64 1]) (by simp [results,results124,go_sem,d0,d1,d2]) rfl ⟨0,0,none,0,0,rfl,?_⟩;exact bT g3
theorem aMs {N:Nat}(ih:nW N)(ctx:List Tm)(C:Option Addr)(cc:Nat)(k n:Int)(A:Option Addr)(c:Nat)(ka na:Int)(sa:List Tm)(kb nb:Int)(sb:List Tm)(r:Rs Tm)(w:World)(hs:aXz (bJ N) ctx (.mk ka na sa) (.mk kb nb sb)=some r)(hva:aE (.mk ka na sa)=true)(hvb:aE (.mk kb nb sb)=true)(hvc:∀u,u∈ctx→aE u=true)(hm:ctx.length≤20)(hrc:Rd w C 0 ctx)(hr:Rd w A 0 [.mk ka na sa,.mk kb nb sb]) :
  Calls prog 119 #[.slice C ctx.length cc,.agg (Ro k n A 2 c)] w (oH w r):=by
 obtain ⟨bk,ok,Aa,ca,rfl,a1,a2,a3,hla,ra⟩:=kZ hr;obtain ⟨Ab,cb,b1,b2,b3,hlb,rb⟩:=tI hr;simp only [Nat.zero_mul,Nat.add_zero,Nat.one_mul,Nat.reduceMul] at a1 a2 a3 b1 b2 b3
 have lbp:=kY _ _ a1;rcases aO hs with ⟨b,h1,rfl⟩|⟨li,h1,hs⟩
 ·have hS1:=aD (fun (w:World) (hrc:Rd w C 0 ctx) (hra:Rd w Aa 0 sa)=>eA ih ctx C cc ka na sa Aa ca _ w h1 hva hvc (by omega) hrc hra);have qb:=fF b;clear hs h1 hva hvb hvc ih;go_enter func119,ntmps119;go_wp2_with (go_at_call 67;refine (hS1.out _ ((hrc.alloc _).alloc _) ((ra.alloc _).alloc _)).mono ?_;rintro e w1 ⟨l1,rfl,hb1⟩;have hTw1:=cV hb1;have hZw1:=bH hb1;have kww1:Bw w w1:=bQ bw2 hb1;obtain ⟨d0,d1,d2,e0,e1,e2,lz⟩:=dA hZw1)
  refine bodyPost_ret (v:=.tuple #[.agg Zr,.int .i64 (dL b)]) (by simp [results,results119,go_sem,d0,d1,d2]) rfl ⟨0,0,none,0,0,rfl,?_⟩;exact ((kww1.setCell (by simp<;>omega) _).setCell (by simp<;>omega) _).setCell (by simp<;>omega) _
 ·have hS1:=aD (fun (w:World) (hrc:Rd w C 0 ctx) (hra:Rd w Aa 0 sa)=>eA ih ctx C cc ka na sa Aa ca _ w h1 hva hvc (by omega) hrc hra);rcases aO hs with ⟨b,h2,rfl⟩|⟨⟨k1,n1,s1⟩,h2,hs⟩
  ·obtain ⟨cx,hcx⟩:∃cx,ctx++[.mk ka na sa]=cx:=⟨_,rfl⟩;have hP:=aD (show ∀(w:World) (hrc:Rd w C 0 ctx) (hra:Rd w Aa 0 sa),Calls prog 137 #[.slice C ctx.length cc,.agg (Ro ka na Aa sa.length ca)] w (aDv w cx) from fun w hrc hra=>by rw [← hcx];exact pK ctx C cc ka na sa Aa ca w (by omega) hla hrc hra);have hcl:cx.length≤21:=(by rw [← hcx];simp;omega);have hcv:∀u,u∈cx→aE u=true:=(by rw [← hcx];exact fun u hu=>(List.mem_append.1 hu).elim (hvc u) (fun h=>by rw [List.mem_singleton.1 h];exact hva));rw [hcx] at h2;clear hcx;have hI:=aD (fun (D:Option Addr) (d:Nat) (w:World) (hrD:Rd w D 0 cx) (hrb:Rd w Ab 0 sb)=>gtz (ih cx kb nb sb _ h2 hvb hcv hcl D d Ab cb w hrD hrb));have qb:=fF b;clear hs h1 h2 hva hvb hvc ih hcv;go_enter func119,ntmps119;go_upto_region 4 with (go_at_call 67;refine (hS1.out _ ((hrc.alloc _).alloc _) ((ra.alloc _).alloc _)).mono ?_;rintro e w1 ⟨rfl,hb1⟩;have hTw1:=cV hb1;have hZw1:=bH hb1;have kww1:Bw w w1:=bQ bw2 hb1)
   refine sT hTw1 hZw1 kww1 ?_;intro wx hTwx hZwx kwwx;have v2:=aF hTwx.three.2.2;obtain ⟨ua1,ua2,ua3⟩:=iI kwwx a1 a2 a3;obtain ⟨ub1,ub2,ub3⟩:=iI kwwx b1 b2 b3;go_cut [8,9] (fun vp vc wy=>∃(gz:Nat),vp = .pointer (some ⟨gz,0,none⟩)∧vc = .int .i64 (dL b)∧Bw wx wy)
   case first=>
    refine dX wx [11,12,13,15,16] [0,1,2,3,4,6,7,8,9] 17 8 (lT:=[_,_,_,_,_,_,_,_,_]) ?_;intro q0 bq0;refine bV (aD ?_);refine kX 5 14 ?_ ?_
    ·go_wp2_with (go_at_call 137;refine (hP.out _ ((hrc.below kwwx).below bq0) ((ra.below kwwx).below bq0)).mono ?_;rintro e q1 ⟨D,d,rfl,rDq1,hbq1⟩)
     refine aY bq0 hbq1 ?_;intro bq1 lq1;refine kX 10 14 ?_ ?_
     ·go_wp2_with (go_at_call 68;refine (hI.out _ _ _ rDq1 ((rb.below kwwx).below bq1)).mono ?_;rintro e q2 ⟨k1,n1,A1,l1,c1,rfl,hbq2⟩)
      have Dq2:=rDq1.below hbq2;refine aY bq1 hbq2 ?_;intro bq2 lq2;refine eS [11,12,13] 3 (lT:=[_,_,_]) ?_;refine bV (aD ?_);refine bG 14 ?_
      ·go_wp2_with fail
       refine dO ?_;intro q3 hbq3 zq3 seq3;have Dq3:=Dq2.below hbq3;refine aY bq2 hbq3 ?_;intro bq3 lq3;refine cD [15,16] (lB:=[_,_]) ?_;refine gS (aD ?_);obtain ⟨d0,d1,d2,e0,e1,e2⟩:=bW zq3;have szb:wx.heap.size≤q2.heap.size:=bq2.size;go_wp2_with fail
       go_meet
       exact ⟨q2.heap.size,rfl,rfl,((bq3.setCell szb _).setCell szb _).setCell szb _⟩
     ·go_wp2_with fail
      refine dO ?_;intro q4 hbq4 zq4 seq4;have Dq4:=rDq1.below hbq4;refine aY bq1 hbq4 ?_;intro bq4 lq4;refine bG 10 ?_
      ·go_wp2_with (go_at_call 68;refine (hI.out _ _ _ Dq4 ((rb.below kwwx).below bq4)).mono ?_;rintro e q5 ⟨k1,n1,A1,l1,c1,rfl,hbq5⟩)
       have Dq5:=Dq4.below hbq5;have Zq5:=zq4.keep hbq5;refine aY bq4 hbq5 ?_;intro bq5 lq5;refine eS [11,12,13] 2 (lT:=[_,_,_]) ?_;refine bV (aD ?_);refine cD [15,16] (lB:=[_,_]) ?_;refine gS (aD ?_);obtain ⟨d0,d1,d2,e0,e1,e2⟩:=bW Zq5;have szb:wx.heap.size≤q1.heap.size:=bq1.size;go_wp2_with fail
       go_meet
       exact ⟨q1.heap.size,rfl,rfl,((bq5.setCell szb _).setCell szb _).setCell szb _⟩
    ·go_wp2_with fail
     refine dO ?_;intro q6 hbq6 zq6 seq6;refine aY bq0 hbq6 ?_;intro bq6 lq6;refine bG 5 ?_
     ·go_wp2_with (go_at_call 137;refine (hP.out _ ((hrc.below kwwx).below bq6) ((ra.below kwwx).below bq6)).mono ?_;rintro e q7 ⟨D,d,rfl,rDq7,hbq7⟩)
      have Zq7:=zq6.keep hbq7;refine aY bq6 hbq7 ?_;intro bq7 lq7;refine bG 10 ?_
      ·go_wp2_with (go_at_call 68;refine (hI.out _ _ _ rDq7 ((rb.below kwwx).below bq7)).mono ?_;rintro e q8 ⟨k1,n1,A1,l1,c1,rfl,hbq8⟩)
       have Zq8:=Zq7.keep hbq8;have Dq8:=rDq7.below hbq8;refine aY bq7 hbq8 ?_;intro bq8 lq8;refine eS [11,12,13] 2 (lT:=[_,_,_]) ?_;refine bV (aD ?_);refine cD [15,16] (lB:=[_,_]) ?_;refine gS (aD ?_);obtain ⟨d0,d1,d2,e0,e1,e2⟩:=bW Zq8;have szb:wx.heap.size≤q0.heap.size:=bq0.size;go_wp2_with fail
       go_meet
       exact ⟨q0.heap.size,rfl,rfl,((bq8.setCell szb _).setCell szb _).setCell szb _⟩
   case rest=>
    obtain ⟨gz,rfl,rfl,hxy⟩:=hcut;have hZy:=hZwx.keep hxy;have gy:=kwwx.trans (hxy.mono kwwx.size);obtain ⟨d0,d1,d2,e0,e1,e2,lz⟩:=dA hZy;go_wp2_with fail
    refine bodyPost_ret (v:=.tuple #[.agg Zr,.int .i64 (dL b)]) (by simp [results,results119,go_sem,d0,d1,d2]) rfl ⟨0,0,none,0,0,rfl,?_⟩;exact ((gy.setCell (by simp<;>omega) _).setCell (by simp<;>omega) _).setCell (by simp<;>omega) _
  ·obtain ⟨cx,hcx⟩:∃cx,ctx++[.mk ka na sa]=cx:=⟨_,rfl⟩;have hP:=aD (show ∀(w:World) (hrc:Rd w C 0 ctx) (hra:Rd w Aa 0 sa),Calls prog 137 #[.slice C ctx.length cc,.agg (Ro ka na Aa sa.length ca)] w (aDv w cx) from fun w hrc hra=>by rw [← hcx];exact pK ctx C cc ka na sa Aa ca w (by omega) hla hrc hra);have hcl:cx.length≤21:=(by rw [← hcx];simp;omega);have hcv:∀u,u∈cx→aE u=true:=(by rw [← hcx];exact fun u hu=>(List.mem_append.1 hu).elim (hvc u) (fun h=>by rw [List.mem_singleton.1 h];exact hva));rw [hcx] at h2;clear hcx;have hI:=aD (fun (D:Option Addr) (d:Nat) (w:World) (hrD:Rd w D 0 cx) (hrb:Rd w Ab 0 sb)=>gtz (ih cx kb nb sb _ h2 hvb hcv hcl D d Ab cb w hrD hrb));have hv1:=aD (dQ h2);have hvl:=aD (show ∀t,t∈[Tm.mk ka na sa,Tm.mk k1 n1 s1]→aE t=true from fun t ht=>by
    have hd:=dQ h2;rcases List.mem_cons.1 ht with rfl|ht
    ·exact hva
    ·rw [List.mem_singleton.1 ht];exact hd)
   rcases aO hs with ⟨b,h3,rfl⟩|⟨⟨k8,n8,s8⟩,h3,hs⟩
   ·have hB:=aD (fun (A:Option Addr) (c:Nat) (w:World) (hrc:Rd w C 0 ctx) (hr:Rd w A 0 [.mk ka na sa,.mk k1 n1 s1])=>qZ ih ctx C cc 3 0 A c ka na sa k1 n1 s1 _ w h3 hva (dQ h2) hvc hm hrc hr);clear hs h1 h2 h3 hva hvb hvc ih hcv;go_enter func119,ntmps119;go_upto_region 4 with (go_at_call 67;refine (hS1.out _ ((hrc.alloc _).alloc _) ((ra.alloc _).alloc _)).mono ?_;rintro e w1 ⟨rfl,hb1⟩;have hTw1:=cV hb1;have hZw1:=bH hb1;have kww1:Bw w w1:=bQ bw2 hb1)
    refine sT hTw1 hZw1 kww1 ?_;intro wx hTwx hZwx kwwx;have v2:=aF hTwx.three.2.2;obtain ⟨ua1,ua2,ua3⟩:=iI kwwx a1 a2 a3;obtain ⟨ub1,ub2,ub3⟩:=iI kwwx b1 b2 b3;go_cut [8,9] (fun vp vc wy=>∃(gz:Nat) (Az:Option Addr) (cz:Nat),vp = .pointer (some ⟨gz,0,none⟩)∧vc = .int .i64 0∧s1.length≤9223372036854775807∧Blk wy gz (Ro k1 n1 Az s1.length cz)∧Rd wy Az 0 s1∧Bw wx wy∧wx.heap.size≤gz)
    case first=>
     refine dX wx [11,12,13,15,16] [0,1,2,3,4,6,7,8,9] 17 8 (lT:=[_,_,_,_,_,_,_,_,_]) ?_;intro q0 bq0;refine bV (aD ?_);refine kX 5 14 ?_ ?_
     ·go_wp2_with (go_at_call 137;refine (hP.out _ ((hrc.below kwwx).below bq0) ((ra.below kwwx).below bq0)).mono ?_;rintro e q1 ⟨D,d,rfl,rDq1,hbq1⟩)
      refine aY bq0 hbq1 ?_;intro bq1 lq1;refine kX 10 14 ?_ ?_
      ·go_wp2_with (go_at_call 68;refine (hI.out _ _ _ rDq1 ((rb.below kwwx).below bq1)).mono ?_;rintro e q2 ⟨A1,c1,rfl,hl1,rUq2,hbq2⟩)
       have Dq2:=rDq1.below hbq2;refine aY bq1 hbq2 ?_;intro bq2 lq2;refine eS [11,12,13] 3 (lT:=[_,_,_]) ?_;refine bV (aD ?_);refine bG 14 ?_
       ·go_wp2_with fail
        refine dO ?_;intro q3 hbq3 zq3 seq3;have Dq3:=Dq2.below hbq3;have Uq3:=rUq2.below hbq3;refine aY bq2 hbq3 ?_;intro bq3 lq3;refine cD [15,16] (lB:=[_,_]) ?_;refine gS (aD ?_);obtain ⟨d0,d1,d2,e0,e1,e2⟩:=bW zq3;have szb:wx.heap.size≤q2.heap.size:=bq2.size;go_wp2_with fail
        go_meet
        exact ⟨q2.heap.size,A1,c1,rfl,rfl,hl1,((zq3.set_ 0 _).set_ 1 _).set_ 2 _,iG zq3 hv1.out Uq3 _ _ _,((bq3.setCell szb _).setCell szb _).setCell szb _,szb⟩
      ·go_wp2_with fail
       refine dO ?_;intro q4 hbq4 zq4 seq4;have Dq4:=rDq1.below hbq4;refine aY bq1 hbq4 ?_;intro bq4 lq4;refine bG 10 ?_
       ·go_wp2_with (go_at_call 68;refine (hI.out _ _ _ Dq4 ((rb.below kwwx).below bq4)).mono ?_;rintro e q5 ⟨A1,c1,rfl,hl1,rUq5,hbq5⟩)
        have Dq5:=Dq4.below hbq5;have Zq5:=zq4.keep hbq5;refine aY bq4 hbq5 ?_;intro bq5 lq5;refine eS [11,12,13] 2 (lT:=[_,_,_]) ?_;refine bV (aD ?_);refine cD [15,16] (lB:=[_,_]) ?_;refine gS (aD ?_);obtain ⟨d0,d1,d2,e0,e1,e2⟩:=bW Zq5;have szb:wx.heap.size≤q1.heap.size:=bq1.size;go_wp2_with fail
        go_meet
        exact ⟨q1.heap.size,A1,c1,rfl,rfl,hl1,((Zq5.set_ 0 _).set_ 1 _).set_ 2 _,iG Zq5 hv1.out rUq5 _ _ _,((bq5.setCell szb _).setCell szb _).setCell szb _,szb⟩
     ·go_wp2_with fail
      refine dO ?_;intro q6 hbq6 zq6 seq6;refine aY bq0 hbq6 ?_;intro bq6 lq6;refine bG 5 ?_
      ·go_wp2_with (go_at_call 137;refine (hP.out _ ((hrc.below kwwx).below bq6) ((ra.below kwwx).below bq6)).mono ?_;rintro e q7 ⟨D,d,rfl,rDq7,hbq7⟩)
       have Zq7:=zq6.keep hbq7;refine aY bq6 hbq7 ?_;intro bq7 lq7;refine bG 10 ?_
       ·go_wp2_with (go_at_call 68;refine (hI.out _ _ _ rDq7 ((rb.below kwwx).below bq7)).mono ?_;rintro e q8 ⟨A1,c1,rfl,hl1,rUq8,hbq8⟩)
        have Zq8:=Zq7.keep hbq8;have Dq8:=rDq7.below hbq8;refine aY bq7 hbq8 ?_;intro bq8 lq8;refine eS [11,12,13] 2 (lT:=[_,_,_]) ?_;refine bV (aD ?_);refine cD [15,16] (lB:=[_,_]) ?_;refine gS (aD ?_);obtain ⟨d0,d1,d2,e0,e1,e2⟩:=bW Zq8;have szb:wx.heap.size≤q0.heap.size:=bq0.size;go_wp2_with fail
        go_meet
        exact ⟨q0.heap.size,A1,c1,rfl,rfl,hl1,((Zq8.set_ 0 _).set_ 1 _).set_ 2 _,iG Zq8 hv1.out rUq8 _ _ _,((bq8.setCell szb _).setCell szb _).setCell szb _,szb⟩
    case rest=>
     obtain ⟨gz,Az,cz,rfl,rfl,hlz,hGy,rUy,hxy,hgz⟩:=hcut;clear v2 ua1 ua2 ua3 ub1 ub2 ub3;have hTy:=hTwx.keep hxy;have hZy:=hZwx.keep hxy;have gy:=kwwx.trans (hxy.mono kwwx.size);go_upto_region 7 with fail
     refine rL hTy hZy hGy gy ?_;intro wu hTwu hZwu hGwu kwwu hwu;have rUu:Rd wu Az 0 s1:=by rw [hwu];exact rUy
     clear hwu;have v2:=aF hTwu.three.2.2;obtain ⟨z0,z1,z2⟩:=iD hGwu;obtain ⟨ua1,ua2,ua3⟩:=iI kwwu a1 a2 a3;go_cut [10] (fun vp wz=>∃(gp:Nat) (Ap:Option Addr) (cp:Nat),vp = .pointer (some ⟨gp,0,none⟩)∧Blk wz gp (Ro 3 0 Ap 2 cp)∧Rd wz Ap 0 [.mk ka na sa,.mk k1 n1 s1]∧Bw wu wz∧wu.heap.size≤gp)
     case first=>
      refine dX wu [8] [0,1,2,3,4] 9 4 (lT:=[_,_,_,_,_]) ?_;intro q0 bq0;refine bV (aD ?_);refine kX 5 7 ?_ ?_
      ·go_wp2_with fail
       refine dO ?_;intro q1 hbq1 zq1 seq1;refine aY bq0 hbq1 ?_;intro bq1 lq1;refine kX 6 7 ?_ ?_
       ·go_wp2_with (go_at_call 31;refine (bP 3 (aT hla ((ra.below kwwu).below bq1).rdp (aT hlz (rUu.below bq1).rdp cB)) 2 rfl (by omega) _ _ zq1).mono ?_;rintro e q2 ⟨A7,c7,rfl,r7q2,hbq2⟩)
        have Bq2:=zq1.keep hbq2;refine aY bq1 hbq2 ?_;intro bq2 lq2;refine bG 7 ?_
        ·go_wp2_with fail
         refine dO ?_;intro q3 hbq3 zq3 seq3;have Bq3:=Bq2.keep hbq3;have Nq3:=r7q2.below hbq3;refine aY bq2 hbq3 ?_;intro bq3 lq3;refine cD [8] (lB:=[_]) ?_;refine gS (aD ?_);obtain ⟨d0,d1,d2,e0,e1,e2⟩:=bW zq3;have szb:wu.heap.size≤q2.heap.size:=bq2.size;go_wp2_with fail
         go_meet
         exact ⟨q2.heap.size,A7,c7,rfl,((zq3.set_ 0 _).set_ 1 _).set_ 2 _,eG zq3 hvl.out Nq3 _ _ _,((bq3.setCell szb _).setCell szb _).setCell szb _,szb⟩
       ·go_wp2_with fail
        refine dO ?_;intro q4 hbq4 zq4 seq4;have Bq4:=zq1.keep hbq4;refine aY bq1 hbq4 ?_;intro bq4 lq4;refine bG 6 ?_
        ·go_wp2_with (go_at_call 31;refine (bP 3 (aT hla ((ra.below kwwu).below bq4).rdp (aT hlz (rUu.below bq4).rdp cB)) 2 rfl (by omega) _ _ Bq4).mono ?_;rintro e q5 ⟨A7,c7,rfl,r7q5,hbq5⟩)
         have Bq5:=Bq4.keep hbq5;have Zq5:=zq4.keep hbq5;refine aY bq4 hbq5 ?_;intro bq5 lq5;refine cD [8] (lB:=[_]) ?_;refine gS (aD ?_);obtain ⟨d0,d1,d2,e0,e1,e2⟩:=bW Zq5;have szb:wu.heap.size≤q1.heap.size:=bq1.size;go_wp2_with fail
         go_meet
         exact ⟨q1.heap.size,A7,c7,rfl,((Zq5.set_ 0 _).set_ 1 _).set_ 2 _,eG Zq5 hvl.out r7q5 _ _ _,((bq5.setCell szb _).setCell szb _).setCell szb _,szb⟩
      ·go_wp2_with fail
       refine dO ?_;intro q6 hbq6 zq6 seq6;refine aY bq0 hbq6 ?_;intro bq6 lq6;refine bG 5 ?_
       ·go_wp2_with fail
        refine dO ?_;intro q7 hbq7 zq7 seq7;have Zq7:=zq6.keep hbq7;refine aY bq6 hbq7 ?_;intro bq7 lq7;refine bG 6 ?_
        ·go_wp2_with (go_at_call 31;refine (bP 3 (aT hla ((ra.below kwwu).below bq7).rdp (aT hlz (rUu.below bq7).rdp cB)) 2 rfl (by omega) _ _ zq7).mono ?_;rintro e q8 ⟨A7,c7,rfl,r7q8,hbq8⟩)
         have Zq8:=Zq7.keep hbq8;have Bq8:=zq7.keep hbq8;refine aY bq7 hbq8 ?_;intro bq8 lq8;refine cD [8] (lB:=[_]) ?_;refine gS (aD ?_);obtain ⟨d0,d1,d2,e0,e1,e2⟩:=bW Zq8;have szb:wu.heap.size≤q0.heap.size:=bq0.size;go_wp2_with fail
         go_meet
         exact ⟨q0.heap.size,A7,c7,rfl,((Zq8.set_ 0 _).set_ 1 _).set_ 2 _,eG Zq8 hvl.out r7q8 _ _ _,((bq8.setCell szb _).setCell szb _).setCell szb _,szb⟩
     case rest=>
      obtain ⟨gp,Ap,cp,rfl,hPz,rPz,hyz,hgp⟩:=hcut;clear v2 z0 z1 z2 ua1 ua2 ua3;have hZz:=hZwu.keep hyz;have gz1:=kwwu.trans (hyz.mono kwwu.size);obtain ⟨p0,p1,p2⟩:=hPz.three;have lpz:=hPz.lt;have lzz:=hZwu.lt;have npz:gp≠w.heap.size+1:=by omega
      go_wp2_with (go_at_call 118;refine (hB.out _ _ _ (hrc.below gz1) rPz).mono ?_;rintro e w8 ⟨k8,n8,A8,l8,c8,rfl,hb8⟩;have hP8:=(hPz.keep hb8).alloc (.cells (Ro k8 n8 A8 l8 c8) 25);have hZ8:=(hZz.keep hb8).alloc (.cells (Ro k8 n8 A8 l8 c8) 25);have g8:=(gz1.trans (hb8.mono gz1.size)).alloc (by have:=gz1.size;have:=hb8.size;omega) (.cells (Ro k8 n8 A8 l8 c8) 25);have rP8:=(rPz.below hb8).alloc (.cells (Ro k8 n8 A8 l8 c8) 25);clear p0 p1 p2;obtain ⟨p0,p1,p2⟩:=hP8.three;obtain ⟨d0,d1,d2,e0,e1,e2,lz⟩:=dA hZ8;have lp8:=hP8.lt)
      refine bodyPost_ret (v:=.tuple #[.agg (Ro 3 0 Ap 2 cp),.int .i64 (dL b)]) (by simp [results,results119,go_sem,d0,d1,d2]) rfl ⟨3,0,Ap,2,cp,rfl,?_⟩;exact bT g8
   ·have hB:=aD (fun (A:Option Addr) (c:Nat) (w:World) (hrc:Rd w C 0 ctx) (hr:Rd w A 0 [.mk ka na sa,.mk k1 n1 s1])=>qZ ih ctx C cc 3 0 A c ka na sa k1 n1 s1 _ w h3 hva (dQ h2) hvc hm hrc hr);injection hs with hs;subst hs;clear h1 h2 h3 hva hvb hvc ih hcv;go_enter func119,ntmps119;go_upto_region 4 with (go_at_call 67;refine (hS1.out _ ((hrc.alloc _).alloc _) ((ra.alloc _).alloc _)).mono ?_;rintro e w1 ⟨rfl,hb1⟩;have hTw1:=cV hb1;have hZw1:=bH hb1;have kww1:Bw w w1:=bQ bw2 hb1)
    refine sT hTw1 hZw1 kww1 ?_;intro wx hTwx hZwx kwwx;have v2:=aF hTwx.three.2.2;obtain ⟨ua1,ua2,ua3⟩:=iI kwwx a1 a2 a3;obtain ⟨ub1,ub2,ub3⟩:=iI kwwx b1 b2 b3;go_cut [8,9] (fun vp vc wy=>∃(gz:Nat) (Az:Option Addr) (cz:Nat),vp = .pointer (some ⟨gz,0,none⟩)∧vc = .int .i64 0∧s1.length≤9223372036854775807∧Blk wy gz (Ro k1 n1 Az s1.length cz)∧Rd wy Az 0 s1∧Bw wx wy∧wx.heap.size≤gz)
    case first=>
     refine dX wx [11,12,13,15,16] [0,1,2,3,4,6,7,8,9] 17 8 (lT:=[_,_,_,_,_,_,_,_,_]) ?_;intro q0 bq0;refine bV (aD ?_);refine kX 5 14 ?_ ?_
     ·go_wp2_with (go_at_call 137;refine (hP.out _ ((hrc.below kwwx).below bq0) ((ra.below kwwx).below bq0)).mono ?_;rintro e q1 ⟨D,d,rfl,rDq1,hbq1⟩)
      refine aY bq0 hbq1 ?_;intro bq1 lq1;refine kX 10 14 ?_ ?_
      ·go_wp2_with (go_at_call 68;refine (hI.out _ _ _ rDq1 ((rb.below kwwx).below bq1)).mono ?_;rintro e q2 ⟨A1,c1,rfl,hl1,rUq2,hbq2⟩)
       have Dq2:=rDq1.below hbq2;refine aY bq1 hbq2 ?_;intro bq2 lq2;refine eS [11,12,13] 3 (lT:=[_,_,_]) ?_;refine bV (aD ?_);refine bG 14 ?_
       ·go_wp2_with fail
        refine dO ?_;intro q3 hbq3 zq3 seq3;have Dq3:=Dq2.below hbq3;have Uq3:=rUq2.below hbq3;refine aY bq2 hbq3 ?_;intro bq3 lq3;refine cD [15,16] (lB:=[_,_]) ?_;refine gS (aD ?_);obtain ⟨d0,d1,d2,e0,e1,e2⟩:=bW zq3;have szb:wx.heap.size≤q2.heap.size:=bq2.size;go_wp2_with fail
        go_meet
        exact ⟨q2.heap.size,A1,c1,rfl,rfl,hl1,((zq3.set_ 0 _).set_ 1 _).set_ 2 _,iG zq3 hv1.out Uq3 _ _ _,((bq3.setCell szb _).setCell szb _).setCell szb _,szb⟩
      ·go_wp2_with fail
       refine dO ?_;intro q4 hbq4 zq4 seq4;have Dq4:=rDq1.below hbq4;refine aY bq1 hbq4 ?_;intro bq4 lq4;refine bG 10 ?_
       ·go_wp2_with (go_at_call 68;refine (hI.out _ _ _ Dq4 ((rb.below kwwx).below bq4)).mono ?_;rintro e q5 ⟨A1,c1,rfl,hl1,rUq5,hbq5⟩)
        have Dq5:=Dq4.below hbq5;have Zq5:=zq4.keep hbq5;refine aY bq4 hbq5 ?_;intro bq5 lq5;refine eS [11,12,13] 2 (lT:=[_,_,_]) ?_;refine bV (aD ?_);refine cD [15,16] (lB:=[_,_]) ?_;refine gS (aD ?_);obtain ⟨d0,d1,d2,e0,e1,e2⟩:=bW Zq5;have szb:wx.heap.size≤q1.heap.size:=bq1.size;go_wp2_with fail
        go_meet
        exact ⟨q1.heap.size,A1,c1,rfl,rfl,hl1,((Zq5.set_ 0 _).set_ 1 _).set_ 2 _,iG Zq5 hv1.out rUq5 _ _ _,((bq5.setCell szb _).setCell szb _).setCell szb _,szb⟩
     ·go_wp2_with fail
      refine dO ?_;intro q6 hbq6 zq6 seq6;refine aY bq0 hbq6 ?_;intro bq6 lq6;refine bG 5 ?_
      ·go_wp2_with (go_at_call 137;refine (hP.out _ ((hrc.below kwwx).below bq6) ((ra.below kwwx).below bq6)).mono ?_;rintro e q7 ⟨D,d,rfl,rDq7,hbq7⟩)
       have Zq7:=zq6.keep hbq7;refine aY bq6 hbq7 ?_;intro bq7 lq7;refine bG 10 ?_
       ·go_wp2_with (go_at_call 68;refine (hI.out _ _ _ rDq7 ((rb.below kwwx).below bq7)).mono ?_;rintro e q8 ⟨A1,c1,rfl,hl1,rUq8,hbq8⟩)
        have Zq8:=Zq7.keep hbq8;have Dq8:=rDq7.below hbq8;refine aY bq7 hbq8 ?_;intro bq8 lq8;refine eS [11,12,13] 2 (lT:=[_,_,_]) ?_;refine bV (aD ?_);refine cD [15,16] (lB:=[_,_]) ?_;refine gS (aD ?_);obtain ⟨d0,d1,d2,e0,e1,e2⟩:=bW Zq8;have szb:wx.heap.size≤q0.heap.size:=bq0.size;go_wp2_with fail
        go_meet
        exact ⟨q0.heap.size,A1,c1,rfl,rfl,hl1,((Zq8.set_ 0 _).set_ 1 _).set_ 2 _,iG Zq8 hv1.out rUq8 _ _ _,((bq8.setCell szb _).setCell szb _).setCell szb _,szb⟩
    case rest=>
     obtain ⟨gz,Az,cz,rfl,rfl,hlz,hGy,rUy,hxy,hgz⟩:=hcut;clear v2 ua1 ua2 ua3 ub1 ub2 ub3;have hTy:=hTwx.keep hxy;have hZy:=hZwx.keep hxy;have gy:=kwwx.trans (hxy.mono kwwx.size);go_upto_region 7 with fail
     refine rL hTy hZy hGy gy ?_;intro wu hTwu hZwu hGwu kwwu hwu;have rUu:Rd wu Az 0 s1:=by rw [hwu];exact rUy
     clear hwu;have v2:=aF hTwu.three.2.2;obtain ⟨z0,z1,z2⟩:=iD hGwu;obtain ⟨ua1,ua2,ua3⟩:=iI kwwu a1 a2 a3;go_cut [10] (fun vp wz=>∃(gp:Nat) (Ap:Option Addr) (cp:Nat),vp = .pointer (some ⟨gp,0,none⟩)∧Blk wz gp (Ro 3 0 Ap 2 cp)∧Rd wz Ap 0 [.mk ka na sa,.mk k1 n1 s1]∧Bw wu wz∧wu.heap.size≤gp)
     case first=>
      refine dX wu [8] [0,1,2,3,4] 9 4 (lT:=[_,_,_,_,_]) ?_;intro q0 bq0;refine bV (aD ?_);refine kX 5 7 ?_ ?_
      ·go_wp2_with fail
       refine dO ?_;intro q1 hbq1 zq1 seq1;refine aY bq0 hbq1 ?_;intro bq1 lq1;refine kX 6 7 ?_ ?_
       ·go_wp2_with (go_at_call 31;refine (bP 3 (aT hla ((ra.below kwwu).below bq1).rdp (aT hlz (rUu.below bq1).rdp cB)) 2 rfl (by omega) _ _ zq1).mono ?_;rintro e q2 ⟨A7,c7,rfl,r7q2,hbq2⟩)
        have Bq2:=zq1.keep hbq2;refine aY bq1 hbq2 ?_;intro bq2 lq2;refine bG 7 ?_
        ·go_wp2_with fail
         refine dO ?_;intro q3 hbq3 zq3 seq3;have Bq3:=Bq2.keep hbq3;have Nq3:=r7q2.below hbq3;refine aY bq2 hbq3 ?_;intro bq3 lq3;refine cD [8] (lB:=[_]) ?_;refine gS (aD ?_);obtain ⟨d0,d1,d2,e0,e1,e2⟩:=bW zq3;have szb:wu.heap.size≤q2.heap.size:=bq2.size;go_wp2_with fail
         go_meet
         exact ⟨q2.heap.size,A7,c7,rfl,((zq3.set_ 0 _).set_ 1 _).set_ 2 _,eG zq3 hvl.out Nq3 _ _ _,((bq3.setCell szb _).setCell szb _).setCell szb _,szb⟩
       ·go_wp2_with fail
        refine dO ?_;intro q4 hbq4 zq4 seq4;have Bq4:=zq1.keep hbq4;refine aY bq1 hbq4 ?_;intro bq4 lq4;refine bG 6 ?_
        ·go_wp2_with (go_at_call 31;refine (bP 3 (aT hla ((ra.below kwwu).below bq4).rdp (aT hlz (rUu.below bq4).rdp cB)) 2 rfl (by omega) _ _ Bq4).mono ?_;rintro e q5 ⟨A7,c7,rfl,r7q5,hbq5⟩)
         have Bq5:=Bq4.keep hbq5;have Zq5:=zq4.keep hbq5;refine aY bq4 hbq5 ?_;intro bq5 lq5;refine cD [8] (lB:=[_]) ?_;refine gS (aD ?_);obtain ⟨d0,d1,d2,e0,e1,e2⟩:=bW Zq5;have szb:wu.heap.size≤q1.heap.size:=bq1.size;go_wp2_with fail
         go_meet
         exact ⟨q1.heap.size,A7,c7,rfl,((Zq5.set_ 0 _).set_ 1 _).set_ 2 _,eG Zq5 hvl.out r7q5 _ _ _,((bq5.setCell szb _).setCell szb _).setCell szb _,szb⟩
      ·go_wp2_with fail
       refine dO ?_;intro q6 hbq6 zq6 seq6;refine aY bq0 hbq6 ?_;intro bq6 lq6;refine bG 5 ?_
       ·go_wp2_with fail
        refine dO ?_;intro q7 hbq7 zq7 seq7;have Zq7:=zq6.keep hbq7;refine aY bq6 hbq7 ?_;intro bq7 lq7;refine bG 6 ?_
        ·go_wp2_with (go_at_call 31;refine (bP 3 (aT hla ((ra.below kwwu).below bq7).rdp (aT hlz (rUu.below bq7).rdp cB)) 2 rfl (by omega) _ _ zq7).mono ?_;rintro e q8 ⟨A7,c7,rfl,r7q8,hbq8⟩)
         have Zq8:=Zq7.keep hbq8;have Bq8:=zq7.keep hbq8;refine aY bq7 hbq8 ?_;intro bq8 lq8;refine cD [8] (lB:=[_]) ?_;refine gS (aD ?_);obtain ⟨d0,d1,d2,e0,e1,e2⟩:=bW Zq8;have szb:wu.heap.size≤q0.heap.size:=bq0.size;go_wp2_with fail
         go_meet
         exact ⟨q0.heap.size,A7,c7,rfl,((Zq8.set_ 0 _).set_ 1 _).set_ 2 _,eG Zq8 hvl.out r7q8 _ _ _,((bq8.setCell szb _).setCell szb _).setCell szb _,szb⟩
     case rest=>
      obtain ⟨gp,Ap,cp,rfl,hPz,rPz,hyz,hgp⟩:=hcut;clear v2 z0 z1 z2 ua1 ua2 ua3;have hZz:=hZwu.keep hyz;have gz1:=kwwu.trans (hyz.mono kwwu.size);obtain ⟨p0,p1,p2⟩:=hPz.three;have lpz:=hPz.lt;have lzz:=hZwu.lt;have npz:gp≠w.heap.size+1:=by omega
      go_wp2_with (go_at_call 118;refine (hB.out _ _ _ (hrc.below gz1) rPz).mono ?_;rintro e w8 ⟨A8,c8,rfl,hl8,r8,hb8⟩;have hP8:=(hPz.keep hb8).alloc (.cells (Ro k8 n8 A8 s8.length c8) 25);have hZ8:=(hZz.keep hb8).alloc (.cells (Ro k8 n8 A8 s8.length c8) 25);have g8:=(gz1.trans (hb8.mono gz1.size)).alloc (by have:=gz1.size;have:=hb8.size;omega) (.cells (Ro k8 n8 A8 s8.length c8) 25);have rP8:=(rPz.below hb8).alloc (.cells (Ro k8 n8 A8 s8.length c8) 25);clear p0 p1 p2;obtain ⟨p0,p1,p2⟩:=hP8.three;obtain ⟨d0,d1,d2,e0,e1,e2,lz⟩:=dA hZ8;have lp8:=hP8.lt)
      refine bodyPost_ret (v:=.tuple #[.agg (Ro 3 0 Ap 2 cp),.int .i64 0]) (by simp [results,results119,go_sem,d0,d1,d2]) rfl ⟨Ap,cp,rfl,by simp,eG hZ8 hvl.out rP8 _ _ _,?_⟩;exact bT g8
theorem aMd {by_ k n n':Int}{ks s:List Tm}(h:eZ by_ 0 (.mk k n ks) = .mk k n' s):(if k=1∧0≤n then n+by_ else n)=n'∧cP by_ k 0 0 ks=s:=by
 rw [eZ] at h;injection h with _ h2 h3;exact ⟨h2,h3⟩
mutual
def oL:Tm→Bool
 | .mk k _ ks=>(k != 0) && nzL ks
def nzL:List Tm→Bool
 | []=>true
 | t::ts=>oL t && nzL ts
end
theorem shape_nz:(∀(t:Tm) (d:Nat),shape d t=true→oL t=true)∧∀(ts:List Tm) (d:Nat),(∀t,t∈ts→shape d t=true)→nzL ts=true:=by
 refine bO (fun k n ks ih d h=>?_) (fun d _=>rfl) (fun t ts h1 h2 d h=>?_)
 ·obtain ⟨q,rfl,ha,_,_,hk⟩:=bX h;rw [oL,ih q hk,Bool.and_true,bne_iff_ne];rintro rfl;have:aK 0 = -1:=rfl;omega
 ·rw [nzL,h1 d (h t (by simp)),h2 d (fun u hu=>h u (by simp [hu]))];rfl
theorem aBa (by_:Int):(∀(t:Tm) (c:Int),oL (eZ by_ c t)=oL t)∧∀(ts:List Tm) (k c:Int) (i:Nat),nzL (cP by_ k c i ts)=nzL ts:=by
 refine bO (fun k n ks ih c=>?_) (fun k c i=>rfl) (fun t ts h1 h2 k c i=>?_)
 ·rw [eZ,oL,oL,ih]
 ·rw [cP,nzL,nzL,h1,h2]
theorem aMf {w:World}{z:Nat}(hZ:Blk w z Zr):(∀t b off i,oL t=true→RdC w b off i t→RdPC (·≠z) w b off i t)∧(∀(ks:List Tm) A i,nzL ks=true→Rd w A i ks→RdP (·≠z) w A i ks):=by
 refine bO (fun k n ks ih b off i hs hr=>?_) (fun A i _ _=>RdP.nil) (fun t ts h1 h2 A i hs hr=>?_)
 ·rw [oL,Bool.and_eq_true,bne_iff_ne] at hs;obtain ⟨c1,c2,A,c,c3,hl,hr'⟩:=RdC.iff.1 hr;refine RdPC.iff.2 ⟨fun e=>?_,c1,c2,A,c,c3,hl,ih A 0 hs.2 hr'⟩;subst e;have h0:=hs.1;rw [hZ.cell] at c1;generalize off+i*3=j at c1
  rcases j with _|_|_|j
  ·simp at c1;exact h0 c1.symm
  ·simp at c1;exact h0 c1.symm
  ·simp at c1
  ·simp at c1
 ·rw [nzL,Bool.and_eq_true] at hs;obtain ⟨⟨b,off,e,hc⟩,hr'⟩:=Rd.cons_iff.1 hr;exact RdP.cons_iff.2 ⟨⟨b,off,e,h1 b off i hs.1 hc⟩,h2 A (i+1) hs.2 hr'⟩
theorem aFl (kp np:Int)(sp:List Tm)(Ap:Option Addr)(cp:Nat)(n1 n2:Int)(s1 s2:List Tm)(w:World)(hv:aE (.mk kp np sp)=true)(h1:eZ 1 0 (.mk kp np sp)=Tm.mk kp n1 s1)(h2:eZ 2 0 (.mk kp np sp)=Tm.mk kp n2 s2)(rp:Rd w Ap 0 sp) :
  Calls prog 141 #[.agg (Ro kp np Ap sp.length cp)] w (aYk w 3 0 [Tm.mk 6 0 [],Tm.mk 3 0 [Tm.mk 5 0 [Tm.mk kp n1 s1,Tm.mk 1 0 []],Tm.mk 5 0 [Tm.mk kp n2 s2,Tm.mk 8 0 [Tm.mk 1 1 []]]]]):=by
 have hsz:=aJ hv;obtain ⟨q1,q2⟩:=aMd h1;obtain ⟨q3,q4⟩:=aMd h2;have hS1:=aD (show ∀(w:World) (hr:Rd w Ap 0 sp),Calls prog 142 #[.agg (Ro kp np Ap sp.length cp),.int .i64 1,.int .i64 0] w (uO w kp n1 s1) from fun w hr=>by
  have:=kO _ kp np sp Ap cp 1 0 30 w (qG _) (by omega) (aW hv) (by omega) (by omega) (by omega) hr;rwa [q1,q2] at this)
 have hS2:=aD (show ∀(w:World) (hr:Rd w Ap 0 sp),Calls prog 142 #[.agg (Ro kp np Ap sp.length cp),.int .i64 2,.int .i64 0] w (uO w kp n2 s2) from fun w hr=>by
  have:=kO _ kp np sp Ap cp 2 0 30 w (qG _) (by omega) (aW hv) (by omega) (by omega) (by omega) hr;rwa [q3,q4] at this)
 have hnz:=aD (show nzL [Tm.mk 6 0 [],Tm.mk 3 0 [Tm.mk 5 0 [Tm.mk kp n1 s1,Tm.mk 1 0 []],Tm.mk 5 0 [Tm.mk kp n2 s2,Tm.mk 8 0 [Tm.mk 1 1 []]]]]=true by
  have z0:=shape_nz.1 _ _ (aW hv);have z1:=(aBa 1).1 (.mk kp np sp) 0;have z2:=(aBa 2).1 (.mk kp np sp) 0;rw [h1,z0] at z1;rw [h2,z0] at z2;simp only [oL,nzL] at z1 z2⊢
  simp [z1,z2])
 clear h1 h2 q1 q2 q3 q4;go_enter func141,ntmps141;go_upto_region 4 with (first
  | (go_at_call 31;have _t:=tok7;refine (bP 5 (aT hl5 hf5g.rdp (aT (show ([Tm.mk 1 1 []]:List Tm).length≤9223372036854775807 by simp) r6g.rdp cB)) 2 rfl (by omega) _ _ hRg).mono ?_;rintro e wh ⟨A8,c8,rfl,r8,hbh⟩;have hZw2:=hZg.keep hbh;have hNw2:=hNg.keep hbh;have hQw2:=hQg.keep hbh;have r4h:=r4g.below hbh;have kww2:=kwg.trans (hbh.mono kwg.size);clear tok7;have tok8:=trivial)
  | (go_at_call 31;have _t:=tok6;refine (bP 8 (aT (by simp) (Rd.nil (w:=wf.alloc (.cells (Ro 1 1 none 0 0) 25))).rdp cB) 1 rfl (by omega) _ _ hRf).mono ?_;rintro e wg ⟨A6,c6,rfl,r6,hbg⟩;have hZg:=(hZf.keep hbg).alloc (.cells #[.int .i64 kp,.int .i64 n2,.slice A5 s2.length c5,.int .i64 8,.int .i64 0,.slice A6 1 c6] 25);have hNg:=(hNf.keep hbg).alloc (.cells #[.int .i64 kp,.int .i64 n2,.slice A5 s2.length c5,.int .i64 8,.int .i64 0,.slice A6 1 c6] 25);have hQg:=(hQf.keep hbg).alloc (.cells #[.int .i64 kp,.int .i64 n2,.slice A5 s2.length c5,.int .i64 8,.int .i64 0,.slice A6 1 c6] 25);have r4g:=(r4f.below hbg).alloc (.cells #[.int .i64 kp,.int .i64 n2,.slice A5 s2.length c5,.int .i64 8,.int .i64 0,.slice A6 1 c6] 25);have kwg:=(kwf.trans (hbg.mono kwf.size)).alloc (by have:=kwf.size;have:=hbg.size;omega) (.cells #[.int .i64 kp,.int .i64 n2,.slice A5 s2.length c5,.int .i64 8,.int .i64 0,.slice A6 1 c6] 25);have hf5g:=(hf5f.below hbg).alloc (.cells #[.int .i64 kp,.int .i64 n2,.slice A5 s2.length c5,.int .i64 8,.int .i64 0,.slice A6 1 c6] 25);have r6g:=r6.alloc (.cells #[.int .i64 kp,.int .i64 n2,.slice A5 s2.length c5,.int .i64 8,.int .i64 0,.slice A6 1 c6] 25);have hRg:=aC wg 25 #[.int .i64 kp,.int .i64 n2,.slice A5 s2.length c5,.int .i64 8,.int .i64 0,.slice A6 1 c6] rfl;clear tok6;have tok7:=trivial)
  | (go_at_call 23;have _t:=tok5;refine (bB _ _ _).mono ?_;rintro e wf ⟨rfl,hbf⟩;have hZf:=(hZe.keep hbf).alloc (.cells (Ro 1 1 none 0 0) 25);have hNf:=(hNe.keep hbf).alloc (.cells (Ro 1 1 none 0 0) 25);have hQf:=(hQe.keep hbf).alloc (.cells (Ro 1 1 none 0 0) 25);have r4f:=(r4e.below hbf).alloc (.cells (Ro 1 1 none 0 0) 25);have kwf:=(kwe.trans (hbf.mono kwe.size)).alloc (by have:=kwe.size;have:=hbf.size;omega) (.cells (Ro 1 1 none 0 0) 25);have hf5f:=(hf5.rd.below hbf).alloc (.cells (Ro 1 1 none 0 0) 25);have hRf:=aC wf 25 (Ro 1 1 none 0 0) rfl;clear tok5;have tok6:=trivial)
  | (go_at_call 142;have _t:=tok4;refine (hS2.out _ (rp.below kwd)).mono ?_;rintro e we ⟨A5,c5,rfl,hl5,hf5,hbe⟩;have hZe:=hZd.keep hbe;have hNe:=hNd.keep hbe;have hQe:=hQd.keep hbe;have r4e:=r4d.below hbe;have kwe:=kwd.trans (hbe.mono kwd.size);clear tok4;have tok5:=trivial)
  | (go_at_call 31;have _t:=tok3;refine (bP 5 (aT hl1 hf1c.rdp (aT (by simp) (Rd.nil (w:=wc.alloc (.cells #[.int .i64 kp,.int .i64 n1,.slice A1 s1.length c1,.int .i64 1,.int .i64 0,.slice none 0 0] 25))).rdp cB)) 2 rfl (by omega) _ _ hRc).mono ?_;rintro e wd ⟨A4,c4,rfl,r4,hbd⟩;have hPd:=(hPc.keep hbd).alloc (.cells (Ro 5 0 A4 2 c4) 25);have hZd:=(hZc.keep hbd).alloc (.cells (Ro 5 0 A4 2 c4) 25);have hNd:=(hNc.keep hbd).alloc (.cells (Ro 5 0 A4 2 c4) 25);have kwd:=(kwc.trans (hbd.mono kwc.size)).alloc (by have:=kwc.size;have:=hbd.size;omega) (.cells (Ro 5 0 A4 2 c4) 25);have r4d:=r4.alloc (.cells (Ro 5 0 A4 2 c4) 25);have hQd:=aC wd 25 (Ro 5 0 A4 2 c4) rfl;clear p0 p1 p2;obtain ⟨p0,p1,p2⟩:=hPd.three;clear tok3;have tok4:=trivial)
  | (go_at_call 23;have _t:=tok2;refine (bB _ _ _).mono ?_;rintro e wc ⟨rfl,hbc⟩;have hPc:=(hPb.keep hbc).alloc (.cells #[.int .i64 kp,.int .i64 n1,.slice A1 s1.length c1,.int .i64 1,.int .i64 0,.slice none 0 0] 25);have hZc:=(hZb.keep hbc).alloc (.cells #[.int .i64 kp,.int .i64 n1,.slice A1 s1.length c1,.int .i64 1,.int .i64 0,.slice none 0 0] 25);have hNc:=(hNb.keep hbc).alloc (.cells #[.int .i64 kp,.int .i64 n1,.slice A1 s1.length c1,.int .i64 1,.int .i64 0,.slice none 0 0] 25);have kwc:=(kwb.trans (hbc.mono kwb.size)).alloc (by have:=kwb.size;have:=hbc.size;omega) (.cells #[.int .i64 kp,.int .i64 n1,.slice A1 s1.length c1,.int .i64 1,.int .i64 0,.slice none 0 0] 25);have hf1c:=(hf1.rd.below hbc).alloc (.cells #[.int .i64 kp,.int .i64 n1,.slice A1 s1.length c1,.int .i64 1,.int .i64 0,.slice none 0 0] 25);have hRc:=aC wc 25 #[.int .i64 kp,.int .i64 n1,.slice A1 s1.length c1,.int .i64 1,.int .i64 0,.slice none 0 0] rfl;clear tok2;have tok3:=trivial)
  | (go_at_call 142;have _t:=tok1;refine (hS1.out _ (rp.below kwa1)).mono ?_;rintro e wb ⟨A1,c1,rfl,hl1,hf1,hbb⟩;have hPb:=hPa1.keep hbb;have hZb:=hZa1.keep hbb;have hNb:=hNa1.keep hbb;have kwb:=kwa1.trans (hbb.mono kwa1.size);clear tok1;have tok2:=trivial)
  | (go_at_call 23;  refine (bB _ _ _).mono ?_;rintro e wa ⟨rfl,hba⟩;have hPa:=cV hba;have hZa:=bH hba;have kwa:Bw w wa:=bQ bw2 hba;have hPa1:=hPa.alloc (.cells (Ro 6 0 none 0 0) 25);have hZa1:=hZa.alloc (.cells (Ro 6 0 none 0 0) 25);have hNa1:=aC wa 25 (Ro 6 0 none 0 0) rfl;have kwa1:=kwa.alloc kwa.size (.cells (Ro 6 0 none 0 0) 25);obtain ⟨p0,p1,p2⟩:=hPa1.three;have tok1:=trivial))
 refine aYn (hZw2.alloc _) (hNw2.alloc _) (hQw2.alloc _) (show Blk _ wh.heap.size (Ro 5 0 A8 2 c8) from (aC _ 25 _ (by simp))) (kww2.alloc (by have:=kww2.size;simp<;>omega) _) ?_;intro wx hZwx hNwx hQwx hSwx kwwx hwwx;have r4x:Rd wx A4 0 [Tm.mk kp n1 s1,Tm.mk 1 0 []]:=by rw [hwwx];exact r4h.alloc _
 have r8x:Rd wx A8 0 [Tm.mk kp n2 s2,Tm.mk 8 0 [Tm.mk 1 1 []]]:=by rw [hwwx];exact r8.alloc _
 clear hwwx;obtain ⟨v0,v1,v2⟩:=iD hNwx;obtain ⟨u0,u1,u2⟩:=iD hQwx;obtain ⟨y0,y1,y2⟩:=iD hSwx;refine dX wx [7] [0,1,2] 8 5 (lT:=[_,_,_]) ?_;intro q0 bq0;refine bV (aD ?_);refine bG 3 ?_
 ·go_wp2_with fail
  refine dO ?_;intro q1 hbq1 zq1 seq1;refine aY bq0 hbq1 ?_;intro bq1 lq1;refine bG 4 ?_
  ·go_wp2_with (go_at_call 31;refine (bP 3 (aT (ks:=[Tm.mk kp n1 s1,Tm.mk 1 0 []]) (by simp) (r4x.below bq1).rdp (aT (ks:=[Tm.mk kp n2 s2,Tm.mk 8 0 [Tm.mk 1 1 []]]) (by simp) (r8x.below bq1).rdp cB)) 2 rfl (by omega) _ _ zq1).mono ?_;rintro e q2 ⟨A9,c9,rfl,r9,hbq2⟩)
   refine aY bq1 hbq2 ?_;intro bq2 lq2;refine bG 5 ?_
   ·go_wp2_with fail
    refine dO ?_;intro q3 hbq3 zq3 seq3;have r9q3:=r9.below hbq3;refine aY bq2 hbq3 ?_;intro bq3 lq3;refine bG 6 ?_
    ·go_wp2_with (go_at_call 31;refine (bP 3 (aT (ks:=[]) (by simp) (Rd.nil (w:=q3)).rdp (aT (ks:=[Tm.mk 5 0 [Tm.mk kp n1 s1,Tm.mk 1 0 []],Tm.mk 5 0 [Tm.mk kp n2 s2,Tm.mk 8 0 [Tm.mk 1 1 []]]]) (by simp) r9q3.rdp cB)) 2 rfl (by omega) _ _ zq3).mono ?_;rintro e q4 ⟨A7,c7,rfl,r7,hbq4⟩)
     refine aY bq3 hbq4 ?_;intro bq4 lq4;refine cD [7] (lB:=[_]) ?_;refine gS (aD ?_);have hZq4:=hZwx.keep bq4;have hNq4:=hNwx.keep bq4;have hQq4:=hQwx.keep bq4;have hSq4:=hSwx.keep bq4;have kwq4:=kwwx.trans (bq4.mono kwwx.size);have kwxq4:=bq4;obtain ⟨d0,d1,d2,e0,e1,e2,lz⟩:=dA hZq4;have rset:=((aMf hZq4).2 [Tm.mk 6 0 [],Tm.mk 3 0 [Tm.mk 5 0 [Tm.mk kp n1 s1,Tm.mk 1 0 []],Tm.mk 5 0 [Tm.mk kp n2 s2,Tm.mk 8 0 [Tm.mk 1 1 []]]]] A7 0 hnz.out r7);go_wp2_with fail
     refine bodyPost_ret (v:=.agg (Ro 3 0 A7 2 c7)) (by simp [results,results141,go_sem,d0,d1,d2]) rfl ⟨A7,c7,rfl,by simp,?_,?_⟩
     ·exact (((rset.setCell (a:=⟨(w.heap.size+1),0,none⟩) (fun h=>h rfl) _).setCell (a:=⟨(w.heap.size+1),1,none⟩) (fun h=>h rfl) _).setCell (a:=⟨(w.heap.size+1),2,none⟩) (fun h=>h rfl) _).rd
     ·exact ((kwq4.setCell (by simp<;>omega) _).setCell (by simp<;>omega) _).setCell (by simp<;>omega) _
theorem aKf {N:Nat}(ih:nW N)(ctx:List Tm)(C:Option Addr)(cc:Nat)(k n:Int)(A:Option Addr)(c:Nat)(kp np:Int)(sp:List Tm)(kz nz:Int)(sz:List Tm)(ks ns:Int)(ss:List Tm)(kn nn:Int)(sn:List Tm)(r:Rs Tm)(w:World)(hs:aXg (bJ N) ctx (.mk kp np sp) (.mk kz nz sz) (.mk ks ns ss) (.mk kn nn sn)=some r)(hvp:aE (.mk kp np sp)=true)(hvz:aE (.mk kz nz sz)=true)(hvs:aE (.mk ks ns ss)=true)(hvn:aE (.mk kn nn sn)=true)(hvc:∀u,u∈ctx→aE u=true)(hm:ctx.length≤20)(hrc:Rd w C 0 ctx)(hr:Rd w A 0 [.mk kp np sp,.mk kz nz sz,.mk ks ns ss,.mk kn nn sn]) :
  Calls prog 121 #[.slice C ctx.length cc,.agg (Ro k n A 4 c)] w (oH w r):=by
 have hszp:=aJ hvp;obtain ⟨bk,ok,Ap,cp,rfl,p1,p2,p3,hlp,rp⟩:=kZ hr;obtain ⟨Az,cz,z1,z2,z3,hlz,rz⟩:=tI hr;obtain ⟨As,cs,s1,s2,s3,hls,rs⟩:=kd2 hr;obtain ⟨An,cn,n1,n2,n3,hln,rn⟩:=kd3 hr;simp only [Nat.zero_mul,Nat.add_zero,Nat.one_mul,Nat.reduceMul] at p1 p2 p3 z1 z2 z3 s1 s2 s3 n1 n2 n3
 have lbp:=kY _ _ p1;have hvl:=aD (show ∀t,t∈[.mk kp np sp,.mk kn nn sn]→aE t=true from fun t ht=>by
  rcases List.mem_cons.1 ht with rfl|ht
  ·exact hvp
  ·rw [List.mem_singleton.1 ht];exact hvn)
 rcases aO hs with ⟨b,h1,rfl⟩|⟨u1,h1,hs⟩
 ·have hF:=aD (fun (w:World) (hrc:Rd w C 0 ctx) (hrp:Rd w Ap 0 sp) (hr2:Rd w none 0 [])=>lL ih ctx C cc kp np sp Ap cp 6 0 [] none 0 _ w h1 hvp (by simp [aH]) hvc hm hrc hrp hr2);have qb:=iN b;clear hs h1 hvp hvz hvs hvn hvc ih;go_enter func121,ntmps121;go_upto_region 10 with (first
   | (go_at_call 140;have _t:=tok;refine (hF.out _ (hrc.below kw2) (rp.below kw2) Rd.nil).mono ?_;rintro e w3 ⟨he,hb3⟩;obtain rfl:e = .returned (.int .i64 (dL b)):=he;have hTw3:=hT2.keep hb3;have hZw3:=hZ2.keep hb3;have hPw3:=hP2.keep hb3;have hNw3:=hN2.keep hb3;have kww3:=kw2.trans (hb3.mono kw2.size);clear y0 y1 y2)
   | (go_at_call 23;refine (bB _ _ _).mono ?_;rintro e w1 ⟨rfl,hb1⟩;have hT1:=aKi hb1;have hZ1:=aLl hb1;have hP1:=pW hb1;have kw1:Bw w w1:=bQ bw3 hb1;have hT2:=hT1.alloc (.cells (Ro 6 0 none 0 0) 25);have hZ2:=hZ1.alloc (.cells (Ro 6 0 none 0 0) 25);have hP2:=hP1.alloc (.cells (Ro 6 0 none 0 0) 25);have kw2:=kw1.alloc kw1.size (.cells (Ro 6 0 none 0 0) 25);have hN2:=aC w1 25 (Ro 6 0 none 0 0) rfl;obtain ⟨y0,y1,y2⟩:=hP2.three;have tok:=trivial))
  refine aMq hTw3 hZw3 hPw3 hNw3 kww3 ?_;intro wl hTwl hZwl hPwl hNwl kwwl;have lPz:=hPwl.lt;have lZz:=hZwl.lt;have nz0:bk≠(w.heap.size+1):=by omega
  have nz1:w.heap.size≠(w.heap.size+1):=by omega
  have nz2:(w.heap.size+1+1)≠(w.heap.size+1):=by omega
  have lv:=dZ (z:=(w.heap.size+1)) hTwl.three.2.2 nz1;obtain ⟨lp0,lp1,lp2⟩:=rkB hPwl nz2;obtain ⟨ln1,ln2,ln3⟩:=rk3 kwwl nz0 n1 n2 n3;refine gBk wl (w.heap.size+1) [9] [0,1,2,3,4,7] 10 4 (lT:=[_,_,_,_,_,_]) ?_;intro q0 bq0 keq0;refine bV (aD ?_);refine bG 5 ?_;go_wp2_with fail
  refine dO ?_;intro q1 hbq1 zq1 seq1;refine xU bq0 hbq1 ?_;intro bq1 lq1 keq1;refine bG 6 ?_;go_wp2_with (go_at_call 31;refine (bP 5 (aT hlp ((rp.below kwwl).below bq1).rdp (aT hln ((rn.below kwwl).below bq1).rdp cB)) 2 rfl (by omega) _ _ zq1).mono ?_;rintro e q2 ⟨A7,c7,rfl,r7,hbq2⟩)
  refine xU bq1 hbq2 ?_;intro bq2 lq2 keq2;refine bG 8 ?_;have hZz:=hZwl.keep bq2;obtain ⟨d0,d1,d2,e0,e1,e2,lz⟩:=dA hZz;go_wp2_with fail
  refine cK ?_;intro q3 hn;have hZq3:Blk q3 (w.heap.size+1) (Ro 5 0 A7 2 c7):=by rw [hn];exact ((hZz.set_ 0 _).set_ 1 _).set_ 2 _
  have rq3:Rd q3 A7 0 [.mk kp np sp,.mk kn nn sn]:=by rw [hn];exact eG hZz hvl.out r7 _ _ _
  have kwq3:Bw w q3:=by rw [hn];exact (bT (kwwl.trans (bq2.mono kwwl.size)))
  have keq3:KE wl (w.heap.size+1) q3:=by rw [hn];exact ((keq2.set _ _).set _ _).set _ _
  clear hn d0 d1 d2 e0 e1 e2 lz;refine aP keq3 ?_;refine cD [9] (lB:=[_]) ?_;refine gS (aD ?_);obtain ⟨d0,d1,d2,e0,e1,e2,lz⟩:=dA hZq3;go_wp2_with fail
  refine bodyPost_ret (v:=.tuple #[.agg (Ro 5 0 A7 2 c7),.int .i64 (dL b)]) (by simp [results,results121,go_sem,d0,d1,d2]) rfl ⟨5,0,A7,2,c7,rfl,kwq3⟩
 ·have hF:=aD (fun (w:World) (hrc:Rd w C 0 ctx) (hrp:Rd w Ap 0 sp) (hr2:Rd w none 0 [])=>lL ih ctx C cc kp np sp Ap cp 6 0 [] none 0 _ w h1 hvp (by simp [aH]) hvc hm hrc hrp hr2);replace hs:bd (iL (bJ N) ctx (.mk kz nz sz) (.mk 5 0 [.mk kp np sp,Tm.mk 7 0 []])) (fun _=>bd (iL (bJ N) ctx (.mk ks ns ss) (kP (.mk kp np sp))) fun _=>bd (iL (bJ N) ctx (.mk kn nn sn) (.mk 6 0 [])) fun _=>some (.ok (.mk 5 0 [.mk kp np sp,.mk kn nn sn])))=some r:=hs;rcases aO hs with ⟨b,h2,rfl⟩|⟨u2,h2,hs⟩
  ·have hC1:=aD (fun (A2:Option Addr) (c2:Nat) (w:World) (hrc:Rd w C 0 ctx) (hrt:Rd w Az 0 sz) (hr2:Rd w A2 0 [.mk kp np sp,Tm.mk 7 0 []])=>cC ih ctx C cc kz nz sz Az cz 5 0 [.mk kp np sp,Tm.mk 7 0 []] A2 c2 _ w h2 hvz hvc (by omega) hrc hrt (by simp only [aH,Tm.size];omega) hr2);have qb:=iN b;clear hs h1 h2 hvp hvz hvs hvn hvc ih;go_enter func121,ntmps121;go_upto_region 5 with (first
    | (go_at_call 140;have _t:=tok;refine (hF.out _ (hrc.below kw2) (rp.below kw2) Rd.nil).mono ?_;rintro e w3 ⟨he,hb3⟩;obtain rfl:e = .returned (.int .i64 0):=he;have hTw3:=hT2.keep hb3;have hZw3:=hZ2.keep hb3;have hPw3:=hP2.keep hb3;have hNw3:=hN2.keep hb3;have kww3:=kw2.trans (hb3.mono kw2.size);clear y0 y1 y2)
    | (go_at_call 23;refine (bB _ _ _).mono ?_;rintro e w1 ⟨rfl,hb1⟩;have hT1:=aKi hb1;have hZ1:=aLl hb1;have hP1:=pW hb1;have kw1:Bw w w1:=bQ bw3 hb1;have hT2:=hT1.alloc (.cells (Ro 6 0 none 0 0) 25);have hZ2:=hZ1.alloc (.cells (Ro 6 0 none 0 0) 25);have hP2:=hP1.alloc (.cells (Ro 6 0 none 0 0) 25);have kw2:=kw1.alloc kw1.size (.cells (Ro 6 0 none 0 0) 25);have hN2:=aC w1 25 (Ro 6 0 none 0 0) rfl;obtain ⟨y0,y1,y2⟩:=hP2.three;have tok:=trivial))
   refine aMq hTw3 hZw3 hPw3 hNw3 kww3 ?_;intro wx hTwx hZwx hPwx hNwx kwwx;have v2:=aF hTwx.three.2.2;obtain ⟨y0,y1,y2⟩:=iD hPwx;obtain ⟨uz1,uz2,uz3⟩:=iI kwwx z1 z2 z3;refine dX wx [10] [0,1,2,3,4,5] 11 5 (lT:=[_,_,_,_,_,_]) ?_;intro q0 bq0;refine bV (aD ?_);refine bG 6 ?_
   ·go_wp2_with (go_at_call 23;refine (bB _ _ _).mono ?_;rintro e q1 ⟨rfl,hbq1⟩)
    refine aY bq0 hbq1 ?_;intro bq1 lq1;refine bG 7 ?_
    ·go_wp2_with fail
     refine dO ?_;intro q2 hbq2 zq2 seq2;refine aY bq1 hbq2 ?_;intro bq2 lq2;refine bG 8 ?_
     ·go_wp2_with (go_at_call 31;refine (bP 5 (aT hlp ((rp.below kwwx).below bq2).rdp (aT (ks:=[]) (by simp) (Rd.nil (w:=q2)).rdp cB)) 2 rfl (by omega) _ _ zq2).mono ?_;rintro e q3 ⟨A6,c6,rfl,r6,hbq3⟩)
      refine aY bq2 hbq3 ?_;intro bq3 lq3;refine bG 9 ?_
      ·go_wp2_with (go_at_call 46;refine (hC1.out _ _ _ ((hrc.below kwwx).below bq3) ((rz.below kwwx).below bq3) r6).mono ?_;rintro e q4 ⟨he,hbq4⟩;obtain rfl:e = .returned (.int .i64 (dL b)):=he)
       refine aY bq3 hbq4 ?_;intro bq4 lq4;refine cD [10] (lB:=[_]) ?_;refine gS (aD ?_);have hTq4:=hTwx.keep bq4;have hZq4:=hZwx.keep bq4;have hPq4:=hPwx.keep bq4;have hNq4:=hNwx.keep bq4;have kwq4:=kwwx.trans (bq4.mono kwwx.size);have kwxq4:=bq4;go_upto_region 10 with fail
       refine aRw hTq4 hZq4 hPq4 hNq4 kwq4 kwxq4 ?_;intro wl hTwl hZwl hPwl hNwl kwwl kwxwl;have lPz:=hPwl.lt;have lZz:=hZwl.lt;have nz0:bk≠(w.heap.size+1):=by omega
       have nz1:w.heap.size≠(w.heap.size+1):=by omega
       have nz2:(w.heap.size+1+1)≠(w.heap.size+1):=by omega
       have lv:=dZ (z:=(w.heap.size+1)) hTwl.three.2.2 nz1;obtain ⟨lp0,lp1,lp2⟩:=rkB hPwl nz2;obtain ⟨ln1,ln2,ln3⟩:=rk3 kwwl nz0 n1 n2 n3;refine gBk wl (w.heap.size+1) [9] [0,1,2,3,4,7] 10 4 (lT:=[_,_,_,_,_,_]) ?_;intro q0 bq0 keq0;refine bV (aD ?_);refine bG 5 ?_;go_wp2_with fail
       refine dO ?_;intro q1 hbq1 zq1 seq1;refine xU bq0 hbq1 ?_;intro bq1 lq1 keq1;refine bG 6 ?_;go_wp2_with (go_at_call 31;refine (bP 5 (aT hlp ((rp.below kwwl).below bq1).rdp (aT hln ((rn.below kwwl).below bq1).rdp cB)) 2 rfl (by omega) _ _ zq1).mono ?_;rintro e q2 ⟨A7,c7,rfl,r7,hbq2⟩)
       refine xU bq1 hbq2 ?_;intro bq2 lq2 keq2;refine bG 8 ?_;have hZz:=hZwl.keep bq2;obtain ⟨d0,d1,d2,e0,e1,e2,lz⟩:=dA hZz;go_wp2_with fail
       refine cK ?_;intro q3 hn;have hZq3:Blk q3 (w.heap.size+1) (Ro 5 0 A7 2 c7):=by rw [hn];exact ((hZz.set_ 0 _).set_ 1 _).set_ 2 _
       have rq3:Rd q3 A7 0 [.mk kp np sp,.mk kn nn sn]:=by rw [hn];exact eG hZz hvl.out r7 _ _ _
       have kwq3:Bw w q3:=by rw [hn];exact (bT (kwwl.trans (bq2.mono kwwl.size)))
       have keq3:KE wl (w.heap.size+1) q3:=by rw [hn];exact ((keq2.set _ _).set _ _).set _ _
       clear hn d0 d1 d2 e0 e1 e2 lz;refine aP keq3 ?_;refine cD [9] (lB:=[_]) ?_;refine gS (aD ?_);obtain ⟨d0,d1,d2,e0,e1,e2,lz⟩:=dA hZq3;go_wp2_with fail
       refine bodyPost_ret (v:=.tuple #[.agg (Ro 5 0 A7 2 c7),.int .i64 (dL b)]) (by simp [results,results121,go_sem,d0,d1,d2]) rfl ⟨5,0,A7,2,c7,rfl,kwq3⟩
  ·have hC1:=aD (fun (A2:Option Addr) (c2:Nat) (w:World) (hrc:Rd w C 0 ctx) (hrt:Rd w Az 0 sz) (hr2:Rd w A2 0 [.mk kp np sp,Tm.mk 7 0 []])=>cC ih ctx C cc kz nz sz Az cz 5 0 [.mk kp np sp,Tm.mk 7 0 []] A2 c2 _ w h2 hvz hvc (by omega) hrc hrt (by simp only [aH,Tm.size];omega) hr2);obtain ⟨k8,n8,s8,h8⟩:=jF (eZ 1 0 (.mk kp np sp));obtain ⟨k9,n9,s9,h9⟩:=jF (eZ 2 0 (.mk kp np sp));obtain rfl:k8=kp:=by have:=h8;rw [eZ] at this;injection this with a _ _;exact a.symm
   obtain rfl:k9=k8:=by have:=h9;rw [eZ] at this;injection this with a _ _;exact a.symm
   have hT9:=aD (fun (w:World) (hr:Rd w Ap 0 sp)=>aFl k9 np sp Ap cp n8 n9 s8 s9 w hvp h8 h9 hr);have hsz3:aH [Tm.mk 6 0 [],Tm.mk 3 0 [Tm.mk 5 0 [Tm.mk k9 n8 s8,Tm.mk 1 0 []],Tm.mk 5 0 [Tm.mk k9 n9 s9,Tm.mk 8 0 [Tm.mk 1 1 []]]]]≤1000000:=by
    have e1:=sF 1 (.mk k9 np sp) 0;have e2:=sF 2 (.mk k9 np sp) 0;rw [h8] at e1;rw [h9] at e2;simp only [Tm.size] at e1 e2
    simp only [aH,Tm.size]
    omega
   have hstp:kP (.mk k9 np sp) = .mk 3 0 [Tm.mk 6 0 [],Tm.mk 3 0 [Tm.mk 5 0 [Tm.mk k9 n8 s8,Tm.mk 1 0 []],Tm.mk 5 0 [Tm.mk k9 n9 s9,Tm.mk 8 0 [Tm.mk 1 1 []]]]]:=by unfold kP;rw [h8,h9];rfl
   rw [hstp] at hs;clear h8 h9 hstp;rcases aO hs with ⟨b,h3,rfl⟩|⟨u3,h3,hs⟩
   ·have hC2:=aD (fun (A2:Option Addr) (c2:Nat) (w:World) (hrc:Rd w C 0 ctx) (hrt:Rd w As 0 ss) (hr2:Rd w A2 0 [Tm.mk 6 0 [],Tm.mk 3 0 [Tm.mk 5 0 [Tm.mk k9 n8 s8,Tm.mk 1 0 []],Tm.mk 5 0 [Tm.mk k9 n9 s9,Tm.mk 8 0 [Tm.mk 1 1 []]]]])=>cC ih ctx C cc ks ns ss As cs 3 0 [Tm.mk 6 0 [],Tm.mk 3 0 [Tm.mk 5 0 [Tm.mk k9 n8 s8,Tm.mk 1 0 []],Tm.mk 5 0 [Tm.mk k9 n9 s9,Tm.mk 8 0 [Tm.mk 1 1 []]]]] A2 c2 _ w h3 hvs hvc (by omega) hrc hrt hsz3 hr2);have qb:=iN b;clear hs h1 h2 h3 hvp hvz hvs hvn hvc ih;go_enter func121,ntmps121;go_upto_region 5 with (first
     | (go_at_call 140;have _t:=tok;refine (hF.out _ (hrc.below kw2) (rp.below kw2) Rd.nil).mono ?_;rintro e w3 ⟨he,hb3⟩;obtain rfl:e = .returned (.int .i64 0):=he;have hTw3:=hT2.keep hb3;have hZw3:=hZ2.keep hb3;have hPw3:=hP2.keep hb3;have hNw3:=hN2.keep hb3;have kww3:=kw2.trans (hb3.mono kw2.size);clear y0 y1 y2)
     | (go_at_call 23;refine (bB _ _ _).mono ?_;rintro e w1 ⟨rfl,hb1⟩;have hT1:=aKi hb1;have hZ1:=aLl hb1;have hP1:=pW hb1;have kw1:Bw w w1:=bQ bw3 hb1;have hT2:=hT1.alloc (.cells (Ro 6 0 none 0 0) 25);have hZ2:=hZ1.alloc (.cells (Ro 6 0 none 0 0) 25);have hP2:=hP1.alloc (.cells (Ro 6 0 none 0 0) 25);have kw2:=kw1.alloc kw1.size (.cells (Ro 6 0 none 0 0) 25);have hN2:=aC w1 25 (Ro 6 0 none 0 0) rfl;obtain ⟨y0,y1,y2⟩:=hP2.three;have tok:=trivial))
    refine aMq hTw3 hZw3 hPw3 hNw3 kww3 ?_;intro wx hTwx hZwx hPwx hNwx kwwx;have v2:=aF hTwx.three.2.2;obtain ⟨y0,y1,y2⟩:=iD hPwx;obtain ⟨uz1,uz2,uz3⟩:=iI kwwx z1 z2 z3;refine dX wx [10] [0,1,2,3,4,5] 11 5 (lT:=[_,_,_,_,_,_]) ?_;intro q0 bq0;refine bV (aD ?_);refine bG 6 ?_
    ·go_wp2_with (go_at_call 23;refine (bB _ _ _).mono ?_;rintro e q1 ⟨rfl,hbq1⟩)
     refine aY bq0 hbq1 ?_;intro bq1 lq1;refine bG 7 ?_
     ·go_wp2_with fail
      refine dO ?_;intro q2 hbq2 zq2 seq2;refine aY bq1 hbq2 ?_;intro bq2 lq2;refine bG 8 ?_
      ·go_wp2_with (go_at_call 31;refine (bP 5 (aT hlp ((rp.below kwwx).below bq2).rdp (aT (ks:=[]) (by simp) (Rd.nil (w:=q2)).rdp cB)) 2 rfl (by omega) _ _ zq2).mono ?_;rintro e q3 ⟨A6,c6,rfl,r6,hbq3⟩)
       refine aY bq2 hbq3 ?_;intro bq3 lq3;refine bG 9 ?_
       ·go_wp2_with (go_at_call 46;refine (hC1.out _ _ _ ((hrc.below kwwx).below bq3) ((rz.below kwwx).below bq3) r6).mono ?_;rintro e q4 ⟨he,hbq4⟩;obtain rfl:e = .returned (.int .i64 0):=he)
        refine aY bq3 hbq4 ?_;intro bq4 lq4;refine cD [10] (lB:=[_]) ?_;refine gS (aD ?_);have hTq4:=hTwx.keep bq4;have hZq4:=hZwx.keep bq4;have hPq4:=hPwx.keep bq4;have hNq4:=hNwx.keep bq4;have kwq4:=kwwx.trans (bq4.mono kwwx.size);have kwxq4:=bq4;go_upto_region 7 with fail
        refine aRw hTq4 hZq4 hPq4 hNq4 kwq4 kwxq4 ?_;intro wu hTwu hZwu hPwu hNwu kwwu kwxwu;clear v2 y0 y1 y2 uz1 uz2 uz3;have v2:=aF hTwu.three.2.2;obtain ⟨y0,y1,y2⟩:=iD hPwu;obtain ⟨us1,us2,us3⟩:=iI kwwu s1 s2 s3;refine dX wu [8] [0,1,2,3,4,5] 9 3 (lT:=[_,_,_,_,_,_]) ?_;intro q0 bq0;refine bV (aD ?_);refine bG 6 ?_
        ·go_wp2_with (go_at_call 141;refine (hT9.out _ ((rp.below kwwu).below bq0)).mono ?_;rintro e q1 ⟨A8,c8,rfl,hl8,r8,hbq1⟩)
         refine aY bq0 hbq1 ?_;intro bq1 lq1;refine bG 7 ?_
         ·go_wp2_with (go_at_call 46;refine (hC2.out _ _ _ ((hrc.below kwwu).below bq1) ((rs.below kwwu).below bq1) r8).mono ?_;rintro e q2 ⟨he,hbq2⟩;obtain rfl:e = .returned (.int .i64 (dL b)):=he)
          refine aY bq1 hbq2 ?_;intro bq2 lq2;refine cD [8] (lB:=[_]) ?_;refine gS (aD ?_);have hTq2:=hTwu.keep bq2;have hZq2:=hZwu.keep bq2;have hPq2:=hPwu.keep bq2;have hNq2:=hNwu.keep bq2;have kwq2:=kwwu.trans (bq2.mono kwwu.size);have kwxq2:=kwxwu.trans (bq2.mono kwxwu.size);have kwuq2:=bq2;go_upto_region 10 with fail
          refine aTo hTq2 hZq2 hPq2 hNq2 kwq2 kwxq2 kwuq2 ?_;intro wl hTwl hZwl hPwl hNwl kwwl kwxwl kwuwl;have lPz:=hPwl.lt;have lZz:=hZwl.lt;have nz0:bk≠(w.heap.size+1):=by omega
          have nz1:w.heap.size≠(w.heap.size+1):=by omega
          have nz2:(w.heap.size+1+1)≠(w.heap.size+1):=by omega
          have lv:=dZ (z:=(w.heap.size+1)) hTwl.three.2.2 nz1;obtain ⟨lp0,lp1,lp2⟩:=rkB hPwl nz2;obtain ⟨ln1,ln2,ln3⟩:=rk3 kwwl nz0 n1 n2 n3;refine gBk wl (w.heap.size+1) [9] [0,1,2,3,4,7] 10 4 (lT:=[_,_,_,_,_,_]) ?_;intro q0 bq0 keq0;refine bV (aD ?_);refine bG 5 ?_;go_wp2_with fail
          refine dO ?_;intro q1 hbq1 zq1 seq1;refine xU bq0 hbq1 ?_;intro bq1 lq1 keq1;refine bG 6 ?_;go_wp2_with (go_at_call 31;refine (bP 5 (aT hlp ((rp.below kwwl).below bq1).rdp (aT hln ((rn.below kwwl).below bq1).rdp cB)) 2 rfl (by omega) _ _ zq1).mono ?_;rintro e q2 ⟨A7,c7,rfl,r7,hbq2⟩)
          refine xU bq1 hbq2 ?_;intro bq2 lq2 keq2;refine bG 8 ?_;have hZz:=hZwl.keep bq2;obtain ⟨d0,d1,d2,e0,e1,e2,lz⟩:=dA hZz;go_wp2_with fail
          refine cK ?_;intro q3 hn;have hZq3:Blk q3 (w.heap.size+1) (Ro 5 0 A7 2 c7):=by rw [hn];exact ((hZz.set_ 0 _).set_ 1 _).set_ 2 _
          have rq3:Rd q3 A7 0 [.mk k9 np sp,.mk kn nn sn]:=by rw [hn];exact eG hZz hvl.out r7 _ _ _
          have kwq3:Bw w q3:=by rw [hn];exact (bT (kwwl.trans (bq2.mono kwwl.size)))
          have keq3:KE wl (w.heap.size+1) q3:=by rw [hn];exact ((keq2.set _ _).set _ _).set _ _
          clear hn d0 d1 d2 e0 e1 e2 lz;refine aP keq3 ?_;refine cD [9] (lB:=[_]) ?_;refine gS (aD ?_);obtain ⟨d0,d1,d2,e0,e1,e2,lz⟩:=dA hZq3;go_wp2_with fail
          refine bodyPost_ret (v:=.tuple #[.agg (Ro 5 0 A7 2 c7),.int .i64 (dL b)]) (by simp [results,results121,go_sem,d0,d1,d2]) rfl ⟨5,0,A7,2,c7,rfl,kwq3⟩
   ·have hC2:=aD (fun (A2:Option Addr) (c2:Nat) (w:World) (hrc:Rd w C 0 ctx) (hrt:Rd w As 0 ss) (hr2:Rd w A2 0 [Tm.mk 6 0 [],Tm.mk 3 0 [Tm.mk 5 0 [Tm.mk k9 n8 s8,Tm.mk 1 0 []],Tm.mk 5 0 [Tm.mk k9 n9 s9,Tm.mk 8 0 [Tm.mk 1 1 []]]]])=>cC ih ctx C cc ks ns ss As cs 3 0 [Tm.mk 6 0 [],Tm.mk 3 0 [Tm.mk 5 0 [Tm.mk k9 n8 s8,Tm.mk 1 0 []],Tm.mk 5 0 [Tm.mk k9 n9 s9,Tm.mk 8 0 [Tm.mk 1 1 []]]]] A2 c2 _ w h3 hvs hvc (by omega) hrc hrt hsz3 hr2);rcases aO hs with ⟨b,h4,rfl⟩|⟨u4,h4,hs⟩
    ·have hC3:=aD (fun (A2:Option Addr) (c2:Nat) (w:World) (hrc:Rd w C 0 ctx) (hrt:Rd w An 0 sn) (hr2:Rd w A2 0 [])=>cC ih ctx C cc kn nn sn An cn 6 0 [] A2 c2 _ w h4 hvn hvc (by omega) hrc hrt (by simp [aH]) hr2);have qb:=iN b;clear hs h1 h2 h3 h4 hvp hvz hvs hvn hvc ih;go_enter func121,ntmps121;go_upto_region 5 with (first
      | (go_at_call 140;have _t:=tok;refine (hF.out _ (hrc.below kw2) (rp.below kw2) Rd.nil).mono ?_;rintro e w3 ⟨he,hb3⟩;obtain rfl:e = .returned (.int .i64 0):=he;have hTw3:=hT2.keep hb3;have hZw3:=hZ2.keep hb3;have hPw3:=hP2.keep hb3;have hNw3:=hN2.keep hb3;have kww3:=kw2.trans (hb3.mono kw2.size);clear y0 y1 y2)
      | (go_at_call 23;refine (bB _ _ _).mono ?_;rintro e w1 ⟨rfl,hb1⟩;have hT1:=aKi hb1;have hZ1:=aLl hb1;have hP1:=pW hb1;have kw1:Bw w w1:=bQ bw3 hb1;have hT2:=hT1.alloc (.cells (Ro 6 0 none 0 0) 25);have hZ2:=hZ1.alloc (.cells (Ro 6 0 none 0 0) 25);have hP2:=hP1.alloc (.cells (Ro 6 0 none 0 0) 25);have kw2:=kw1.alloc kw1.size (.cells (Ro 6 0 none 0 0) 25);have hN2:=aC w1 25 (Ro 6 0 none 0 0) rfl;obtain ⟨y0,y1,y2⟩:=hP2.three;have tok:=trivial))
     refine aMq hTw3 hZw3 hPw3 hNw3 kww3 ?_;intro wx hTwx hZwx hPwx hNwx kwwx;have v2:=aF hTwx.three.2.2;obtain ⟨y0,y1,y2⟩:=iD hPwx;obtain ⟨uz1,uz2,uz3⟩:=iI kwwx z1 z2 z3;refine dX wx [10] [0,1,2,3,4,5] 11 5 (lT:=[_,_,_,_,_,_]) ?_;intro q0 bq0;refine bV (aD ?_);refine bG 6 ?_
     ·go_wp2_with (go_at_call 23;refine (bB _ _ _).mono ?_;rintro e q1 ⟨rfl,hbq1⟩)
      refine aY bq0 hbq1 ?_;intro bq1 lq1;refine bG 7 ?_
      ·go_wp2_with fail
       refine dO ?_;intro q2 hbq2 zq2 seq2;refine aY bq1 hbq2 ?_;intro bq2 lq2;refine bG 8 ?_
       ·go_wp2_with (go_at_call 31;refine (bP 5 (aT hlp ((rp.below kwwx).below bq2).rdp (aT (ks:=[]) (by simp) (Rd.nil (w:=q2)).rdp cB)) 2 rfl (by omega) _ _ zq2).mono ?_;rintro e q3 ⟨A6,c6,rfl,r6,hbq3⟩)
        refine aY bq2 hbq3 ?_;intro bq3 lq3;refine bG 9 ?_
        ·go_wp2_with (go_at_call 46;refine (hC1.out _ _ _ ((hrc.below kwwx).below bq3) ((rz.below kwwx).below bq3) r6).mono ?_;rintro e q4 ⟨he,hbq4⟩;obtain rfl:e = .returned (.int .i64 0):=he)
         refine aY bq3 hbq4 ?_;intro bq4 lq4;refine cD [10] (lB:=[_]) ?_;refine gS (aD ?_);have hTq4:=hTwx.keep bq4;have hZq4:=hZwx.keep bq4;have hPq4:=hPwx.keep bq4;have hNq4:=hNwx.keep bq4;have kwq4:=kwwx.trans (bq4.mono kwwx.size);have kwxq4:=bq4;go_upto_region 7 with fail
         refine aRw hTq4 hZq4 hPq4 hNq4 kwq4 kwxq4 ?_;intro wu hTwu hZwu hPwu hNwu kwwu kwxwu;clear v2 y0 y1 y2 uz1 uz2 uz3;have v2:=aF hTwu.three.2.2;obtain ⟨y0,y1,y2⟩:=iD hPwu;obtain ⟨us1,us2,us3⟩:=iI kwwu s1 s2 s3;refine dX wu [8] [0,1,2,3,4,5] 9 3 (lT:=[_,_,_,_,_,_]) ?_;intro q0 bq0;refine bV (aD ?_);refine bG 6 ?_
         ·go_wp2_with (go_at_call 141;refine (hT9.out _ ((rp.below kwwu).below bq0)).mono ?_;rintro e q1 ⟨A8,c8,rfl,hl8,r8,hbq1⟩)
          refine aY bq0 hbq1 ?_;intro bq1 lq1;refine bG 7 ?_
          ·go_wp2_with (go_at_call 46;refine (hC2.out _ _ _ ((hrc.below kwwu).below bq1) ((rs.below kwwu).below bq1) r8).mono ?_;rintro e q2 ⟨he,hbq2⟩;obtain rfl:e = .returned (.int .i64 0):=he)
           refine aY bq1 hbq2 ?_;intro bq2 lq2;refine cD [8] (lB:=[_]) ?_;refine gS (aD ?_);have hTq2:=hTwu.keep bq2;have hZq2:=hZwu.keep bq2;have hPq2:=hPwu.keep bq2;have hNq2:=hNwu.keep bq2;have kwq2:=kwwu.trans (bq2.mono kwwu.size);have kwxq2:=kwxwu.trans (bq2.mono kwxwu.size);have kwuq2:=bq2;go_upto_region 9 with fail
           refine aTo hTq2 hZq2 hPq2 hNq2 kwq2 kwxq2 kwuq2 ?_;intro wv hTwv hZwv hPwv hNwv kwwv kwxwv kwuwv;clear v2 y0 y1 y2 us1 us2 us3;have v2:=aF hTwv.three.2.2;obtain ⟨y0,y1,y2⟩:=iD hNwv;obtain ⟨un1,un2,un3⟩:=iI kwwv n1 n2 n3;refine dX wv [7] [0,1,2,3,4,5] 8 2 (lT:=[_,_,_,_,_,_]) ?_;intro q0 bq0;refine bV (aD ?_);refine bG 6 ?_
           ·go_wp2_with (go_at_call 46;refine (hC3.out _ _ _ ((hrc.below kwwv).below bq0) ((rn.below kwwv).below bq0) Rd.nil).mono ?_;rintro e q1 ⟨he,hbq1⟩;obtain rfl:e = .returned (.int .i64 (dL b)):=he)
            refine aY bq0 hbq1 ?_;intro bq1 lq1;refine cD [7] (lB:=[_]) ?_;refine gS (aD ?_);have hTq1:=hTwv.keep bq1;have hZq1:=hZwv.keep bq1;have hPq1:=hPwv.keep bq1;have hNq1:=hNwv.keep bq1;have kwq1:=kwwv.trans (bq1.mono kwwv.size);have kwxq1:=kwxwv.trans (bq1.mono kwxwv.size);have kwuq1:=kwuwv.trans (bq1.mono kwuwv.size);have kwvq1:=bq1;go_upto_region 10 with fail
            refine aXp hTq1 hZq1 hPq1 hNq1 kwq1 kwxq1 kwuq1 kwvq1 ?_;intro wl hTwl hZwl hPwl hNwl kwwl kwxwl kwuwl kwvwl;have lPz:=hPwl.lt;have lZz:=hZwl.lt;have nz0:bk≠(w.heap.size+1):=by omega
            have nz1:w.heap.size≠(w.heap.size+1):=by omega
            have nz2:(w.heap.size+1+1)≠(w.heap.size+1):=by omega
            have lv:=dZ (z:=(w.heap.size+1)) hTwl.three.2.2 nz1;obtain ⟨lp0,lp1,lp2⟩:=rkB hPwl nz2;obtain ⟨ln1,ln2,ln3⟩:=rk3 kwwl nz0 n1 n2 n3;refine gBk wl (w.heap.size+1) [9] [0,1,2,3,4,7] 10 4 (lT:=[_,_,_,_,_,_]) ?_;intro q0 bq0 keq0;refine bV (aD ?_);refine bG 5 ?_;go_wp2_with fail
            refine dO ?_;intro q1 hbq1 zq1 seq1;refine xU bq0 hbq1 ?_;intro bq1 lq1 keq1;refine bG 6 ?_;go_wp2_with (go_at_call 31;refine (bP 5 (aT hlp ((rp.below kwwl).below bq1).rdp (aT hln ((rn.below kwwl).below bq1).rdp cB)) 2 rfl (by omega) _ _ zq1).mono ?_;rintro e q2 ⟨A7,c7,rfl,r7,hbq2⟩)
            refine xU bq1 hbq2 ?_;intro bq2 lq2 keq2;refine bG 8 ?_;have hZz:=hZwl.keep bq2;obtain ⟨d0,d1,d2,e0,e1,e2,lz⟩:=dA hZz;go_wp2_with fail
            refine cK ?_;intro q3 hn;have hZq3:Blk q3 (w.heap.size+1) (Ro 5 0 A7 2 c7):=by rw [hn];exact ((hZz.set_ 0 _).set_ 1 _).set_ 2 _
            have rq3:Rd q3 A7 0 [.mk k9 np sp,.mk kn nn sn]:=by rw [hn];exact eG hZz hvl.out r7 _ _ _
            have kwq3:Bw w q3:=by rw [hn];exact (bT (kwwl.trans (bq2.mono kwwl.size)))
            have keq3:KE wl (w.heap.size+1) q3:=by rw [hn];exact ((keq2.set _ _).set _ _).set _ _
            clear hn d0 d1 d2 e0 e1 e2 lz;refine aP keq3 ?_;refine cD [9] (lB:=[_]) ?_;refine gS (aD ?_);obtain ⟨d0,d1,d2,e0,e1,e2,lz⟩:=dA hZq3;go_wp2_with fail
            refine bodyPost_ret (v:=.tuple #[.agg (Ro 5 0 A7 2 c7),.int .i64 (dL b)]) (by simp [results,results121,go_sem,d0,d1,d2]) rfl ⟨5,0,A7,2,c7,rfl,kwq3⟩
    ·have hC3:=aD (fun (A2:Option Addr) (c2:Nat) (w:World) (hrc:Rd w C 0 ctx) (hrt:Rd w An 0 sn) (hr2:Rd w A2 0 [])=>cC ih ctx C cc kn nn sn An cn 6 0 [] A2 c2 _ w h4 hvn hvc (by omega) hrc hrt (by simp [aH]) hr2);injection hs with hs;subst hs;clear h1 h2 h3 h4 hvp hvz hvs hvn hvc ih;go_enter func121,ntmps121;go_upto_region 5 with (first
      | (go_at_call 140;have _t:=tok;refine (hF.out _ (hrc.below kw2) (rp.below kw2) Rd.nil).mono ?_;rintro e w3 ⟨he,hb3⟩;obtain rfl:e = .returned (.int .i64 0):=he;have hTw3:=hT2.keep hb3;have hZw3:=hZ2.keep hb3;have hPw3:=hP2.keep hb3;have hNw3:=hN2.keep hb3;have kww3:=kw2.trans (hb3.mono kw2.size);clear y0 y1 y2)
      | (go_at_call 23;refine (bB _ _ _).mono ?_;rintro e w1 ⟨rfl,hb1⟩;have hT1:=aKi hb1;have hZ1:=aLl hb1;have hP1:=pW hb1;have kw1:Bw w w1:=bQ bw3 hb1;have hT2:=hT1.alloc (.cells (Ro 6 0 none 0 0) 25);have hZ2:=hZ1.alloc (.cells (Ro 6 0 none 0 0) 25);have hP2:=hP1.alloc (.cells (Ro 6 0 none 0 0) 25);have kw2:=kw1.alloc kw1.size (.cells (Ro 6 0 none 0 0) 25);have hN2:=aC w1 25 (Ro 6 0 none 0 0) rfl;obtain ⟨y0,y1,y2⟩:=hP2.three;have tok:=trivial))
     refine aMq hTw3 hZw3 hPw3 hNw3 kww3 ?_;intro wx hTwx hZwx hPwx hNwx kwwx;have v2:=aF hTwx.three.2.2;obtain ⟨y0,y1,y2⟩:=iD hPwx;obtain ⟨uz1,uz2,uz3⟩:=iI kwwx z1 z2 z3;refine dX wx [10] [0,1,2,3,4,5] 11 5 (lT:=[_,_,_,_,_,_]) ?_;intro q0 bq0;refine bV (aD ?_);refine bG 6 ?_
     ·go_wp2_with (go_at_call 23;refine (bB _ _ _).mono ?_;rintro e q1 ⟨rfl,hbq1⟩)
      refine aY bq0 hbq1 ?_;intro bq1 lq1;refine bG 7 ?_
      ·go_wp2_with fail
       refine dO ?_;intro q2 hbq2 zq2 seq2;refine aY bq1 hbq2 ?_;intro bq2 lq2;refine bG 8 ?_
       ·go_wp2_with (go_at_call 31;refine (bP 5 (aT hlp ((rp.below kwwx).below bq2).rdp (aT (ks:=[]) (by simp) (Rd.nil (w:=q2)).rdp cB)) 2 rfl (by omega) _ _ zq2).mono ?_;rintro e q3 ⟨A6,c6,rfl,r6,hbq3⟩)
        refine aY bq2 hbq3 ?_;intro bq3 lq3;refine bG 9 ?_
        ·go_wp2_with (go_at_call 46;refine (hC1.out _ _ _ ((hrc.below kwwx).below bq3) ((rz.below kwwx).below bq3) r6).mono ?_;rintro e q4 ⟨he,hbq4⟩;obtain rfl:e = .returned (.int .i64 0):=he)
         refine aY bq3 hbq4 ?_;intro bq4 lq4;refine cD [10] (lB:=[_]) ?_;refine gS (aD ?_);have hTq4:=hTwx.keep bq4;have hZq4:=hZwx.keep bq4;have hPq4:=hPwx.keep bq4;have hNq4:=hNwx.keep bq4;have kwq4:=kwwx.trans (bq4.mono kwwx.size);have kwxq4:=bq4;go_upto_region 7 with fail
         refine aRw hTq4 hZq4 hPq4 hNq4 kwq4 kwxq4 ?_;intro wu hTwu hZwu hPwu hNwu kwwu kwxwu;clear v2 y0 y1 y2 uz1 uz2 uz3;have v2:=aF hTwu.three.2.2;obtain ⟨y0,y1,y2⟩:=iD hPwu;obtain ⟨us1,us2,us3⟩:=iI kwwu s1 s2 s3;refine dX wu [8] [0,1,2,3,4,5] 9 3 (lT:=[_,_,_,_,_,_]) ?_;intro q0 bq0;refine bV (aD ?_);refine bG 6 ?_
         ·go_wp2_with (go_at_call 141;refine (hT9.out _ ((rp.below kwwu).below bq0)).mono ?_;rintro e q1 ⟨A8,c8,rfl,hl8,r8,hbq1⟩)
          refine aY bq0 hbq1 ?_;intro bq1 lq1;refine bG 7 ?_
          ·go_wp2_with (go_at_call 46;refine (hC2.out _ _ _ ((hrc.below kwwu).below bq1) ((rs.below kwwu).below bq1) r8).mono ?_;rintro e q2 ⟨he,hbq2⟩;obtain rfl:e = .returned (.int .i64 0):=he)
           refine aY bq1 hbq2 ?_;intro bq2 lq2;refine cD [8] (lB:=[_]) ?_;refine gS (aD ?_);have hTq2:=hTwu.keep bq2;have hZq2:=hZwu.keep bq2;have hPq2:=hPwu.keep bq2;have hNq2:=hNwu.keep bq2;have kwq2:=kwwu.trans (bq2.mono kwwu.size);have kwxq2:=kwxwu.trans (bq2.mono kwxwu.size);have kwuq2:=bq2;go_upto_region 9 with fail
           refine aTo hTq2 hZq2 hPq2 hNq2 kwq2 kwxq2 kwuq2 ?_;intro wv hTwv hZwv hPwv hNwv kwwv kwxwv kwuwv;clear v2 y0 y1 y2 us1 us2 us3;have v2:=aF hTwv.three.2.2;obtain ⟨y0,y1,y2⟩:=iD hNwv;obtain ⟨un1,un2,un3⟩:=iI kwwv n1 n2 n3;refine dX wv [7] [0,1,2,3,4,5] 8 2 (lT:=[_,_,_,_,_,_]) ?_;intro q0 bq0;refine bV (aD ?_);refine bG 6 ?_
           ·go_wp2_with (go_at_call 46;refine (hC3.out _ _ _ ((hrc.below kwwv).below bq0) ((rn.below kwwv).below bq0) Rd.nil).mono ?_;rintro e q1 ⟨he,hbq1⟩;obtain rfl:e = .returned (.int .i64 0):=he)
            refine aY bq0 hbq1 ?_;intro bq1 lq1;refine cD [7] (lB:=[_]) ?_;refine gS (aD ?_);have hTq1:=hTwv.keep bq1;have hZq1:=hZwv.keep bq1;have hPq1:=hPwv.keep bq1;have hNq1:=hNwv.keep bq1;have kwq1:=kwwv.trans (bq1.mono kwwv.size);have kwxq1:=kwxwv.trans (bq1.mono kwxwv.size);have kwuq1:=kwuwv.trans (bq1.mono kwuwv.size);have kwvq1:=bq1;go_upto_region 10 with fail
            refine aXp hTq1 hZq1 hPq1 hNq1 kwq1 kwxq1 kwuq1 kwvq1 ?_;intro wl hTwl hZwl hPwl hNwl kwwl kwxwl kwuwl kwvwl;have lPz:=hPwl.lt;have lZz:=hZwl.lt;have nz0:bk≠(w.heap.size+1):=by omega
            have nz1:w.heap.size≠(w.heap.size+1):=by omega
            have nz2:(w.heap.size+1+1)≠(w.heap.size+1):=by omega
            have lv:=dZ (z:=(w.heap.size+1)) hTwl.three.2.2 nz1;obtain ⟨lp0,lp1,lp2⟩:=rkB hPwl nz2;obtain ⟨ln1,ln2,ln3⟩:=rk3 kwwl nz0 n1 n2 n3;refine gBk wl (w.heap.size+1) [9] [0,1,2,3,4,7] 10 4 (lT:=[_,_,_,_,_,_]) ?_;intro q0 bq0 keq0;refine bV (aD ?_);refine bG 5 ?_;go_wp2_with fail
            refine dO ?_;intro q1 hbq1 zq1 seq1;refine xU bq0 hbq1 ?_;intro bq1 lq1 keq1;refine bG 6 ?_;go_wp2_with (go_at_call 31;refine (bP 5 (aT hlp ((rp.below kwwl).below bq1).rdp (aT hln ((rn.below kwwl).below bq1).rdp cB)) 2 rfl (by omega) _ _ zq1).mono ?_;rintro e q2 ⟨A7,c7,rfl,r7,hbq2⟩)
            refine xU bq1 hbq2 ?_;intro bq2 lq2 keq2;refine bG 8 ?_;have hZz:=hZwl.keep bq2;obtain ⟨d0,d1,d2,e0,e1,e2,lz⟩:=dA hZz;go_wp2_with fail
            refine cK ?_;intro q3 hn;have hZq3:Blk q3 (w.heap.size+1) (Ro 5 0 A7 2 c7):=by rw [hn];exact ((hZz.set_ 0 _).set_ 1 _).set_ 2 _
            have rq3:Rd q3 A7 0 [.mk k9 np sp,.mk kn nn sn]:=by rw [hn];exact eG hZz hvl.out r7 _ _ _
            have kwq3:Bw w q3:=by rw [hn];exact (bT (kwwl.trans (bq2.mono kwwl.size)))
            have keq3:KE wl (w.heap.size+1) q3:=by rw [hn];exact ((keq2.set _ _).set _ _).set _ _
            clear hn d0 d1 d2 e0 e1 e2 lz;refine aP keq3 ?_;refine cD [9] (lB:=[_]) ?_;refine gS (aD ?_);obtain ⟨d0,d1,d2,e0,e1,e2,lz⟩:=dA hZq3;go_wp2_with fail
            refine bodyPost_ret (v:=.tuple #[.agg (Ro 5 0 A7 2 c7),.int .i64 0]) (by simp [results,results121,go_sem,d0,d1,d2]) rfl ⟨A7,c7,rfl,by simp,rq3,kwq3⟩
end Go.Proofs.YtajjhldcjikkpaaGreat
