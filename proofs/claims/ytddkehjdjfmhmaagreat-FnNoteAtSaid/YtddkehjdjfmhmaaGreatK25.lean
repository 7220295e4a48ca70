/- Parts of the proof. No condition. -/
import Derived.Test.YtddkehjdjfmhmaaGreatK20
import Derived.Test.YtddkehjdjfmhmaaGreatK24
open Go.Proofs.Tryz
namespace Go.Proofs.YtddkehjdjfmhmaaGreat
open Go.RowKit
set_option maxHeartbeats 16000000
set_option maxRecDepth 100000
set_option linter.unusedSimpArgs false
set_option linter.unusedVariables false
theorem aHd {N:Nat}(ih:mU N)(ctx:List Tm)(C:Option Addr)(cc:Nat)(k n:Int)(A:Option Addr)(c:Nat)(kp np:Int)(sp:List Tm)(kz nz:Int)(sz:List Tm)(ks ns:Int)(ss:List Tm)(kn nn:Int)(sn:List Tm)(r:Rs Tm)(w:World)(hs:aSy (bZ N) ctx (.mk kp np sp) (.mk kz nz sz) (.mk ks ns ss) (.mk kn nn sn)=some r)(hvp:aE (.mk kp np sp)=true)(hvz:aE (.mk kz nz sz)=true)(hvs:aE (.mk ks ns ss)=true)(hvn:aE (.mk kn nn sn)=true)(hvc:∀u,u∈ctx→aE u=true)(hm:ctx.length≤20)(hrc:Rd w C 0 ctx)(hr:Rd w A 0 [.mk kp np sp,.mk kz nz sz,.mk ks ns ss,.mk kn nn sn]) :
  Calls prog 136 #[.slice C ctx.length cc,.agg (Ro k n A 4 c)] w (nP w r):=by
 have hszp:=aI hvp;obtain ⟨bk,ok,Ap,cp,rfl,p1,p2,p3,hlp,rp⟩:=oF hr;obtain ⟨Az,cz,z1,z2,z3,hlz,rz⟩:=tX hr;obtain ⟨As,cs,s1,s2,s3,hls,rs⟩:=kd2 hr;obtain ⟨An,cn,n1,n2,n3,hln,rn⟩:=kd3 hr;simp only [Nat.zero_mul,Nat.add_zero,Nat.one_mul,Nat.reduceMul] at p1 p2 p3 z1 z2 z3 s1 s2 s3 n1 n2 n3
 have lbp:=jN _ _ p1;have hvl:=aD (show ∀t,t∈[.mk kp np sp,.mk kn nn sn]→aE t=true from fun t ht=>by
  rcases List.mem_cons.1 ht with rfl|ht
  ·exact hvp
  ·rw [List.mem_singleton.1 ht];exact hvn)
 rcases cB hs with ⟨b,h1,rfl⟩|⟨u1,h1,hs⟩
 ·have hF:=aD (fun (w:World) (hrc:Rd w C 0 ctx) (hrp:Rd w Ap 0 sp) (hr2:Rd w none 0 [])=>kV ih ctx C cc kp np sp Ap cp 6 0 [] none 0 _ w h1 hvp (by simp [aG]) hvc hm hrc hrp hr2);have qb:=iK b;clear hs h1 hvp hvz hvs hvn hvc ih;go_enter func136,ntmps136;go_upto_region 10 with (first
   | (go_at_call 151;have _t:=tok;refine (hF.out _ (hrc.below kw2) (rp.below kw2) Rd.nil).mono ?_;rintro e w3 ⟨he,hb3⟩;obtain rfl:e = .returned (.int .i64 (gI b)):=he;have hTw3:=hT2.keep hb3;have hZw3:=hZ2.keep hb3;have hPw3:=hP2.keep hb3;have hNw3:=hN2.keep hb3;have kww3:=kw2.trans (hb3.mono kw2.size);clear y0 y1 y2)
   | (go_at_call 44;refine (bH _ _ _).mono ?_;rintro e w1 ⟨rfl,hb1⟩;have hT1:=wE hb1;have hZ1:=aIp hb1;have hP1:=pM hb1;have kw1:Bw w w1:=bW bw3 hb1;have hT2:=hT1.alloc (.cells (Ro 6 0 none 0 0) 25);have hZ2:=hZ1.alloc (.cells (Ro 6 0 none 0 0) 25);have hP2:=hP1.alloc (.cells (Ro 6 0 none 0 0) 25);have kw2:=kw1.alloc kw1.size (.cells (Ro 6 0 none 0 0) 25);have hN2:=aC w1 25 (Ro 6 0 none 0 0) rfl;obtain ⟨y0,y1,y2⟩:=hP2.three;have tok:=trivial))
  refine aLq hTw3 hZw3 hPw3 hNw3 kww3 ?_;intro wl hTwl hZwl hPwl hNwl kwwl;have lPz:=hPwl.lt;have lZz:=hZwl.lt;have nz0:bk≠(w.heap.size+1):=by omega
  have nz1:w.heap.size≠(w.heap.size+1):=by omega
  have nz2:(w.heap.size+1+1)≠(w.heap.size+1):=by omega
  have lv:=dT (z:=(w.heap.size+1)) hTwl.three.2.2 nz1;obtain ⟨lp0,lp1,lp2⟩:=rkB hPwl nz2;obtain ⟨ln1,ln2,ln3⟩:=rk3 kwwl nz0 n1 n2 n3;refine gBk wl (w.heap.size+1) [9] [0,1,2,3,4,7] 10 4 (lT:=[_,_,_,_,_,_]) ?_;intro q0 bq0 keq0;refine cL (aD ?_);refine bG 5 ?_;go_wp2_with fail
  refine eQ ?_;intro q1 hbq1 zq1 seq1;refine vU bq0 hbq1 ?_;intro bq1 lq1 keq1;refine bG 6 ?_;go_wp2_with (go_at_call 73;refine (bK 5 (aP hlp ((rp.below kwwl).below bq1).rdp (aP hln ((rn.below kwwl).below bq1).rdp cD)) 2 rfl (by omega) _ _ zq1).mono ?_;rintro e q2 ⟨A7,c7,rfl,r7,hbq2⟩)
  refine vU bq1 hbq2 ?_;intro bq2 lq2 keq2;refine bG 8 ?_;have hZz:=hZwl.keep bq2;obtain ⟨d0,d1,d2,e0,e1,e2,lz⟩:=cZ hZz;go_wp2_with fail
  refine bI ?_;intro q3 hn;have hZq3:Blk q3 (w.heap.size+1) (Ro 5 0 A7 2 c7):=by rw [hn];exact ((hZz.set_ 0 _).set_ 1 _).set_ 2 _
  have rq3:Rd q3 A7 0 [.mk kp np sp,.mk kn nn sn]:=by rw [hn];exact dZ hZz hvl.out r7 _ _ _
  have kwq3:Bw w q3:=by rw [hn];exact (bV (kwwl.trans (bq2.mono kwwl.size)))
  have keq3:KE wl (w.heap.size+1) q3:=by rw [hn];exact ((keq2.set _ _).set _ _).set _ _
  clear hn d0 d1 d2 e0 e1 e2 lz;refine aH keq3 ?_;refine cY [9] (lB:=[_]) ?_;refine gS (aD ?_);obtain ⟨d0,d1,d2,e0,e1,e2,lz⟩:=cZ hZq3;go_wp2_with fail
  refine bodyPost_ret (v:=.tuple #[.agg (Ro 5 0 A7 2 c7),.int .i64 (gI b)]) (by simp [results,results136,go_sem,d0,d1,d2]) rfl ⟨5,0,A7,2,c7,rfl,kwq3⟩
 ·have hF:=aD (fun (w:World) (hrc:Rd w C 0 ctx) (hrp:Rd w Ap 0 sp) (hr2:Rd w none 0 [])=>kV ih ctx C cc kp np sp Ap cp 6 0 [] none 0 _ w h1 hvp (by simp [aG]) hvc hm hrc hrp hr2);replace hs:bd (jQ (bZ N) ctx (.mk kz nz sz) (.mk 5 0 [.mk kp np sp,Tm.mk 7 0 []])) (fun _=>bd (jQ (bZ N) ctx (.mk ks ns ss) (aIv (.mk kp np sp))) fun _=>bd (jQ (bZ N) ctx (.mk kn nn sn) (.mk 6 0 [])) fun _=>some (.ok (.mk 5 0 [.mk kp np sp,.mk kn nn sn])))=some r:=hs;rcases cB hs with ⟨b,h2,rfl⟩|⟨u2,h2,hs⟩
  ·have hC1:=aD (fun (A2:Option Addr) (c2:Nat) (w:World) (hrc:Rd w C 0 ctx) (hrt:Rd w Az 0 sz) (hr2:Rd w A2 0 [.mk kp np sp,Tm.mk 7 0 []])=>cH ih ctx C cc kz nz sz Az cz 5 0 [.mk kp np sp,Tm.mk 7 0 []] A2 c2 _ w h2 hvz hvc (by omega) hrc hrt (by simp only [aG,Tm.size];omega) hr2);have qb:=iK b;clear hs h1 h2 hvp hvz hvs hvn hvc ih;go_enter func136,ntmps136;go_upto_region 5 with (first
    | (go_at_call 151;have _t:=tok;refine (hF.out _ (hrc.below kw2) (rp.below kw2) Rd.nil).mono ?_;rintro e w3 ⟨he,hb3⟩;obtain rfl:e = .returned (.int .i64 0):=he;have hTw3:=hT2.keep hb3;have hZw3:=hZ2.keep hb3;have hPw3:=hP2.keep hb3;have hNw3:=hN2.keep hb3;have kww3:=kw2.trans (hb3.mono kw2.size);clear y0 y1 y2)
    | (go_at_call 44;refine (bH _ _ _).mono ?_;rintro e w1 ⟨rfl,hb1⟩;have hT1:=wE hb1;have hZ1:=aIp hb1;have hP1:=pM hb1;have kw1:Bw w w1:=bW bw3 hb1;have hT2:=hT1.alloc (.cells (Ro 6 0 none 0 0) 25);have hZ2:=hZ1.alloc (.cells (Ro 6 0 none 0 0) 25);have hP2:=hP1.alloc (.cells (Ro 6 0 none 0 0) 25);have kw2:=kw1.alloc kw1.size (.cells (Ro 6 0 none 0 0) 25);have hN2:=aC w1 25 (Ro 6 0 none 0 0) rfl;obtain ⟨y0,y1,y2⟩:=hP2.three;have tok:=trivial))
   refine aLq hTw3 hZw3 hPw3 hNw3 kww3 ?_;intro wx hTwx hZwx hPwx hNwx kwwx;have v2:=aF hTwx.three.2.2;obtain ⟨y0,y1,y2⟩:=kZ hPwx;obtain ⟨uz1,uz2,uz3⟩:=iM kwwx z1 z2 z3;refine fE wx [10] [0,1,2,3,4,5] 11 5 (lT:=[_,_,_,_,_,_]) ?_;intro q0 bq0;refine cL (aD ?_);refine bG 6 ?_
   ·go_wp2_with (go_at_call 44;refine (bH _ _ _).mono ?_;rintro e q1 ⟨rfl,hbq1⟩)
    refine bJ bq0 hbq1 ?_;intro bq1 lq1;refine bG 7 ?_
    ·go_wp2_with fail
     refine eQ ?_;intro q2 hbq2 zq2 seq2;refine bJ bq1 hbq2 ?_;intro bq2 lq2;refine bG 8 ?_
     ·go_wp2_with (go_at_call 73;refine (bK 5 (aP hlp ((rp.below kwwx).below bq2).rdp (aP (ks:=[]) (by simp) (Rd.nil (w:=q2)).rdp cD)) 2 rfl (by omega) _ _ zq2).mono ?_;rintro e q3 ⟨A6,c6,rfl,r6,hbq3⟩)
      refine bJ bq2 hbq3 ?_;intro bq3 lq3;refine bG 9 ?_
      ·go_wp2_with (go_at_call 149;refine (hC1.out _ _ _ ((hrc.below kwwx).below bq3) ((rz.below kwwx).below bq3) r6).mono ?_;rintro e q4 ⟨he,hbq4⟩;obtain rfl:e = .returned (.int .i64 (gI b)):=he)
       refine bJ bq3 hbq4 ?_;intro bq4 lq4;refine cY [10] (lB:=[_]) ?_;refine gS (aD ?_);have hTq4:=hTwx.keep bq4;have hZq4:=hZwx.keep bq4;have hPq4:=hPwx.keep bq4;have hNq4:=hNwx.keep bq4;have kwq4:=kwwx.trans (bq4.mono kwwx.size);have kwxq4:=bq4;go_upto_region 10 with fail
       refine aNe hTq4 hZq4 hPq4 hNq4 kwq4 kwxq4 ?_;intro wl hTwl hZwl hPwl hNwl kwwl kwxwl;have lPz:=hPwl.lt;have lZz:=hZwl.lt;have nz0:bk≠(w.heap.size+1):=by omega
       have nz1:w.heap.size≠(w.heap.size+1):=by omega
       have nz2:(w.heap.size+1+1)≠(w.heap.size+1):=by omega
       have lv:=dT (z:=(w.heap.size+1)) hTwl.three.2.2 nz1;obtain ⟨lp0,lp1,lp2⟩:=rkB hPwl nz2;obtain ⟨ln1,ln2,ln3⟩:=rk3 kwwl nz0 n1 n2 n3;refine gBk wl (w.heap.size+1) [9] [0,1,2,3,4,7] 10 4 (lT:=[_,_,_,_,_,_]) ?_;intro q0 bq0 keq0;refine cL (aD ?_);refine bG 5 ?_;go_wp2_with fail
       refine eQ ?_;intro q1 hbq1 zq1 seq1;refine vU bq0 hbq1 ?_;intro bq1 lq1 keq1;refine bG 6 ?_;go_wp2_with (go_at_call 73;refine (bK 5 (aP hlp ((rp.below kwwl).below bq1).rdp (aP hln ((rn.below kwwl).below bq1).rdp cD)) 2 rfl (by omega) _ _ zq1).mono ?_;rintro e q2 ⟨A7,c7,rfl,r7,hbq2⟩)
       refine vU bq1 hbq2 ?_;intro bq2 lq2 keq2;refine bG 8 ?_;have hZz:=hZwl.keep bq2;obtain ⟨d0,d1,d2,e0,e1,e2,lz⟩:=cZ hZz;go_wp2_with fail
       refine bI ?_;intro q3 hn;have hZq3:Blk q3 (w.heap.size+1) (Ro 5 0 A7 2 c7):=by rw [hn];exact ((hZz.set_ 0 _).set_ 1 _).set_ 2 _
       have rq3:Rd q3 A7 0 [.mk kp np sp,.mk kn nn sn]:=by rw [hn];exact dZ hZz hvl.out r7 _ _ _
       have kwq3:Bw w q3:=by rw [hn];exact (bV (kwwl.trans (bq2.mono kwwl.size)))
       have keq3:KE wl (w.heap.size+1) q3:=by rw [hn];exact ((keq2.set _ _).set _ _).set _ _
       clear hn d0 d1 d2 e0 e1 e2 lz;refine aH keq3 ?_;refine cY [9] (lB:=[_]) ?_;refine gS (aD ?_);obtain ⟨d0,d1,d2,e0,e1,e2,lz⟩:=cZ hZq3;go_wp2_with fail
       refine bodyPost_ret (v:=.tuple #[.agg (Ro 5 0 A7 2 c7),.int .i64 (gI b)]) (by simp [results,results136,go_sem,d0,d1,d2]) rfl ⟨5,0,A7,2,c7,rfl,kwq3⟩
  ·have hC1:=aD (fun (A2:Option Addr) (c2:Nat) (w:World) (hrc:Rd w C 0 ctx) (hrt:Rd w Az 0 sz) (hr2:Rd w A2 0 [.mk kp np sp,Tm.mk 7 0 []])=>cH ih ctx C cc kz nz sz Az cz 5 0 [.mk kp np sp,Tm.mk 7 0 []] A2 c2 _ w h2 hvz hvc (by omega) hrc hrt (by simp only [aG,Tm.size];omega) hr2);obtain ⟨k8,n8,s8,h8⟩:=iF (jM 1 0 (.mk kp np sp));obtain ⟨k9,n9,s9,h9⟩:=iF (jM 2 0 (.mk kp np sp));obtain rfl:k8=kp:=by have:=h8;rw [jM] at this;injection this with a _ _;exact a.symm
   obtain rfl:k9=k8:=by have:=h9;rw [jM] at this;injection this with a _ _;exact a.symm
   have hT9:=aD (fun (w:World) (hr:Rd w Ap 0 sp)=>aDg k9 np sp Ap cp n8 n9 s8 s9 w hvp h8 h9 hr);have hsz3:aG [Tm.mk 6 0 [],Tm.mk 3 0 [Tm.mk 5 0 [Tm.mk k9 n8 s8,Tm.mk 1 0 []],Tm.mk 5 0 [Tm.mk k9 n9 s9,Tm.mk 8 0 [Tm.mk 1 1 []]]]]≤1000000:=by
    have e1:=qX 1 (.mk k9 np sp) 0;have e2:=qX 2 (.mk k9 np sp) 0;rw [h8] at e1;rw [h9] at e2;simp only [Tm.size] at e1 e2
    simp only [aG,Tm.size]
    omega
   have hstp:aIv (.mk k9 np sp) = .mk 3 0 [Tm.mk 6 0 [],Tm.mk 3 0 [Tm.mk 5 0 [Tm.mk k9 n8 s8,Tm.mk 1 0 []],Tm.mk 5 0 [Tm.mk k9 n9 s9,Tm.mk 8 0 [Tm.mk 1 1 []]]]]:=by unfold aIv;rw [h8,h9];rfl
   rw [hstp] at hs;clear h8 h9 hstp;rcases cB hs with ⟨b,h3,rfl⟩|⟨u3,h3,hs⟩
   ·have hC2:=aD (fun (A2:Option Addr) (c2:Nat) (w:World) (hrc:Rd w C 0 ctx) (hrt:Rd w As 0 ss) (hr2:Rd w A2 0 [Tm.mk 6 0 [],Tm.mk 3 0 [Tm.mk 5 0 [Tm.mk k9 n8 s8,Tm.mk 1 0 []],Tm.mk 5 0 [Tm.mk k9 n9 s9,Tm.mk 8 0 [Tm.mk 1 1 []]]]])=>cH ih ctx C cc ks ns ss As cs 3 0 [Tm.mk 6 0 [],Tm.mk 3 0 [Tm.mk 5 0 [Tm.mk k9 n8 s8,Tm.mk 1 0 []],Tm.mk 5 0 [Tm.mk k9 n9 s9,Tm.mk 8 0 [Tm.mk 1 1 []]]]] A2 c2 _ w h3 hvs hvc (by omega) hrc hrt hsz3 hr2);have qb:=iK b;clear hs h1 h2 h3 hvp hvz hvs hvn hvc ih;go_enter func136,ntmps136;go_upto_region 5 with (first
     | (go_at_call 151;have _t:=tok;refine (hF.out _ (hrc.below kw2) (rp.below kw2) Rd.nil).mono ?_;rintro e w3 ⟨he,hb3⟩;obtain rfl:e = .returned (.int .i64 0):=he;have hTw3:=hT2.keep hb3;have hZw3:=hZ2.keep hb3;have hPw3:=hP2.keep hb3;have hNw3:=hN2.keep hb3;have kww3:=kw2.trans (hb3.mono kw2.size);clear y0 y1 y2)
     | (go_at_call 44;refine (bH _ _ _).mono ?_;rintro e w1 ⟨rfl,hb1⟩;have hT1:=wE hb1;have hZ1:=aIp hb1;have hP1:=pM hb1;have kw1:Bw w w1:=bW bw3 hb1;have hT2:=hT1.alloc (.cells (Ro 6 0 none 0 0) 25);have hZ2:=hZ1.alloc (.cells (Ro 6 0 none 0 0) 25);have hP2:=hP1.alloc (.cells (Ro 6 0 none 0 0) 25);have kw2:=kw1.alloc kw1.size (.cells (Ro 6 0 none 0 0) 25);have hN2:=aC w1 25 (Ro 6 0 none 0 0) rfl;obtain ⟨y0,y1,y2⟩:=hP2.three;have tok:=trivial))
    refine aLq hTw3 hZw3 hPw3 hNw3 kww3 ?_;intro wx hTwx hZwx hPwx hNwx kwwx;have v2:=aF hTwx.three.2.2;obtain ⟨y0,y1,y2⟩:=kZ hPwx;obtain ⟨uz1,uz2,uz3⟩:=iM kwwx z1 z2 z3;refine fE wx [10] [0,1,2,3,4,5] 11 5 (lT:=[_,_,_,_,_,_]) ?_;intro q0 bq0;refine cL (aD ?_);refine bG 6 ?_
    ·go_wp2_with (go_at_call 44;refine (bH _ _ _).mono ?_;rintro e q1 ⟨rfl,hbq1⟩)
     refine bJ bq0 hbq1 ?_;intro bq1 lq1;refine bG 7 ?_
     ·go_wp2_with fail
      refine eQ ?_;intro q2 hbq2 zq2 seq2;refine bJ bq1 hbq2 ?_;intro bq2 lq2;refine bG 8 ?_
      ·go_wp2_with (go_at_call 73;refine (bK 5 (aP hlp ((rp.below kwwx).below bq2).rdp (aP (ks:=[]) (by simp) (Rd.nil (w:=q2)).rdp cD)) 2 rfl (by omega) _ _ zq2).mono ?_;rintro e q3 ⟨A6,c6,rfl,r6,hbq3⟩)
       refine bJ bq2 hbq3 ?_;intro bq3 lq3;refine bG 9 ?_
       ·go_wp2_with (go_at_call 149;refine (hC1.out _ _ _ ((hrc.below kwwx).below bq3) ((rz.below kwwx).below bq3) r6).mono ?_;rintro e q4 ⟨he,hbq4⟩;obtain rfl:e = .returned (.int .i64 0):=he)
        refine bJ bq3 hbq4 ?_;intro bq4 lq4;refine cY [10] (lB:=[_]) ?_;refine gS (aD ?_);have hTq4:=hTwx.keep bq4;have hZq4:=hZwx.keep bq4;have hPq4:=hPwx.keep bq4;have hNq4:=hNwx.keep bq4;have kwq4:=kwwx.trans (bq4.mono kwwx.size);have kwxq4:=bq4;go_upto_region 7 with fail
        refine aNe hTq4 hZq4 hPq4 hNq4 kwq4 kwxq4 ?_;intro wu hTwu hZwu hPwu hNwu kwwu kwxwu;clear v2 y0 y1 y2 uz1 uz2 uz3;have v2:=aF hTwu.three.2.2;obtain ⟨y0,y1,y2⟩:=kZ hPwu;obtain ⟨us1,us2,us3⟩:=iM kwwu s1 s2 s3;refine fE wu [8] [0,1,2,3,4,5] 9 3 (lT:=[_,_,_,_,_,_]) ?_;intro q0 bq0;refine cL (aD ?_);refine bG 6 ?_
        ·go_wp2_with (go_at_call 152;refine (hT9.out _ ((rp.below kwwu).below bq0)).mono ?_;rintro e q1 ⟨A8,c8,rfl,hl8,r8,hbq1⟩)
         refine bJ bq0 hbq1 ?_;intro bq1 lq1;refine bG 7 ?_
         ·go_wp2_with (go_at_call 149;refine (hC2.out _ _ _ ((hrc.below kwwu).below bq1) ((rs.below kwwu).below bq1) r8).mono ?_;rintro e q2 ⟨he,hbq2⟩;obtain rfl:e = .returned (.int .i64 (gI b)):=he)
          refine bJ bq1 hbq2 ?_;intro bq2 lq2;refine cY [8] (lB:=[_]) ?_;refine gS (aD ?_);have hTq2:=hTwu.keep bq2;have hZq2:=hZwu.keep bq2;have hPq2:=hPwu.keep bq2;have hNq2:=hNwu.keep bq2;have kwq2:=kwwu.trans (bq2.mono kwwu.size);have kwxq2:=kwxwu.trans (bq2.mono kwxwu.size);have kwuq2:=bq2;go_upto_region 10 with fail
          refine aPz hTq2 hZq2 hPq2 hNq2 kwq2 kwxq2 kwuq2 ?_;intro wl hTwl hZwl hPwl hNwl kwwl kwxwl kwuwl;have lPz:=hPwl.lt;have lZz:=hZwl.lt;have nz0:bk≠(w.heap.size+1):=by omega
          have nz1:w.heap.size≠(w.heap.size+1):=by omega
          have nz2:(w.heap.size+1+1)≠(w.heap.size+1):=by omega
          have lv:=dT (z:=(w.heap.size+1)) hTwl.three.2.2 nz1;obtain ⟨lp0,lp1,lp2⟩:=rkB hPwl nz2;obtain ⟨ln1,ln2,ln3⟩:=rk3 kwwl nz0 n1 n2 n3;refine gBk wl (w.heap.size+1) [9] [0,1,2,3,4,7] 10 4 (lT:=[_,_,_,_,_,_]) ?_;intro q0 bq0 keq0;refine cL (aD ?_);refine bG 5 ?_;go_wp2_with fail
          refine eQ ?_;intro q1 hbq1 zq1 seq1;refine vU bq0 hbq1 ?_;intro bq1 lq1 keq1;refine bG 6 ?_;go_wp2_with (go_at_call 73;refine (bK 5 (aP hlp ((rp.below kwwl).below bq1).rdp (aP hln ((rn.below kwwl).below bq1).rdp cD)) 2 rfl (by omega) _ _ zq1).mono ?_;rintro e q2 ⟨A7,c7,rfl,r7,hbq2⟩)
          refine vU bq1 hbq2 ?_;intro bq2 lq2 keq2;refine bG 8 ?_;have hZz:=hZwl.keep bq2;obtain ⟨d0,d1,d2,e0,e1,e2,lz⟩:=cZ hZz;go_wp2_with fail
          refine bI ?_;intro q3 hn;have hZq3:Blk q3 (w.heap.size+1) (Ro 5 0 A7 2 c7):=by rw [hn];exact ((hZz.set_ 0 _).set_ 1 _).set_ 2 _
          have rq3:Rd q3 A7 0 [.mk k9 np sp,.mk kn nn sn]:=by rw [hn];exact dZ hZz hvl.out r7 _ _ _
          have kwq3:Bw w q3:=by rw [hn];exact (bV (kwwl.trans (bq2.mono kwwl.size)))
          have keq3:KE wl (w.heap.size+1) q3:=by rw [hn];exact ((keq2.set _ _).set _ _).set _ _
          clear hn d0 d1 d2 e0 e1 e2 lz;refine aH keq3 ?_;refine cY [9] (lB:=[_]) ?_;refine gS (aD ?_);obtain ⟨d0,d1,d2,e0,e1,e2,lz⟩:=cZ hZq3;go_wp2_with fail
          refine bodyPost_ret (v:=.tuple #[.agg (Ro 5 0 A7 2 c7),.int .i64 (gI b)]) (by simp [results,results136,go_sem,d0,d1,d2]) rfl ⟨5,0,A7,2,c7,rfl,kwq3⟩
   ·have hC2:=aD (fun (A2:Option Addr) (c2:Nat) (w:World) (hrc:Rd w C 0 ctx) (hrt:Rd w As 0 ss) (hr2:Rd w A2 0 [Tm.mk 6 0 [],Tm.mk 3 0 [Tm.mk 5 0 [Tm.mk k9 n8 s8,Tm.mk 1 0 []],Tm.mk 5 0 [Tm.mk k9 n9 s9,Tm.mk 8 0 [Tm.mk 1 1 []]]]])=>cH ih ctx C cc ks ns ss As cs 3 0 [Tm.mk 6 0 [],Tm.mk 3 0 [Tm.mk 5 0 [Tm.mk k9 n8 s8,Tm.mk 1 0 []],Tm.mk 5 0 [Tm.mk k9 n9 s9,Tm.mk 8 0 [Tm.mk 1 1 []]]]] A2 c2 _ w h3 hvs hvc (by omega) hrc hrt hsz3 hr2);rcases cB hs with ⟨b,h4,rfl⟩|⟨u4,h4,hs⟩
    ·have hC3:=aD (fun (A2:Option Addr) (c2:Nat) (w:World) (hrc:Rd w C 0 ctx) (hrt:Rd w An 0 sn) (hr2:Rd w A2 0 [])=>cH ih ctx C cc kn nn sn An cn 6 0 [] A2 c2 _ w h4 hvn hvc (by omega) hrc hrt (by simp [aG]) hr2);have qb:=iK b;clear hs h1 h2 h3 h4 hvp hvz hvs hvn hvc ih;go_enter func136,ntmps136;go_upto_region 5 with (first
      | (go_at_call 151;have _t:=tok;refine (hF.out _ (hrc.below kw2) (rp.below kw2) Rd.nil).mono ?_;rintro e w3 ⟨he,hb3⟩;obtain rfl:e = .returned (.int .i64 0):=he;have hTw3:=hT2.keep hb3;have hZw3:=hZ2.keep hb3;have hPw3:=hP2.keep hb3;have hNw3:=hN2.keep hb3;have kww3:=kw2.trans (hb3.mono kw2.size);clear y0 y1 y2)
      | (go_at_call 44;refine (bH _ _ _).mono ?_;rintro e w1 ⟨rfl,hb1⟩;have hT1:=wE hb1;have hZ1:=aIp hb1;have hP1:=pM hb1;have kw1:Bw w w1:=bW bw3 hb1;have hT2:=hT1.alloc (.cells (Ro 6 0 none 0 0) 25);have hZ2:=hZ1.alloc (.cells (Ro 6 0 none 0 0) 25);have hP2:=hP1.alloc (.cells (Ro 6 0 none 0 0) 25);have kw2:=kw1.alloc kw1.size (.cells (Ro 6 0 none 0 0) 25);have hN2:=aC w1 25 (Ro 6 0 none 0 0) rfl;obtain ⟨y0,y1,y2⟩:=hP2.three;have tok:=trivial))
     refine aLq hTw3 hZw3 hPw3 hNw3 kww3 ?_;intro wx hTwx hZwx hPwx hNwx kwwx;have v2:=aF hTwx.three.2.2;obtain ⟨y0,y1,y2⟩:=kZ hPwx;obtain ⟨uz1,uz2,uz3⟩:=iM kwwx z1 z2 z3;refine fE wx [10] [0,1,2,3,4,5] 11 5 (lT:=[_,_,_,_,_,_]) ?_;intro q0 bq0;refine cL (aD ?_);refine bG 6 ?_
     ·go_wp2_with (go_at_call 44;refine (bH _ _ _).mono ?_;rintro e q1 ⟨rfl,hbq1⟩)
      refine bJ bq0 hbq1 ?_;intro bq1 lq1;refine bG 7 ?_
      ·go_wp2_with fail
       refine eQ ?_;intro q2 hbq2 zq2 seq2;refine bJ bq1 hbq2 ?_;intro bq2 lq2;refine bG 8 ?_
       ·go_wp2_with (go_at_call 73;refine (bK 5 (aP hlp ((rp.below kwwx).below bq2).rdp (aP (ks:=[]) (by simp) (Rd.nil (w:=q2)).rdp cD)) 2 rfl (by omega) _ _ zq2).mono ?_;rintro e q3 ⟨A6,c6,rfl,r6,hbq3⟩)
        refine bJ bq2 hbq3 ?_;intro bq3 lq3;refine bG 9 ?_
        ·go_wp2_with (go_at_call 149;refine (hC1.out _ _ _ ((hrc.below kwwx).below bq3) ((rz.below kwwx).below bq3) r6).mono ?_;rintro e q4 ⟨he,hbq4⟩;obtain rfl:e = .returned (.int .i64 0):=he)
         refine bJ bq3 hbq4 ?_;intro bq4 lq4;refine cY [10] (lB:=[_]) ?_;refine gS (aD ?_);have hTq4:=hTwx.keep bq4;have hZq4:=hZwx.keep bq4;have hPq4:=hPwx.keep bq4;have hNq4:=hNwx.keep bq4;have kwq4:=kwwx.trans (bq4.mono kwwx.size);have kwxq4:=bq4;go_upto_region 7 with fail
         refine aNe hTq4 hZq4 hPq4 hNq4 kwq4 kwxq4 ?_;intro wu hTwu hZwu hPwu hNwu kwwu kwxwu;clear v2 y0 y1 y2 uz1 uz2 uz3;have v2:=aF hTwu.three.2.2;obtain ⟨y0,y1,y2⟩:=kZ hPwu;obtain ⟨us1,us2,us3⟩:=iM kwwu s1 s2 s3;refine fE wu [8] [0,1,2,3,4,5] 9 3 (lT:=[_,_,_,_,_,_]) ?_;intro q0 bq0;refine cL (aD ?_);refine bG 6 ?_
         ·go_wp2_with (go_at_call 152;refine (hT9.out _ ((rp.below kwwu).below bq0)).mono ?_;rintro e q1 ⟨A8,c8,rfl,hl8,r8,hbq1⟩)
          refine bJ bq0 hbq1 ?_;intro bq1 lq1;refine bG 7 ?_
          ·go_wp2_with (go_at_call 149;refine (hC2.out _ _ _ ((hrc.below kwwu).below bq1) ((rs.below kwwu).below bq1) r8).mono ?_;rintro e q2 ⟨he,hbq2⟩;obtain rfl:e = .returned (.int .i64 0):=he)
           refine bJ bq1 hbq2 ?_;intro bq2 lq2;refine cY [8] (lB:=[_]) ?_;refine gS (aD ?_);have hTq2:=hTwu.keep bq2;have hZq2:=hZwu.keep bq2;have hPq2:=hPwu.keep bq2;have hNq2:=hNwu.keep bq2;have kwq2:=kwwu.trans (bq2.mono kwwu.size);have kwxq2:=kwxwu.trans (bq2.mono kwxwu.size);have kwuq2:=bq2;go_upto_region 9 with fail
           refine aPz hTq2 hZq2 hPq2 hNq2 kwq2 kwxq2 kwuq2 ?_;intro wv hTwv hZwv hPwv hNwv kwwv kwxwv kwuwv;clear v2 y0 y1 y2 us1 us2 us3;have v2:=aF hTwv.three.2.2;obtain ⟨y0,y1,y2⟩:=kZ hNwv;obtain ⟨un1,un2,un3⟩:=iM kwwv n1 n2 n3;refine fE wv [7] [0,1,2,3,4,5] 8 2 (lT:=[_,_,_,_,_,_]) ?_;intro q0 bq0;refine cL (aD ?_);refine bG 6 ?_
           ·go_wp2_with (go_at_call 149;refine (hC3.out _ _ _ ((hrc.below kwwv).below bq0) ((rn.below kwwv).below bq0) Rd.nil).mono ?_;rintro e q1 ⟨he,hbq1⟩;obtain rfl:e = .returned (.int .i64 (gI b)):=he)
            refine bJ bq0 hbq1 ?_;intro bq1 lq1;refine cY [7] (lB:=[_]) ?_;refine gS (aD ?_);have hTq1:=hTwv.keep bq1;have hZq1:=hZwv.keep bq1;have hPq1:=hPwv.keep bq1;have hNq1:=hNwv.keep bq1;have kwq1:=kwwv.trans (bq1.mono kwwv.size);have kwxq1:=kwxwv.trans (bq1.mono kwxwv.size);have kwuq1:=kwuwv.trans (bq1.mono kwuwv.size);have kwvq1:=bq1;go_upto_region 10 with fail
            refine aTz hTq1 hZq1 hPq1 hNq1 kwq1 kwxq1 kwuq1 kwvq1 ?_;intro wl hTwl hZwl hPwl hNwl kwwl kwxwl kwuwl kwvwl;have lPz:=hPwl.lt;have lZz:=hZwl.lt;have nz0:bk≠(w.heap.size+1):=by omega
            have nz1:w.heap.size≠(w.heap.size+1):=by omega
            have nz2:(w.heap.size+1+1)≠(w.heap.size+1):=by omega
            have lv:=dT (z:=(w.heap.size+1)) hTwl.three.2.2 nz1;obtain ⟨lp0,lp1,lp2⟩:=rkB hPwl nz2;obtain ⟨ln1,ln2,ln3⟩:=rk3 kwwl nz0 n1 n2 n3;refine gBk wl (w.heap.size+1) [9] [0,1,2,3,4,7] 10 4 (lT:=[_,_,_,_,_,_]) ?_;intro q0 bq0 keq0;refine cL (aD ?_);refine bG 5 ?_;go_wp2_with fail
            refine eQ ?_;intro q1 hbq1 zq1 seq1;refine vU bq0 hbq1 ?_;intro bq1 lq1 keq1;refine bG 6 ?_;go_wp2_with (go_at_call 73;refine (bK 5 (aP hlp ((rp.below kwwl).below bq1).rdp (aP hln ((rn.below kwwl).below bq1).rdp cD)) 2 rfl (by omega) _ _ zq1).mono ?_;rintro e q2 ⟨A7,c7,rfl,r7,hbq2⟩)
            refine vU bq1 hbq2 ?_;intro bq2 lq2 keq2;refine bG 8 ?_;have hZz:=hZwl.keep bq2;obtain ⟨d0,d1,d2,e0,e1,e2,lz⟩:=cZ hZz;go_wp2_with fail
            refine bI ?_;intro q3 hn;have hZq3:Blk q3 (w.heap.size+1) (Ro 5 0 A7 2 c7):=by rw [hn];exact ((hZz.set_ 0 _).set_ 1 _).set_ 2 _
            have rq3:Rd q3 A7 0 [.mk k9 np sp,.mk kn nn sn]:=by rw [hn];exact dZ hZz hvl.out r7 _ _ _
            have kwq3:Bw w q3:=by rw [hn];exact (bV (kwwl.trans (bq2.mono kwwl.size)))
            have keq3:KE wl (w.heap.size+1) q3:=by rw [hn];exact ((keq2.set _ _).set _ _).set _ _
            clear hn d0 d1 d2 e0 e1 e2 lz;refine aH keq3 ?_;refine cY [9] (lB:=[_]) ?_;refine gS (aD ?_);obtain ⟨d0,d1,d2,e0,e1,e2,lz⟩:=cZ hZq3;go_wp2_with fail
            refine bodyPost_ret (v:=.tuple #[.agg (Ro 5 0 A7 2 c7),.int .i64 (gI b)]) (by simp [results,results136,go_sem,d0,d1,d2]) rfl ⟨5,0,A7,2,c7,rfl,kwq3⟩
    ·have hC3:=aD (fun (A2:Option Addr) (c2:Nat) (w:World) (hrc:Rd w C 0 ctx) (hrt:Rd w An 0 sn) (hr2:Rd w A2 0 [])=>cH ih ctx C cc kn nn sn An cn 6 0 [] A2 c2 _ w h4 hvn hvc (by omega) hrc hrt (by simp [aG]) hr2);injection hs with hs;subst hs;clear h1 h2 h3 h4 hvp hvz hvs hvn hvc ih;go_enter func136,ntmps136;go_upto_region 5 with (first
      | (go_at_call 151;have _t:=tok;refine (hF.out _ (hrc.below kw2) (rp.below kw2) Rd.nil).mono ?_;rintro e w3 ⟨he,hb3⟩;obtain rfl:e = .returned (.int .i64 0):=he;have hTw3:=hT2.keep hb3;have hZw3:=hZ2.keep hb3;have hPw3:=hP2.keep hb3;have hNw3:=hN2.keep hb3;have kww3:=kw2.trans (hb3.mono kw2.size);clear y0 y1 y2)
      | (go_at_call 44;refine (bH _ _ _).mono ?_;rintro e w1 ⟨rfl,hb1⟩;have hT1:=wE hb1;have hZ1:=aIp hb1;have hP1:=pM hb1;have kw1:Bw w w1:=bW bw3 hb1;have hT2:=hT1.alloc (.cells (Ro 6 0 none 0 0) 25);have hZ2:=hZ1.alloc (.cells (Ro 6 0 none 0 0) 25);have hP2:=hP1.alloc (.cells (Ro 6 0 none 0 0) 25);have kw2:=kw1.alloc kw1.size (.cells (Ro 6 0 none 0 0) 25);have hN2:=aC w1 25 (Ro 6 0 none 0 0) rfl;obtain ⟨y0,y1,y2⟩:=hP2.three;have tok:=trivial))
     refine aLq hTw3 hZw3 hPw3 hNw3 kww3 ?_;intro wx hTwx hZwx hPwx hNwx kwwx;have v2:=aF hTwx.three.2.2;obtain ⟨y0,y1,y2⟩:=kZ hPwx;obtain ⟨uz1,uz2,uz3⟩:=iM kwwx z1 z2 z3;refine fE wx [10] [0,1,2,3,4,5] 11 5 (lT:=[_,_,_,_,_,_]) ?_;intro q0 bq0;refine cL (aD ?_);refine bG 6 ?_
     ·go_wp2_with (go_at_call 44;refine (bH _ _ _).mono ?_;rintro e q1 ⟨rfl,hbq1⟩)
      refine bJ bq0 hbq1 ?_;intro bq1 lq1;refine bG 7 ?_
      ·go_wp2_with fail
       refine eQ ?_;intro q2 hbq2 zq2 seq2;refine bJ bq1 hbq2 ?_;intro bq2 lq2;refine bG 8 ?_
       ·go_wp2_with (go_at_call 73;refine (bK 5 (aP hlp ((rp.below kwwx).below bq2).rdp (aP (ks:=[]) (by simp) (Rd.nil (w:=q2)).rdp cD)) 2 rfl (by omega) _ _ zq2).mono ?_;rintro e q3 ⟨A6,c6,rfl,r6,hbq3⟩)
        refine bJ bq2 hbq3 ?_;intro bq3 lq3;refine bG 9 ?_
        ·go_wp2_with (go_at_call 149;refine (hC1.out _ _ _ ((hrc.below kwwx).below bq3) ((rz.below kwwx).below bq3) r6).mono ?_;rintro e q4 ⟨he,hbq4⟩;obtain rfl:e = .returned (.int .i64 0):=he)
         refine bJ bq3 hbq4 ?_;intro bq4 lq4;refine cY [10] (lB:=[_]) ?_;refine gS (aD ?_);have hTq4:=hTwx.keep bq4;have hZq4:=hZwx.keep bq4;have hPq4:=hPwx.keep bq4;have hNq4:=hNwx.keep bq4;have kwq4:=kwwx.trans (bq4.mono kwwx.size);have kwxq4:=bq4;go_upto_region 7 with fail
         refine aNe hTq4 hZq4 hPq4 hNq4 kwq4 kwxq4 ?_;intro wu hTwu hZwu hPwu hNwu kwwu kwxwu;clear v2 y0 y1 y2 uz1 uz2 uz3;have v2:=aF hTwu.three.2.2;obtain ⟨y0,y1,y2⟩:=kZ hPwu;obtain ⟨us1,us2,us3⟩:=iM kwwu s1 s2 s3;refine fE wu [8] [0,1,2,3,4,5] 9 3 (lT:=[_,_,_,_,_,_]) ?_;intro q0 bq0;refine cL (aD ?_);refine bG 6 ?_
         ·go_wp2_with (go_at_call 152;refine (hT9.out _ ((rp.below kwwu).below bq0)).mono ?_;rintro e q1 ⟨A8,c8,rfl,hl8,r8,hbq1⟩)
          refine bJ bq0 hbq1 ?_;intro bq1 lq1;refine bG 7 ?_
          ·go_wp2_with (go_at_call 149;refine (hC2.out _ _ _ ((hrc.below kwwu).below bq1) ((rs.below kwwu).below bq1) r8).mono ?_;rintro e q2 ⟨he,hbq2⟩;obtain rfl:e = .returned (.int .i64 0):=he)
           refine bJ bq1 hbq2 ?_;intro bq2 lq2;refine cY [8] (lB:=[_]) ?_;refine gS (aD ?_);have hTq2:=hTwu.keep bq2;have hZq2:=hZwu.keep bq2;have hPq2:=hPwu.keep bq2;have hNq2:=hNwu.keep bq2;have kwq2:=kwwu.trans (bq2.mono kwwu.size);have kwxq2:=kwxwu.trans (bq2.mono kwxwu.size);have kwuq2:=bq2;go_upto_region 9 with fail
           refine aPz hTq2 hZq2 hPq2 hNq2 kwq2 kwxq2 kwuq2 ?_;intro wv hTwv hZwv hPwv hNwv kwwv kwxwv kwuwv;clear v2 y0 y1 y2 us1 us2 us3;have v2:=aF hTwv.three.2.2;obtain ⟨y0,y1,y2⟩:=kZ hNwv;obtain ⟨un1,un2,un3⟩:=iM kwwv n1 n2 n3;refine fE wv [7] [0,1,2,3,4,5] 8 2 (lT:=[_,_,_,_,_,_]) ?_;intro q0 bq0;refine cL (aD ?_);refine bG 6 ?_
           ·go_wp2_with (go_at_call 149;refine (hC3.out _ _ _ ((hrc.below kwwv).below bq0) ((rn.below kwwv).below bq0) Rd.nil).mono ?_;rintro e q1 ⟨he,hbq1⟩;obtain rfl:e = .returned (.int .i64 0):=he)
            refine bJ bq0 hbq1 ?_;intro bq1 lq1;refine cY [7] (lB:=[_]) ?_;refine gS (aD ?_);have hTq1:=hTwv.keep bq1;have hZq1:=hZwv.keep bq1;have hPq1:=hPwv.keep bq1;have hNq1:=hNwv.keep bq1;have kwq1:=kwwv.trans (bq1.mono kwwv.size);have kwxq1:=kwxwv.trans (bq1.mono kwxwv.size);have kwuq1:=kwuwv.trans (bq1.mono kwuwv.size);have kwvq1:=bq1;go_upto_region 10 with fail
            refine aTz hTq1 hZq1 hPq1 hNq1 kwq1 kwxq1 kwuq1 kwvq1 ?_;intro wl hTwl hZwl hPwl hNwl kwwl kwxwl kwuwl kwvwl;have lPz:=hPwl.lt;have lZz:=hZwl.lt;have nz0:bk≠(w.heap.size+1):=by omega
            have nz1:w.heap.size≠(w.heap.size+1):=by omega
            have nz2:(w.heap.size+1+1)≠(w.heap.size+1):=by omega
            have lv:=dT (z:=(w.heap.size+1)) hTwl.three.2.2 nz1;obtain ⟨lp0,lp1,lp2⟩:=rkB hPwl nz2;obtain ⟨ln1,ln2,ln3⟩:=rk3 kwwl nz0 n1 n2 n3;refine gBk wl (w.heap.size+1) [9] [0,1,2,3,4,7] 10 4 (lT:=[_,_,_,_,_,_]) ?_;intro q0 bq0 keq0;refine cL (aD ?_);refine bG 5 ?_;go_wp2_with fail
            refine eQ ?_;intro q1 hbq1 zq1 seq1;refine vU bq0 hbq1 ?_;intro bq1 lq1 keq1;refine bG 6 ?_;go_wp2_with (go_at_call 73;refine (bK 5 (aP hlp ((rp.below kwwl).below bq1).rdp (aP hln ((rn.below kwwl).below bq1).rdp cD)) 2 rfl (by omega) _ _ zq1).mono ?_;rintro e q2 ⟨A7,c7,rfl,r7,hbq2⟩)
            refine vU bq1 hbq2 ?_;intro bq2 lq2 keq2;refine bG 8 ?_;have hZz:=hZwl.keep bq2;obtain ⟨d0,d1,d2,e0,e1,e2,lz⟩:=cZ hZz;go_wp2_with fail
            refine bI ?_;intro q3 hn;have hZq3:Blk q3 (w.heap.size+1) (Ro 5 0 A7 2 c7):=by rw [hn];exact ((hZz.set_ 0 _).set_ 1 _).set_ 2 _
            have rq3:Rd q3 A7 0 [.mk k9 np sp,.mk kn nn sn]:=by rw [hn];exact dZ hZz hvl.out r7 _ _ _
            have kwq3:Bw w q3:=by rw [hn];exact (bV (kwwl.trans (bq2.mono kwwl.size)))
            have keq3:KE wl (w.heap.size+1) q3:=by rw [hn];exact ((keq2.set _ _).set _ _).set _ _
            clear hn d0 d1 d2 e0 e1 e2 lz;refine aH keq3 ?_;refine cY [9] (lB:=[_]) ?_;refine gS (aD ?_);obtain ⟨d0,d1,d2,e0,e1,e2,lz⟩:=cZ hZq3;go_wp2_with fail
            refine bodyPost_ret (v:=.tuple #[.agg (Ro 5 0 A7 2 c7),.int .i64 0]) (by simp [results,results136,go_sem,d0,d1,d2]) rfl ⟨A7,c7,rfl,by simp,rq3,kwq3⟩
theorem zR {N:Nat}(ctx:List Tm)(C:Option Addr)(cc:Nat)(n:Int)(A:Option Addr)(c:Nat)(k:Int)(ks:List Tm)(r:Rs Tm)(w:World)(hn:0≤n∧n≤20)(hk:k=2∨k=6∨k=7)(hs:fT (bZ N) ctx (.mk k n ks)=some r) :
  Calls prog 140 #[.slice C ctx.length cc,.agg (Ro k n A ks.length c)] w (nP w r):=by
 have kz:IntKind.i64.wrap (n+1)=n+1:=IntWalk.i64_in _ (by omega);have kz2:wrap64 (n+1)=n+1:=IntWalk.wrap64_in _ (by omega);rcases hk with rfl|rfl|rfl
 ·simp only [fT,Int.reduceEq,if_false,if_true,or_self,false_or,or_false] at hs
  by_cases h3:3≤n
  ·rw [if_pos h3] at hs;injection hs with hs;subst hs;have q3:decide (3≤n)=true:=decide_eq_true h3;go_enter func140,ntmps140;go_wp2_with fail
   have gB:Bw w ((w.alloc (.cells (Ro 2 n A ks.length c) 25)).alloc (.cells Zr 25)):=bw2;refine bodyPost_ret (v:=.tuple #[.agg Zr,.int .i64 1]) (by simp [results,results140,go_sem]) rfl ⟨0,0,none,0,0,rfl,?_⟩;first
    | exact gB
    | exact ((gB.setCell (by simp<;>omega) _).setCell (by simp<;>omega) _).setCell (by simp<;>omega) _
  ·rw [if_neg h3] at hs;injection hs with hs;subst hs;have q3:decide (3≤n)=false:=decide_eq_false h3;go_enter func140,ntmps140;go_wp2_with (go_at_call 44;refine (bH _ _ _).mono ?_;rintro e w1 ⟨rfl,hb1⟩;have hZ1:=bA hb1;have g1:Bw w w1:=bW bw2 hb1;obtain ⟨d0,d1,d2,e0,e1,e2,lz⟩:=cZ hZ1)
   refine bodyPost_ret (v:=.tuple #[.agg (Ro 2 (n+1) none 0 0),.int .i64 0]) (by simp [results,results140,go_sem,d0,d1,d2]) rfl ⟨none,0,rfl,by simp,Rd.nil,?_⟩;exact bV g1
 ·simp only [fT,Int.reduceEq,if_false,if_true,or_self,false_or,or_false] at hs
  injection hs with hs;subst hs;go_enter func140,ntmps140;go_wp2_with (go_at_call 44;refine (bH _ _ _).mono ?_;rintro e w1 ⟨rfl,hb1⟩;have hZ1:=bA hb1;have g1:Bw w w1:=bW bw2 hb1;obtain ⟨d0,d1,d2,e0,e1,e2,lz⟩:=cZ hZ1)
  refine bodyPost_ret (v:=.tuple #[.agg (Ro 2 0 none 0 0),.int .i64 0]) (by simp [results,results140,go_sem,d0,d1,d2]) rfl ⟨none,0,rfl,by simp,Rd.nil,?_⟩;exact bV g1
 ·simp only [fT,Int.reduceEq,if_false,if_true,or_self,false_or,or_false] at hs
  injection hs with hs;subst hs;go_enter func140,ntmps140;go_wp2_with (go_at_call 44;refine (bH _ _ _).mono ?_;rintro e w1 ⟨rfl,hb1⟩;have hZ1:=bA hb1;have g1:Bw w w1:=bW bw2 hb1;obtain ⟨d0,d1,d2,e0,e1,e2,lz⟩:=cZ hZ1)
  refine bodyPost_ret (v:=.tuple #[.agg (Ro 6 0 none 0 0),.int .i64 0]) (by simp [results,results140,go_sem,d0,d1,d2]) rfl ⟨none,0,rfl,by simp,Rd.nil,?_⟩;exact bV g1
theorem zN (ctx:List Tm)(C:Option Addr)(cc:Nat)(n:Int)(A:Option Addr)(c:Nat)(ks:List Tm)(r:Rs Tm)(w:World)(hn:0≤n∧n≤20)(hvc:∀u,u∈ctx→aE u=true)(hm:ctx.length≤20)(hs:aFf ctx n=some r)(hrc:Rd w C 0 ctx) :
  Calls prog 140 #[.slice C ctx.length cc,.agg (Ro 1 n A ks.length c)] w (nP w r):=by
 unfold aFf at hs
 by_cases hx:(ctx.length:Int)≤n
 ·rw [if_pos hx] at hs;injection hs with hs;subst hs;have q:decide ((ctx.length:Int)≤n)=true:=decide_eq_true hx;go_enter func140,ntmps140;go_wp2_with fail
  have gB:Bw w ((w.alloc (.cells (Ro 1 n A ks.length c) 25)).alloc (.cells Zr 25)):=bw2;refine bodyPost_ret (v:=.tuple #[.agg Zr,.int .i64 1]) (by simp [results,results140,go_sem]) rfl ⟨0,0,none,0,0,rfl,?_⟩;first
   | exact gB
   | exact ((gB.setCell (by simp<;>omega) _).setCell (by simp<;>omega) _).setCell (by simp<;>omega) _
 ·rw [if_neg hx] at hs;injection hs with hs;have q:decide ((ctx.length:Int)≤n)=false:=decide_eq_false hx;obtain ⟨m,rfl⟩:∃m:Nat,n=(m:Int):=⟨n.toNat,by omega⟩;rw [Int.toNat_natCast] at hs;obtain ⟨j,hj⟩:∃j,ctx.length - 1 - m=j:=⟨_,rfl⟩;have hjl:j<ctx.length:=by omega
  rw [hj] at hs;obtain ⟨bx,ox,kx,nx,sx,Ax,cx,rfl,hkj,x1,x2,x3,hlx,rx⟩:=hrc.at_ hjl;have hvx:aE (.mk kx nx sx)=true:=by rw [← hkj];exact hvc _ (fG hjl)
  rw [show ctx.getD j default = .mk kx nx sx by rw [← hkj];simp [List.getD,iG hjl]] at hs;have hszx:=aI hvx;obtain ⟨k5,n5,s5,h5⟩:=iF (jM ((m:Int)+1) 0 (.mk kx nx sx));rw [h5] at hs;subst hs;have hS:=aD (show ∀(w:World) (hr:Rd w Ax 0 sx),Calls prog 153 #[.agg (Ro kx nx Ax sx.length cx),.int .i64 ((m:Int)+1),.int .i64 0] w (tL w k5 n5 s5) from fun w hr=>by
   have:=kO _ kx nx sx Ax cx ((m:Int)+1) 0 30 w (nH _) (by omega) (aY hvx) (by omega) (by omega) (by omega) hr;rw [jM] at h5;injection h5 with e1 e2 e3;subst e1;rw [e2,e3] at this;exact this)
  have k1:IntKind.i64.wrap ((ctx.length:Int) - 1)=(ctx.length:Int) - 1:=IntWalk.i64_in _ (by omega);have k2:IntKind.i64.wrap ((ctx.length:Int) - 1 - (m:Int))=(j:Int):=by rw [IntWalk.i64_in _ (by omega)];omega
  have k3:IntKind.i64.wrap ((m:Int)+1)=(m:Int)+1:=IntWalk.i64_in _ (by omega);have k4:wrap64 ((ctx.length:Int) - 1)=(ctx.length:Int) - 1:=IntWalk.wrap64_in _ (by omega);have k5':wrap64 ((ctx.length:Int) - 1 - (m:Int))=(j:Int):=by rw [IntWalk.wrap64_in _ (by omega)];omega
  have k6:wrap64 ((m:Int)+1)=(m:Int)+1:=IntWalk.wrap64_in _ (by omega);have q2:decide (ctx.length≤m)=false:=decide_eq_false (fun h=>hx (Int.ofNat_le.2 h));have hjc:(j:Int)<(ctx.length:Int):=by omega
  clear hj h5 hkj hvc hvx hx;go_enter func140,ntmps140;go_upto_region 5 with fail
  refine tO (show Blk _ w.heap.size (Ro 1 (m:Int) A ks.length c) from ((aC w 25 _ rfl).alloc _)) (show Blk _ (w.heap.size+1) Zr from (aC _ 25 _ (by simp))) bw2 ?_;intro wx hTwx hZwx kwwx;have v1:=aF hTwx.three.2.1;obtain ⟨ux1,ux2,ux3⟩:=iM kwwx x1 x2 x3;refine fE wx [13,14] [0,1,4,5,9,10,11] 15 8 (lT:=[_,_,_,_,_,_,_]) ?_;intro q0 bq0;refine cL (aD ?_);refine bG 2 ?_;go_wp2_with fail
  refine aH bq0 ?_;refine iH [3,6,7,8] (f:=3) (l':=#[true,true,true,true,true,true,true,true,true,true,true,true,false,false,false]) (lT:=[_,_,_,_]) bq0 rfl (by kernel_rfl) (by kernel_rfl) (by kernel_rfl) rfl (fun _ _ d _ _ h=>by cases d<;>exact h) ?_;refine cL (aD ?_);refine bG 12 ?_;go_wp2_with (go_at_call 153;refine (hS.out _ ((rx.below kwwx).below bq0)).mono ?_;rintro e q1 ⟨A5,c5,rfl,hl5,hf5,hbq1⟩)
  have bq1:Bw wx q1:=bq0.trans (hbq1.mono bq0.size);refine aH bq1 ?_;refine cY [13,14] (lB:=[_,_]) ?_;refine gS (aD ?_);have hZ5:=hZwx.keep bq1;have g5:=kwwx.trans (bq1.mono kwwx.size);obtain ⟨d0,d1,d2,e0,e1,e2,lz⟩:=cZ hZ5;have lz0:=hZwx.lt;have s0:=bq0.size;go_wp2_with fail
  refine bodyPost_ret (v:=.tuple #[.agg (Ro k5 n5 A5 s5.length c5),.int .i64 0]) (by simp [results,results140,go_sem,d0,d1,d2]) rfl ⟨A5,c5,rfl,hl5,?_,?_⟩
  ·exact (mW hf5).rd
  ·exact bV g5
theorem zG {N:Nat}(ih:mU N)(ctx:List Tm)(C:Option Addr)(cc:Nat)(n:Int)(A:Option Addr)(c:Nat)(ka na:Int)(sa:List Tm)(r:Rs Tm)(w:World)(hs:aSl (bZ N) ctx (.mk ka na sa)=some r)(hva:aE (.mk ka na sa)=true)(hvc:∀u,u∈ctx→aE u=true)(hm:ctx.length≤20)(hrc:Rd w C 0 ctx)(hr:Rd w A 0 [.mk ka na sa]) :
  Calls prog 140 #[.slice C ctx.length cc,.agg (Ro 8 n A 1 c)] w (nP w r):=by
 obtain ⟨bk,ok,Aa,ca,rfl,a1,a2,a3,hla,ra⟩:=oF hr;simp only [Nat.zero_mul,Nat.add_zero,Nat.one_mul,Nat.reduceMul] at a1 a2 a3
 have lbp:=jN _ _ a1;rcases cB hs with ⟨b,h1,rfl⟩|⟨u1,h1,hs⟩
 ·replace h1:jQ (bZ N) ctx (.mk ka na sa) (.mk 6 0 [])=_:=h1;have hC:=aD (fun (A2:Option Addr) (c2:Nat) (w:World) (hrc:Rd w C 0 ctx) (hrt:Rd w Aa 0 sa) (hr2:Rd w A2 0 [])=>cH ih ctx C cc ka na sa Aa ca 6 0 [] A2 c2 _ w h1 hva hvc (by omega) hrc hrt (by simp [aG]) hr2);have qb:=iK b;clear hs h1 hva hvc ih;go_enter func140,ntmps140;go_upto_region 15 with fail
  refine tO (show Blk _ w.heap.size (Ro 8 n (some ⟨bk,ok,none⟩) 1 c) from ((aC w 25 _ rfl).alloc _)) (show Blk _ (w.heap.size+1) Zr from (aC _ 25 _ (by simp))) bw2 ?_;intro wx hTwx hZwx kwwx;have v2:=aF hTwx.three.2.2;obtain ⟨ua1,ua2,ua3⟩:=iM kwwx a1 a2 a3;refine fE wx [8,9] [1,2,3,4,5] 10 5 (lT:=[_,_,_,_,_]) ?_;intro q0 bq0;refine cL (aD ?_);refine bG 0 ?_
  ·go_wp2_with (go_at_call 44;refine (bH _ _ _).mono ?_;rintro e q1 ⟨rfl,hbq1⟩)
   refine bJ bq0 hbq1 ?_;intro bq1 lq1;refine bG 6 ?_
   ·go_wp2_with (go_at_call 44;refine (bH _ _ _).mono ?_;rintro e q2 ⟨rfl,hbq2⟩)
    refine bJ bq1 hbq2 ?_;intro bq2 lq2;refine bG 7 ?_
    ·go_wp2_with (go_at_call 149;refine (hC.out none 0 _ ((hrc.below kwwx).below bq2) ((ra.below kwwx).below bq2) Rd.nil).mono ?_;rintro e q3 ⟨he,hbq3⟩;obtain rfl:e = .returned (.int .i64 (gI b)):=he)
     refine bJ bq2 hbq3 ?_;intro bq3 lq3;refine cY [8,9] (lB:=[_,_]) ?_;refine gS (aD ?_);have hTq3:=hTwx.keep bq3;have hZq3:=hZwx.keep bq3;have kwq3:=kwwx.trans (bq3.mono kwwx.size);have kwxq3:=bq3;obtain ⟨d0,d1,d2,e0,e1,e2,lz⟩:=cZ hZq3;go_wp2_with fail
     refine bodyPost_ret (v:=.tuple #[.agg (Ro 6 0 none 0 0),.int .i64 (gI b)]) (by simp [results,results140,go_sem,d0,d1,d2]) rfl ⟨6,0,none,0,0,rfl,?_⟩;exact ((kwq3.setCell (by simp<;>omega) _).setCell (by simp<;>omega) _).setCell (by simp<;>omega) _
 ·replace h1:jQ (bZ N) ctx (.mk ka na sa) (.mk 6 0 [])=_:=h1;have hC:=aD (fun (A2:Option Addr) (c2:Nat) (w:World) (hrc:Rd w C 0 ctx) (hrt:Rd w Aa 0 sa) (hr2:Rd w A2 0 [])=>cH ih ctx C cc ka na sa Aa ca 6 0 [] A2 c2 _ w h1 hva hvc (by omega) hrc hrt (by simp [aG]) hr2);injection hs with hs;subst hs;clear h1 hva hvc ih;go_enter func140,ntmps140;go_upto_region 15 with fail
  refine tO (show Blk _ w.heap.size (Ro 8 n (some ⟨bk,ok,none⟩) 1 c) from ((aC w 25 _ rfl).alloc _)) (show Blk _ (w.heap.size+1) Zr from (aC _ 25 _ (by simp))) bw2 ?_;intro wx hTwx hZwx kwwx;have v2:=aF hTwx.three.2.2;obtain ⟨ua1,ua2,ua3⟩:=iM kwwx a1 a2 a3;refine fE wx [8,9] [1,2,3,4,5] 10 5 (lT:=[_,_,_,_,_]) ?_;intro q0 bq0;refine cL (aD ?_);refine bG 0 ?_
  ·go_wp2_with (go_at_call 44;refine (bH _ _ _).mono ?_;rintro e q1 ⟨rfl,hbq1⟩)
   refine bJ bq0 hbq1 ?_;intro bq1 lq1;refine bG 6 ?_
   ·go_wp2_with (go_at_call 44;refine (bH _ _ _).mono ?_;rintro e q2 ⟨rfl,hbq2⟩)
    refine bJ bq1 hbq2 ?_;intro bq2 lq2;refine bG 7 ?_
    ·go_wp2_with (go_at_call 149;refine (hC.out none 0 _ ((hrc.below kwwx).below bq2) ((ra.below kwwx).below bq2) Rd.nil).mono ?_;rintro e q3 ⟨he,hbq3⟩;obtain rfl:e = .returned (.int .i64 0):=he)
     refine bJ bq2 hbq3 ?_;intro bq3 lq3;refine cY [8,9] (lB:=[_,_]) ?_;refine gS (aD ?_);have hTq3:=hTwx.keep bq3;have hZq3:=hZwx.keep bq3;have kwq3:=kwwx.trans (bq3.mono kwwx.size);have kwxq3:=bq3;obtain ⟨d0,d1,d2,e0,e1,e2,lz⟩:=cZ hZq3;go_wp2_with fail
     refine bodyPost_ret (v:=.tuple #[.agg (Ro 6 0 none 0 0),.int .i64 0]) (by simp [results,results140,go_sem,d0,d1,d2]) rfl ⟨none,0,rfl,by simp,Rd.nil,?_⟩;exact ((kwq3.setCell (by simp<;>omega) _).setCell (by simp<;>omega) _).setCell (by simp<;>omega) _
theorem yT {N:Nat}(ih:mU N)(ctx:List Tm)(C:Option Addr)(cc:Nat)(n:Int)(A:Option Addr)(c:Nat)(ka na:Int)(sa:List Tm)(r:Rs Tm)(w:World)(hs:aTm (bZ N) ctx (.mk ka na sa)=some r)(hva:aE (.mk ka na sa)=true)(hvc:∀u,u∈ctx→aE u=true)(hm:ctx.length≤20)(hrc:Rd w C 0 ctx)(hr:Rd w A 0 [.mk ka na sa]) :
  Calls prog 140 #[.slice C ctx.length cc,.agg (Ro 11 n A 1 c)] w (nP w r):=by
 obtain ⟨bk,ok,Aa,ca,rfl,a1,a2,a3,hla,ra⟩:=oF hr;simp only [Nat.zero_mul,Nat.add_zero,Nat.one_mul,Nat.reduceMul] at a1 a2 a3
 have lbp:=jN _ _ a1;rcases cB hs with ⟨b,h1,rfl⟩|⟨⟨k1,n1,s1⟩,h1,hs⟩
 ·have hI:=aD (fun (w:World) (hrc:Rd w C 0 ctx) (hra:Rd w Aa 0 sa)=>ih ctx ka na sa _ h1 hva hvc (by omega) C cc Aa ca w hrc hra);have qb:=iK b;clear hs h1 hva hvc ih;go_enter func140,ntmps140;go_upto_region 20 with (go_at_call 78;refine (hI.out _ ((hrc.alloc _).alloc _) ((ra.alloc _).alloc _)).mono ?_;rintro e w1 ⟨rfl,hb1⟩;have hTw1:=cM hb1;have hZw1:=bA hb1;have kww1:Bw w w1:=bW bw2 hb1;have hTw2:=hTw1.alloc (.cells Zr 25);have hZw2:=hZw1.alloc (.cells Zr 25);have hGw2:=aC w1 25 Zr rfl;have kww2:=kww1.alloc kww1.size (.cells Zr 25))
  refine aQm hTw2 hZw2 hGw2 kww2 ?_;intro wl hTwl hZwl hGwl kwwl;have lTz:=hTwl.lt;have lZz:=hZwl.lt;have lGz:=hGwl.lt;have nz0:bk≠(w.heap.size+1):=by omega
  have nz1:w.heap.size≠(w.heap.size+1):=by omega
  have nz2:w1.heap.size≠(w.heap.size+1):=by have:=hZw1.lt;omega
  have lv:=dT (z:=(w.heap.size+1)) hTwl.three.2.2 nz1;obtain ⟨lg0,lg1,lg2⟩:=rkB hGwl nz2;obtain ⟨la1,la2,la3⟩:=rk3 kwwl nz0 a1 a2 a3;refine gBk wl (w.heap.size+1) [13] [0,1,2,3,4,5,6,7,8,11] 14 4 (lT:=[_,_,_,_,_,_,_,_,_,_]) ?_;intro q0 bq0 keq0;refine cL (aD ?_);refine bG 9 ?_;go_wp2_with fail
  refine eQ ?_;intro q1 hbq1 zq1 seq1;refine vU bq0 hbq1 ?_;intro bq1 lq1 keq1;refine bG 10 ?_;go_wp2_with (go_at_call 73;refine (bK 10 (aP (k:=0) (n:=0) (ks:=[]) (by simp) (Rd.nil (w:=q1)).rdp (aP hla ((ra.below kwwl).below bq1).rdp (aP hla ((ra.below kwwl).below bq1).rdp cD))) 3 rfl (by omega) _ _ zq1).mono ?_;rintro e q2 ⟨A7,c7,rfl,r7,hbq2⟩)
  refine vU bq1 hbq2 ?_;intro bq2 lq2 keq2;refine bG 12 ?_;have hZz:=hZwl.keep bq2;obtain ⟨d0,d1,d2,e0,e1,e2,lz⟩:=cZ hZz;go_wp2_with fail
  refine bI ?_;intro q3 hn;have hZq3:Blk q3 (w.heap.size+1) (Ro 10 0 A7 3 c7):=by rw [hn];exact ((hZz.set_ 0 _).set_ 1 _).set_ 2 _
  have kwq3:Bw w q3:=by rw [hn];exact (bV (kwwl.trans (bq2.mono kwwl.size)))
  have keq3:KE wl (w.heap.size+1) q3:=by rw [hn];exact ((keq2.set _ _).set _ _).set _ _
  clear hn d0 d1 d2 e0 e1 e2 lz;refine aH keq3 ?_;refine cY [13] (lB:=[_]) ?_;refine gS (aD ?_);obtain ⟨d0,d1,d2,e0,e1,e2,lz⟩:=cZ hZq3;go_wp2_with fail
  refine bodyPost_ret (v:=.tuple #[.agg (Ro 10 0 A7 3 c7),.int .i64 (gI b)]) (by simp [results,results140,go_sem,d0,d1,d2]) rfl ⟨10,0,A7,3,c7,rfl,kwq3⟩
 ·have hI:=aD (fun (w:World) (hrc:Rd w C 0 ctx) (hra:Rd w Aa 0 sa)=>ih ctx ka na sa _ h1 hva hvc (by omega) C cc Aa ca w hrc hra);have hvl:=aD (show ∀t,t∈[.mk k1 n1 s1,.mk ka na sa,.mk ka na sa]→aE t=true from fun t ht=>by
   have hd:=cO h1;rcases List.mem_cons.1 ht with rfl|ht
   ·exact hd
   ·rcases List.mem_cons.1 ht with rfl|ht
    ·exact hva
    ·rw [List.mem_singleton.1 ht];exact hva)
  rcases cB hs with ⟨b,h2,rfl⟩|⟨l5,h2,hs⟩
  ·have hS:=aD (fun (A:Option Addr) (c:Nat) (w:World) (hrc:Rd w C 0 ctx) (hr:Rd w A 0 s1)=>eE ih ctx C cc k1 n1 s1 A c _ w h2 (cO h1) hvc (by omega) hrc hr);have qb:=iK b;clear hs h1 h2 hva hvc ih;go_enter func140,ntmps140;go_upto_region 20 with (first
    | (go_at_call 111;have _t:=tok;refine (hS.out _ _ _ (hrc.below kww2) r1w2).mono ?_;rintro e w3 ⟨l5,rfl,hb3⟩;have hTw3:=hTw2.keep hb3;have hZw3:=hZw2.keep hb3;have hGw3:=hGw2.keep hb3;have kww3:=kww2.trans (hb3.mono kww2.size);have r1q:=r1w2.below hb3)
    | (go_at_call 78;refine (hI.out _ ((hrc.alloc _).alloc _) ((ra.alloc _).alloc _)).mono ?_;rintro e w1 ⟨A1,c1,rfl,hl1,r1,hb1⟩;have hTw1:=cM hb1;have hZw1:=bA hb1;have kww1:Bw w w1:=bW bw2 hb1;have hTw2:=hTw1.alloc (.cells (Ro k1 n1 A1 s1.length c1) 25);have hZw2:=hZw1.alloc (.cells (Ro k1 n1 A1 s1.length c1) 25);have hGw2:=aC w1 25 (Ro k1 n1 A1 s1.length c1) rfl;have kww2:=kww1.alloc kww1.size (.cells (Ro k1 n1 A1 s1.length c1) 25);have r1w2:=r1.alloc (.cells (Ro k1 n1 A1 s1.length c1) 25);obtain ⟨y0,y1,y2⟩:=hGw2.three;have tok:=trivial))
   refine pR hTw3 hZw3 hGw3 kww3 ?_;intro wl hTwl hZwl hGwl kwwl hwwl;have rGl:Rd wl A1 0 s1:=by rw [hwwl];exact r1q
   clear hwwl;have lTz:=hTwl.lt;have lZz:=hZwl.lt;have lGz:=hGwl.lt;have nz0:bk≠(w.heap.size+1):=by omega
   have nz1:w.heap.size≠(w.heap.size+1):=by omega
   have nz2:w1.heap.size≠(w.heap.size+1):=by have:=hZw1.lt;omega
   have lv:=dT (z:=(w.heap.size+1)) hTwl.three.2.2 nz1;obtain ⟨lg0,lg1,lg2⟩:=rkB hGwl nz2;obtain ⟨la1,la2,la3⟩:=rk3 kwwl nz0 a1 a2 a3;refine gBk wl (w.heap.size+1) [13] [0,1,2,3,4,5,6,7,8,11] 14 4 (lT:=[_,_,_,_,_,_,_,_,_,_]) ?_;intro q0 bq0 keq0;refine cL (aD ?_);refine bG 9 ?_;go_wp2_with fail
   refine eQ ?_;intro q1 hbq1 zq1 seq1;refine vU bq0 hbq1 ?_;intro bq1 lq1 keq1;refine bG 10 ?_;go_wp2_with (go_at_call 73;refine (bK 10 (aP hl1 (rGl.below bq1).rdp (aP hla ((ra.below kwwl).below bq1).rdp (aP hla ((ra.below kwwl).below bq1).rdp cD))) 3 rfl (by omega) _ _ zq1).mono ?_;rintro e q2 ⟨A7,c7,rfl,r7,hbq2⟩)
   refine vU bq1 hbq2 ?_;intro bq2 lq2 keq2;refine bG 12 ?_;have hZz:=hZwl.keep bq2;obtain ⟨d0,d1,d2,e0,e1,e2,lz⟩:=cZ hZz;go_wp2_with fail
   refine bI ?_;intro q3 hn;have hZq3:Blk q3 (w.heap.size+1) (Ro 10 0 A7 3 c7):=by rw [hn];exact ((hZz.set_ 0 _).set_ 1 _).set_ 2 _
   have kwq3:Bw w q3:=by rw [hn];exact (bV (kwwl.trans (bq2.mono kwwl.size)))
   have keq3:KE wl (w.heap.size+1) q3:=by rw [hn];exact ((keq2.set _ _).set _ _).set _ _
   clear hn d0 d1 d2 e0 e1 e2 lz;refine aH keq3 ?_;refine cY [13] (lB:=[_]) ?_;refine gS (aD ?_);obtain ⟨d0,d1,d2,e0,e1,e2,lz⟩:=cZ hZq3;go_wp2_with fail
   refine bodyPost_ret (v:=.tuple #[.agg (Ro 10 0 A7 3 c7),.int .i64 (gI b)]) (by simp [results,results140,go_sem,d0,d1,d2]) rfl ⟨10,0,A7,3,c7,rfl,kwq3⟩
  ·have hS:=aD (fun (A:Option Addr) (c:Nat) (w:World) (hrc:Rd w C 0 ctx) (hr:Rd w A 0 s1)=>eE ih ctx C cc k1 n1 s1 A c _ w h2 (cO h1) hvc (by omega) hrc hr);injection hs with hs;subst hs;clear h1 h2 hva hvc ih;go_enter func140,ntmps140;go_upto_region 20 with (first
    | (go_at_call 111;have _t:=tok;refine (hS.out _ _ _ (hrc.below kww2) r1w2).mono ?_;rintro e w3 ⟨rfl,hb3⟩;have hTw3:=hTw2.keep hb3;have hZw3:=hZw2.keep hb3;have hGw3:=hGw2.keep hb3;have kww3:=kww2.trans (hb3.mono kww2.size);have r1q:=r1w2.below hb3)
    | (go_at_call 78;refine (hI.out _ ((hrc.alloc _).alloc _) ((ra.alloc _).alloc _)).mono ?_;rintro e w1 ⟨A1,c1,rfl,hl1,r1,hb1⟩;have hTw1:=cM hb1;have hZw1:=bA hb1;have kww1:Bw w w1:=bW bw2 hb1;have hTw2:=hTw1.alloc (.cells (Ro k1 n1 A1 s1.length c1) 25);have hZw2:=hZw1.alloc (.cells (Ro k1 n1 A1 s1.length c1) 25);have hGw2:=aC w1 25 (Ro k1 n1 A1 s1.length c1) rfl;have kww2:=kww1.alloc kww1.size (.cells (Ro k1 n1 A1 s1.length c1) 25);have r1w2:=r1.alloc (.cells (Ro k1 n1 A1 s1.length c1) 25);obtain ⟨y0,y1,y2⟩:=hGw2.three;have tok:=trivial))
   refine pR hTw3 hZw3 hGw3 kww3 ?_;intro wl hTwl hZwl hGwl kwwl hwwl;have rGl:Rd wl A1 0 s1:=by rw [hwwl];exact r1q
   clear hwwl;have lTz:=hTwl.lt;have lZz:=hZwl.lt;have lGz:=hGwl.lt;have nz0:bk≠(w.heap.size+1):=by omega
   have nz1:w.heap.size≠(w.heap.size+1):=by omega
   have nz2:w1.heap.size≠(w.heap.size+1):=by have:=hZw1.lt;omega
   have lv:=dT (z:=(w.heap.size+1)) hTwl.three.2.2 nz1;obtain ⟨lg0,lg1,lg2⟩:=rkB hGwl nz2;obtain ⟨la1,la2,la3⟩:=rk3 kwwl nz0 a1 a2 a3;refine gBk wl (w.heap.size+1) [13] [0,1,2,3,4,5,6,7,8,11] 14 4 (lT:=[_,_,_,_,_,_,_,_,_,_]) ?_;intro q0 bq0 keq0;refine cL (aD ?_);refine bG 9 ?_;go_wp2_with fail
   refine eQ ?_;intro q1 hbq1 zq1 seq1;refine vU bq0 hbq1 ?_;intro bq1 lq1 keq1;refine bG 10 ?_;go_wp2_with (go_at_call 73;refine (bK 10 (aP hl1 (rGl.below bq1).rdp (aP hla ((ra.below kwwl).below bq1).rdp (aP hla ((ra.below kwwl).below bq1).rdp cD))) 3 rfl (by omega) _ _ zq1).mono ?_;rintro e q2 ⟨A7,c7,rfl,r7,hbq2⟩)
   refine vU bq1 hbq2 ?_;intro bq2 lq2 keq2;refine bG 12 ?_;have hZz:=hZwl.keep bq2;obtain ⟨d0,d1,d2,e0,e1,e2,lz⟩:=cZ hZz;go_wp2_with fail
   refine bI ?_;intro q3 hn;have hZq3:Blk q3 (w.heap.size+1) (Ro 10 0 A7 3 c7):=by rw [hn];exact ((hZz.set_ 0 _).set_ 1 _).set_ 2 _
   have rq3:Rd q3 A7 0 [.mk k1 n1 s1,.mk ka na sa,.mk ka na sa]:=by rw [hn];exact dZ hZz hvl.out r7 _ _ _
   have kwq3:Bw w q3:=by rw [hn];exact (bV (kwwl.trans (bq2.mono kwwl.size)))
   have keq3:KE wl (w.heap.size+1) q3:=by rw [hn];exact ((keq2.set _ _).set _ _).set _ _
   clear hn d0 d1 d2 e0 e1 e2 lz;refine aH keq3 ?_;refine cY [13] (lB:=[_]) ?_;refine gS (aD ?_);obtain ⟨d0,d1,d2,e0,e1,e2,lz⟩:=cZ hZq3;go_wp2_with fail
   refine bodyPost_ret (v:=.tuple #[.agg (Ro 10 0 A7 3 c7),.int .i64 0]) (by simp [results,results140,go_sem,d0,d1,d2]) rfl ⟨A7,c7,rfl,by simp,rq3,kwq3⟩
theorem aPs (u:Tm)(hu:nW u=true):(∀(t:Tm) (x d:Int),nW t=true→nW (jB u x d t)=true)∧∀(ts:List Tm) (k x d:Int) (i:Nat),wP ts=true→wP (dQ u k x d i ts)=true:=by
 refine bM (fun k n ks ih x d h=>?_) (fun k x d i _=>rfl) (fun t ts h1 h2 k x d i h=>?_)
 ·rw [nW,Bool.and_eq_true] at h;rw [jB];split
  ·rw [(zK d).1];exact hu
  ·rw [nW,h.1,ih k x d 0 h.2];rfl
 ·rw [wP,Bool.and_eq_true] at h;rw [dQ,wP,h1 _ _ h.1,h2 k x d (i+1) h.2];rfl
theorem iB {t:Tm}(h:aE t=true):nW t=true:=shape_nz.1 _ _ (aY h)
def NzR (o:Tm):Prop:=nW o=true∧o.size≤200000
theorem wS {t:Tm}(h:aE t=true):NzR t:=⟨iB h,by have:=cF h;omega⟩
theorem aIy {u t:Tm}(hu:nW u=true)(huz:u.size≤401)(ht:aE t=true):NzR (jB u 0 0 t):=by
 refine ⟨(aPs u hu).1 t 0 0 (iB ht),?_⟩;have h1:=uF u huz (by omega) t 0 0;have h2:=cF ht;have h3:t.size*401≤400*401:=Nat.mul_le_mul_right _ h2;omega
theorem uI {k:Int}(hk:(k != 0)=true){a b:Tm}(ha:aE a=true)(hb:aE b=true):NzR (.mk k 0 [a,b]):=by
 have h1:=cF ha;have h2:=cF hb;refine ⟨?_,by simp only [Tm.size,aG];omega⟩;simp only [nW,wP,hk,iB ha,iB hb];rfl
theorem bU {α β:Type}{o:Option (Rs α)}{f:α→Option (Rs β)}{x:β}(h:bd o f=some (.ok x)):∃a,o=some (.ok a)∧f a=some (.ok x):=by
 rcases cB h with ⟨b,_,hb⟩|h
 ·cases hb
 ·exact h
theorem dH {α:Type}{a b:α}(h:(some (.ok a):Option (Rs α))=some (.ok b)):a=b:=by injection h with h;injection h
theorem aEy {d:Nat}{k n:Int}{ks:List Tm}(h:shape d (.mk k n ks)=true)(hn:¬(k=3∨k=13)∧¬k=4∧¬k=5∧¬k=9∧¬k=10∧¬k=12∧¬k=14∧¬k=1∧¬k=2∧¬k=6∧¬k=7∧¬k=8∧¬k=11):k=15∨k=16:=by
 obtain ⟨q,_,ha,_,_,_⟩:=cG h;unfold aW at ha
 repeat' split at ha
 all_goals omega
theorem yV {N:Nat}{ctx:List Tm}{k n:Int}{ks:List Tm}{o:Tm}(hv:aE (.mk k n ks)=true)(hvc:∀u,u∈ctx→aE u=true)(h:fT (bZ N) ctx (.mk k n ks)=some (.ok o)):NzR o:=by
 have leaf:∀(k' n':Int),(k' != 0)=true→NzR (.mk k' n' []):=fun k' n' hk=>⟨by simp [nW,wP,hk],by simp [Tm.size,aG]⟩
 have hkv:∀i,i<ks.length→aE (aL ks i)=true:=fun i hi=>aS hv hi
 have hlen:=eW hv;rw [fT] at h;by_cases h3:k=3∨k=13
 ·rw [if_pos h3] at h;obtain ⟨i,_,h⟩:=bU h;obtain ⟨j,_,h⟩:=bU h;have:=dH h;subst this;exact leaf _ _ rfl
 rw [if_neg h3] at h;by_cases h4:k=4
 ·rw [if_pos h4] at h;subst h4;have h0:aW 4=2:=rfl;obtain ⟨i,_,h⟩:=bU h;obtain ⟨u,hu,h⟩:=bU h;obtain ⟨_,_,h⟩:=bU h;have:=dH h;subst this;exact uI rfl (hkv 0 (by omega)) (cO hu)
 rw [if_neg h4] at h;by_cases h5:k=5
 ·rw [if_pos h5] at h;subst h5;have h0:aW 5=2:=rfl;obtain ⟨hh,h1,h⟩:=bU h;obtain ⟨_,_,h⟩:=bU h;obtain ⟨hk,hvh⟩:=mI h1;obtain ⟨kh,nh,sh⟩:=hh;obtain rfl:kh=3:=hk;obtain ⟨_,_,_,_,_,_,rfl⟩:=yC (k:=3) rfl hvh;have:=dH h;subst this;have hu:=hkv 1 (by omega);exact aIy (iB hu) (by have:=cF hu;omega) (aS (i:=1) hvh (by show 1<2;omega))
 rw [if_neg h5] at h;by_cases h9:k=9
 ·rw [if_pos h9] at h;subst h9;have h0:aW 9=4:=rfl;obtain ⟨_,_,h⟩:=bU h;obtain ⟨_,_,h⟩:=bU h;obtain ⟨_,_,h⟩:=bU h;obtain ⟨_,_,h⟩:=bU h;have:=dH h;subst this;exact uI rfl (hkv 0 (by omega)) (hkv 3 (by omega))
 rw [if_neg h9] at h;by_cases h10:k=10
 ·rw [if_pos h10] at h;obtain ⟨_,_,h⟩:=bU h;obtain ⟨_,_,h⟩:=bU h;obtain ⟨_,_,h⟩:=bU h;have:=dH h;subst this;exact leaf _ _ rfl
 rw [if_neg h10] at h;by_cases h12:k=12
 ·rw [if_pos h12] at h;subst h12;have h0:aW 12=3:=rfl;obtain ⟨hh,h1,h⟩:=bU h;obtain ⟨_,_,h⟩:=bU h;obtain ⟨_,_,h⟩:=bU h;obtain ⟨hk,hvh⟩:=mI h1;obtain ⟨kh,nh,sh⟩:=hh;obtain rfl:kh=10:=hk;obtain ⟨_,_,_,_,_,_,_,_,_,rfl⟩:=aPa (k:=10) rfl hvh;have:=dH h;subst this;exact uI rfl (hkv 0 (by omega)) (aS (i:=2) hvh (by show 2<3;omega))
 rw [if_neg h12] at h;by_cases h14:k=14
 ·rw [if_pos h14] at h;subst h14;have h0:aW 14=3:=rfl;obtain ⟨_,_,h⟩:=bU h;obtain ⟨_,_,h⟩:=bU h;obtain ⟨_,_,h⟩:=bU h;obtain ⟨_,_,h⟩:=bU h;obtain ⟨_,_,h⟩:=bU h;have:=dH h;subst this;exact wS (hkv 0 (by omega))
 rw [if_neg h14] at h;by_cases h1:k=1
 ·rw [if_pos h1] at h;unfold aFf at h
  split at h
  ·injection h with h;cases h
  ·rename_i hl
   have:=dH h;subst this;obtain ⟨q,_,_,hn0,_,_⟩:=cG (aY hv);have hj:ctx.length - 1 - n.toNat<ctx.length:=by omega
   have hvx:=hvc _ (fG hj);rw [show ctx.getD (ctx.length - 1 - n.toNat) default=ctx[ctx.length - 1 - n.toNat] by simp [List.getD,iG hj]];refine ⟨by rw [(zK (n+1)).1];exact iB hvx,by rw [qX];have:=cF hvx;omega⟩
 rw [if_neg h1] at h;by_cases h2:k=2
 ·rw [if_pos h2] at h;split at h
  ·injection h with h;cases h
  ·have:=dH h;subst this;exact leaf _ _ rfl
 rw [if_neg h2] at h;by_cases h6:k=6
 ·rw [if_pos h6] at h;have:=dH h;subst this;exact leaf _ _ rfl
 rw [if_neg h6] at h;by_cases h7:k=7
 ·rw [if_pos h7] at h;have:=dH h;subst this;exact leaf _ _ rfl
 rw [if_neg h7] at h;by_cases h8:k=8
 ·rw [if_pos h8] at h;obtain ⟨_,_,h⟩:=bU h;have:=dH h;subst this;exact leaf _ _ rfl
 rw [if_neg h8] at h;by_cases h11:k=11
 ·rw [if_pos h11] at h;subst h11;have h0:aW 11=1:=rfl;obtain ⟨s,hs,h⟩:=bU h;obtain ⟨_,_,h⟩:=bU h;have:=dH h;subst this;have hva:=hkv 0 (by omega);have hvs:=cO hs;have z1:=cF hva;have z2:=cF hvs;exact ⟨by simp only [nW,wP,iB hva,iB hvs];rfl,by simp only [Tm.size,aG];omega⟩
 rw [if_neg h11] at h;obtain ⟨hh,hsx,h⟩:=bU h;obtain ⟨hk,hvh⟩:=mI hsx;obtain ⟨kh,nh,sh⟩:=hh;obtain rfl:kh=13:=hk;obtain ⟨_,_,_,_,_,_,rfl⟩:=yC (k:=13) rfl hvh;have hks:0<ks.length:=by
  have ha:=hlen;have hm:k=15∨k=16:=aEy (aY hv) ⟨h3,h4,h5,h9,h10,h12,h14,h1,h2,h6,h7,h8,h11⟩;rcases hm with rfl|rfl
  ·have h0:aW 15=1:=rfl;omega
  ·have h0:aW 16=1:=rfl;omega
 split at h
 ·have:=dH h;subst this;exact wS (aS (i:=0) hvh (by show 0<2;omega))
 ·have:=dH h;subst this;have hu:=hkv 0 hks;have hz:=cF hu;exact aIy (by simp only [nW,wP,iB hu];rfl) (by simp only [Tm.size,aG];omega) (aS (i:=1) hvh (by show 1<2;omega))
theorem iZ {w:World}{z:Nat}{k n:Int}{ks:List Tm}{A:Option Addr}(hZ:Blk w z Zr)(hv:nW (.mk k n ks)=true)(hr:Rd w A 0 ks)(x y v:Value) :
  Rd (((w.setCell ⟨z,0,none⟩ x).setCell ⟨z,1,none⟩ y).setCell ⟨z,2,none⟩ v) A 0 ks:=by
 rw [nW,Bool.and_eq_true] at hv;exact (((((aLv hZ).2 ks A 0 hv.2 hr).setCell (a:=⟨z,0,none⟩) (fun h=>h rfl) x).setCell (a:=⟨z,1,none⟩) (fun h=>h rfl) y).setCell (a:=⟨z,2,none⟩) (fun h=>h rfl) v).rd
theorem yS (ctx:List Tm)(C:Option Addr)(cc:Nat)(k n:Int)(ks:List Tm)(A:Option Addr)(c:Nat)(r:Rs Tm)(w:World)(q1:(k==1)=false)(q2:(k==2)=false)(q6:(k==6)=false)(q7:(k==7)=false)(q8:(k==8)=false)(q11:(k==11)=false)(hX:Hid (∀(w:World),Rd w C 0 ctx→Rd w A 0 ks→Calls prog 154 #[.slice C ctx.length cc,.agg (Ro k n A ks.length c)] w (nP w r)))(hnz:∀o,r = .ok o→nW o=true)(hrc:Rd w C 0 ctx)(hra:Rd w A 0 ks) :
  Calls prog 140 #[.slice C ctx.length cc,.agg (Ro k n A ks.length c)] w (nP w r):=by
 cases r with
 | ok o=>
  obtain ⟨k1,n1,s1⟩:=o;replace hnz:=hnz _ rfl;go_enter func140,ntmps140;go_wp2_with (go_at_call 154;refine (hX.out _ ((hrc.alloc _).alloc _) ((hra.alloc _).alloc _)).mono ?_;rintro e w1 ⟨A1,c1,rfl,hl1,r1,hb1⟩;have hZ1:=bA hb1;have g1:Bw w w1:=bW bw2 hb1;obtain ⟨d0,d1,d2,e0,e1,e2,lz⟩:=cZ hZ1)
  refine bodyPost_ret (v:=.tuple #[.agg (Ro k1 n1 A1 s1.length c1),.int .i64 0]) (by simp [results,results140,go_sem,d0,d1,d2]) rfl ⟨A1,c1,rfl,hl1,iZ hZ1 hnz r1 _ _ _,?_⟩;exact bV g1
 | no b=>
  clear hnz;go_enter func140,ntmps140;go_wp2_with (go_at_call 154;refine (hX.out _ ((hrc.alloc _).alloc _) ((hra.alloc _).alloc _)).mono ?_;rintro e w1 ⟨k1,n1,A1,l1,c1,rfl,hb1⟩;have hZ1:=bA hb1;have g1:Bw w w1:=bW bw2 hb1;obtain ⟨d0,d1,d2,e0,e1,e2,lz⟩:=cZ hZ1)
  refine bodyPost_ret (v:=.tuple #[.agg (Ro k1 n1 A1 l1 c1),.int .i64 (gI b)]) (by simp [results,results140,go_sem,d0,d1,d2]) rfl ⟨k1,n1,A1,l1,c1,rfl,?_⟩;exact bV g1
theorem aMp (ctx:List Tm)(C:Option Addr)(cc:Nat)(k n:Int)(ks:List Tm)(A:Option Addr)(c:Nat)(r:Rs Tm)(w:World)(hk:((k==3)=true)∨((k==3)=false∧(k==13)=true))(hX:Hid (∀(w:World),Rd w C 0 ctx→Rd w A 0 ks→Calls prog 133 #[.slice C ctx.length cc,.agg (Ro k n A ks.length c)] w (nP w r)))(hnz:∀o,r = .ok o→nW o=true)(hrc:Rd w C 0 ctx)(hra:Rd w A 0 ks) :
  Calls prog 112 #[.slice C ctx.length cc,.agg (Ro k n A ks.length c)] w (nP w r):=by
 rcases hk with q3|⟨q3,q13⟩
 ·cases r with
   | ok o=>
    obtain ⟨k1,n1,s1⟩:=o;replace hnz:=hnz _ rfl;go_enter func112,ntmps112;go_wp2_with (go_at_call 133;refine (hX.out _ ((hrc.alloc _).alloc _) ((hra.alloc _).alloc _)).mono ?_;rintro e w1 ⟨A1,c1,rfl,hl1,r1,hb1⟩;have hZ1:=bA hb1;have g1:Bw w w1:=bW bw2 hb1;obtain ⟨d0,d1,d2,e0,e1,e2,lz⟩:=cZ hZ1)
    refine bodyPost_ret (v:=.tuple #[.agg (Ro k1 n1 A1 s1.length c1),.int .i64 0]) (by simp [results,results112,go_sem,d0,d1,d2]) rfl ⟨A1,c1,rfl,hl1,iZ hZ1 hnz r1 _ _ _,?_⟩;exact bV g1
   | no b=>
    clear hnz;go_enter func112,ntmps112;go_wp2_with (go_at_call 133;refine (hX.out _ ((hrc.alloc _).alloc _) ((hra.alloc _).alloc _)).mono ?_;rintro e w1 ⟨k1,n1,A1,l1,c1,rfl,hb1⟩;have hZ1:=bA hb1;have g1:Bw w w1:=bW bw2 hb1;obtain ⟨d0,d1,d2,e0,e1,e2,lz⟩:=cZ hZ1)
    refine bodyPost_ret (v:=.tuple #[.agg (Ro k1 n1 A1 l1 c1),.int .i64 (gI b)]) (by simp [results,results112,go_sem,d0,d1,d2]) rfl ⟨k1,n1,A1,l1,c1,rfl,?_⟩;exact bV g1
 ·cases r with
   | ok o=>
    obtain ⟨k1,n1,s1⟩:=o;replace hnz:=hnz _ rfl;go_enter func112,ntmps112;go_wp2_with (go_at_call 133;refine (hX.out _ ((hrc.alloc _).alloc _) ((hra.alloc _).alloc _)).mono ?_;rintro e w1 ⟨A1,c1,rfl,hl1,r1,hb1⟩;have hZ1:=bA hb1;have g1:Bw w w1:=bW bw2 hb1;obtain ⟨d0,d1,d2,e0,e1,e2,lz⟩:=cZ hZ1)
    refine bodyPost_ret (v:=.tuple #[.agg (Ro k1 n1 A1 s1.length c1),.int .i64 0]) (by simp [results,results112,go_sem,d0,d1,d2]) rfl ⟨A1,c1,rfl,hl1,iZ hZ1 hnz r1 _ _ _,?_⟩;exact bV g1
   | no b=>
    clear hnz;go_enter func112,ntmps112;go_wp2_with (go_at_call 133;refine (hX.out _ ((hrc.alloc _).alloc _) ((hra.alloc _).alloc _)).mono ?_;rintro e w1 ⟨k1,n1,A1,l1,c1,rfl,hb1⟩;have hZ1:=bA hb1;have g1:Bw w w1:=bW bw2 hb1;obtain ⟨d0,d1,d2,e0,e1,e2,lz⟩:=cZ hZ1)
    refine bodyPost_ret (v:=.tuple #[.agg (Ro k1 n1 A1 l1 c1),.int .i64 (gI b)]) (by simp [results,results112,go_sem,d0,d1,d2]) rfl ⟨k1,n1,A1,l1,c1,rfl,?_⟩;exact bV g1
theorem aOv (ctx:List Tm)(C:Option Addr)(cc:Nat)(k n:Int)(ks:List Tm)(A:Option Addr)(c:Nat)(r:Rs Tm)(w:World)(q3:(k==3)=false)(q13:(k==13)=false)(qk:(k==4)=true)(hX:Hid (∀(w:World),Rd w C 0 ctx→Rd w A 0 ks→Calls prog 134 #[.slice C ctx.length cc,.agg (Ro k n A ks.length c)] w (nP w r)))(hnz:∀o,r = .ok o→nW o=true)(hrc:Rd w C 0 ctx)(hra:Rd w A 0 ks) :
  Calls prog 112 #[.slice C ctx.length cc,.agg (Ro k n A ks.length c)] w (nP w r):=by
 cases r with
 | ok o=>
  obtain ⟨k1,n1,s1⟩:=o;replace hnz:=hnz _ rfl;go_enter func112,ntmps112;go_wp2_with (go_at_call 134;refine (hX.out _ ((hrc.alloc _).alloc _) ((hra.alloc _).alloc _)).mono ?_;rintro e w1 ⟨A1,c1,rfl,hl1,r1,hb1⟩;have hZ1:=bA hb1;have g1:Bw w w1:=bW bw2 hb1;obtain ⟨d0,d1,d2,e0,e1,e2,lz⟩:=cZ hZ1)
  refine bodyPost_ret (v:=.tuple #[.agg (Ro k1 n1 A1 s1.length c1),.int .i64 0]) (by simp [results,results112,go_sem,d0,d1,d2]) rfl ⟨A1,c1,rfl,hl1,iZ hZ1 hnz r1 _ _ _,?_⟩;exact bV g1
 | no b=>
  clear hnz;go_enter func112,ntmps112;go_wp2_with (go_at_call 134;refine (hX.out _ ((hrc.alloc _).alloc _) ((hra.alloc _).alloc _)).mono ?_;rintro e w1 ⟨k1,n1,A1,l1,c1,rfl,hb1⟩;have hZ1:=bA hb1;have g1:Bw w w1:=bW bw2 hb1;obtain ⟨d0,d1,d2,e0,e1,e2,lz⟩:=cZ hZ1)
  refine bodyPost_ret (v:=.tuple #[.agg (Ro k1 n1 A1 l1 c1),.int .i64 (gI b)]) (by simp [results,results112,go_sem,d0,d1,d2]) rfl ⟨k1,n1,A1,l1,c1,rfl,?_⟩;exact bV g1
theorem aNg (ctx:List Tm)(C:Option Addr)(cc:Nat)(k n:Int)(ks:List Tm)(A:Option Addr)(c:Nat)(r:Rs Tm)(w:World)(q3:(k==3)=false)(q13:(k==13)=false)(q4:(k==4)=false)(qk:(k==5)=true)(hX:Hid (∀(w:World),Rd w C 0 ctx→Rd w A 0 ks→Calls prog 135 #[.slice C ctx.length cc,.agg (Ro k n A ks.length c)] w (nP w r)))(hnz:∀o,r = .ok o→nW o=true)(hrc:Rd w C 0 ctx)(hra:Rd w A 0 ks) :
  Calls prog 112 #[.slice C ctx.length cc,.agg (Ro k n A ks.length c)] w (nP w r):=by
 cases r with
 | ok o=>
  obtain ⟨k1,n1,s1⟩:=o;replace hnz:=hnz _ rfl;go_enter func112,ntmps112;go_wp2_with (go_at_call 135;refine (hX.out _ ((hrc.alloc _).alloc _) ((hra.alloc _).alloc _)).mono ?_;rintro e w1 ⟨A1,c1,rfl,hl1,r1,hb1⟩;have hZ1:=bA hb1;have g1:Bw w w1:=bW bw2 hb1;obtain ⟨d0,d1,d2,e0,e1,e2,lz⟩:=cZ hZ1)
  refine bodyPost_ret (v:=.tuple #[.agg (Ro k1 n1 A1 s1.length c1),.int .i64 0]) (by simp [results,results112,go_sem,d0,d1,d2]) rfl ⟨A1,c1,rfl,hl1,iZ hZ1 hnz r1 _ _ _,?_⟩;exact bV g1
 | no b=>
  clear hnz;go_enter func112,ntmps112;go_wp2_with (go_at_call 135;refine (hX.out _ ((hrc.alloc _).alloc _) ((hra.alloc _).alloc _)).mono ?_;rintro e w1 ⟨k1,n1,A1,l1,c1,rfl,hb1⟩;have hZ1:=bA hb1;have g1:Bw w w1:=bW bw2 hb1;obtain ⟨d0,d1,d2,e0,e1,e2,lz⟩:=cZ hZ1)
  refine bodyPost_ret (v:=.tuple #[.agg (Ro k1 n1 A1 l1 c1),.int .i64 (gI b)]) (by simp [results,results112,go_sem,d0,d1,d2]) rfl ⟨k1,n1,A1,l1,c1,rfl,?_⟩;exact bV g1
theorem aOf (ctx:List Tm)(C:Option Addr)(cc:Nat)(k n:Int)(ks:List Tm)(A:Option Addr)(c:Nat)(r:Rs Tm)(w:World)(q3:(k==3)=false)(q13:(k==13)=false)(q4:(k==4)=false)(q5:(k==5)=false)(qk:(k==9)=true)(hX:Hid (∀(w:World),Rd w C 0 ctx→Rd w A 0 ks→Calls prog 136 #[.slice C ctx.length cc,.agg (Ro k n A ks.length c)] w (nP w r)))(hnz:∀o,r = .ok o→nW o=true)(hrc:Rd w C 0 ctx)(hra:Rd w A 0 ks) :
  Calls prog 112 #[.slice C ctx.length cc,.agg (Ro k n A ks.length c)] w (nP w r):=by
 cases r with
 | ok o=>
  obtain ⟨k1,n1,s1⟩:=o;replace hnz:=hnz _ rfl;go_enter func112,ntmps112;go_wp2_with (go_at_call 136;refine (hX.out _ ((hrc.alloc _).alloc _) ((hra.alloc _).alloc _)).mono ?_;rintro e w1 ⟨A1,c1,rfl,hl1,r1,hb1⟩;have hZ1:=bA hb1;have g1:Bw w w1:=bW bw2 hb1;obtain ⟨d0,d1,d2,e0,e1,e2,lz⟩:=cZ hZ1)
  refine bodyPost_ret (v:=.tuple #[.agg (Ro k1 n1 A1 s1.length c1),.int .i64 0]) (by simp [results,results112,go_sem,d0,d1,d2]) rfl ⟨A1,c1,rfl,hl1,iZ hZ1 hnz r1 _ _ _,?_⟩;exact bV g1
 | no b=>
  clear hnz;go_enter func112,ntmps112;go_wp2_with (go_at_call 136;refine (hX.out _ ((hrc.alloc _).alloc _) ((hra.alloc _).alloc _)).mono ?_;rintro e w1 ⟨k1,n1,A1,l1,c1,rfl,hb1⟩;have hZ1:=bA hb1;have g1:Bw w w1:=bW bw2 hb1;obtain ⟨d0,d1,d2,e0,e1,e2,lz⟩:=cZ hZ1)
  refine bodyPost_ret (v:=.tuple #[.agg (Ro k1 n1 A1 l1 c1),.int .i64 (gI b)]) (by simp [results,results112,go_sem,d0,d1,d2]) rfl ⟨k1,n1,A1,l1,c1,rfl,?_⟩;exact bV g1
theorem aMr (ctx:List Tm)(C:Option Addr)(cc:Nat)(k n:Int)(ks:List Tm)(A:Option Addr)(c:Nat)(r:Rs Tm)(w:World)(q3:(k==3)=false)(q13:(k==13)=false)(q4:(k==4)=false)(q5:(k==5)=false)(q9:(k==9)=false)(qk:(k==10)=true)(hX:Hid (∀(w:World),Rd w C 0 ctx→Rd w A 0 ks→Calls prog 137 #[.slice C ctx.length cc,.agg (Ro k n A ks.length c)] w (nP w r)))(hnz:∀o,r = .ok o→nW o=true)(hrc:Rd w C 0 ctx)(hra:Rd w A 0 ks) :
  Calls prog 112 #[.slice C ctx.length cc,.agg (Ro k n A ks.length c)] w (nP w r):=by
 cases r with
 | ok o=>
  obtain ⟨k1,n1,s1⟩:=o;replace hnz:=hnz _ rfl;go_enter func112,ntmps112;go_wp2_with (go_at_call 137;refine (hX.out _ ((hrc.alloc _).alloc _) ((hra.alloc _).alloc _)).mono ?_;rintro e w1 ⟨A1,c1,rfl,hl1,r1,hb1⟩;have hZ1:=bA hb1;have g1:Bw w w1:=bW bw2 hb1;obtain ⟨d0,d1,d2,e0,e1,e2,lz⟩:=cZ hZ1)
  refine bodyPost_ret (v:=.tuple #[.agg (Ro k1 n1 A1 s1.length c1),.int .i64 0]) (by simp [results,results112,go_sem,d0,d1,d2]) rfl ⟨A1,c1,rfl,hl1,iZ hZ1 hnz r1 _ _ _,?_⟩;exact bV g1
 | no b=>
  clear hnz;go_enter func112,ntmps112;go_wp2_with (go_at_call 137;refine (hX.out _ ((hrc.alloc _).alloc _) ((hra.alloc _).alloc _)).mono ?_;rintro e w1 ⟨k1,n1,A1,l1,c1,rfl,hb1⟩;have hZ1:=bA hb1;have g1:Bw w w1:=bW bw2 hb1;obtain ⟨d0,d1,d2,e0,e1,e2,lz⟩:=cZ hZ1)
  refine bodyPost_ret (v:=.tuple #[.agg (Ro k1 n1 A1 l1 c1),.int .i64 (gI b)]) (by simp [results,results112,go_sem,d0,d1,d2]) rfl ⟨k1,n1,A1,l1,c1,rfl,?_⟩;exact bV g1
theorem aNk (ctx:List Tm)(C:Option Addr)(cc:Nat)(k n:Int)(ks:List Tm)(A:Option Addr)(c:Nat)(r:Rs Tm)(w:World)(q3:(k==3)=false)(q13:(k==13)=false)(q4:(k==4)=false)(q5:(k==5)=false)(q9:(k==9)=false)(q10:(k==10)=false)(qk:(k==12)=true)(hX:Hid (∀(w:World),Rd w C 0 ctx→Rd w A 0 ks→Calls prog 138 #[.slice C ctx.length cc,.agg (Ro k n A ks.length c)] w (nP w r)))(hnz:∀o,r = .ok o→nW o=true)(hrc:Rd w C 0 ctx)(hra:Rd w A 0 ks) :
  Calls prog 112 #[.slice C ctx.length cc,.agg (Ro k n A ks.length c)] w (nP w r):=by
 cases r with
 | ok o=>
  obtain ⟨k1,n1,s1⟩:=o;replace hnz:=hnz _ rfl;go_enter func112,ntmps112;go_wp2_with (go_at_call 138;refine (hX.out _ ((hrc.alloc _).alloc _) ((hra.alloc _).alloc _)).mono ?_;rintro e w1 ⟨A1,c1,rfl,hl1,r1,hb1⟩;have hZ1:=bA hb1;have g1:Bw w w1:=bW bw2 hb1;obtain ⟨d0,d1,d2,e0,e1,e2,lz⟩:=cZ hZ1)
  refine bodyPost_ret (v:=.tuple #[.agg (Ro k1 n1 A1 s1.length c1),.int .i64 0]) (by simp [results,results112,go_sem,d0,d1,d2]) rfl ⟨A1,c1,rfl,hl1,iZ hZ1 hnz r1 _ _ _,?_⟩;exact bV g1
 | no b=>
  clear hnz;go_enter func112,ntmps112;go_wp2_with (go_at_call 138;refine (hX.out _ ((hrc.alloc _).alloc _) ((hra.alloc _).alloc _)).mono ?_;rintro e w1 ⟨k1,n1,A1,l1,c1,rfl,hb1⟩;have hZ1:=bA hb1;have g1:Bw w w1:=bW bw2 hb1;obtain ⟨d0,d1,d2,e0,e1,e2,lz⟩:=cZ hZ1)
  refine bodyPost_ret (v:=.tuple #[.agg (Ro k1 n1 A1 l1 c1),.int .i64 (gI b)]) (by simp [results,results112,go_sem,d0,d1,d2]) rfl ⟨k1,n1,A1,l1,c1,rfl,?_⟩;exact bV g1
theorem aMl (ctx:List Tm)(C:Option Addr)(cc:Nat)(k n:Int)(ks:List Tm)(A:Option Addr)(c:Nat)(r:Rs Tm)(w:World)(q3:(k==3)=false)(q13:(k==13)=false)(q4:(k==4)=false)(q5:(k==5)=false)(q9:(k==9)=false)(q10:(k==10)=false)(q12:(k==12)=false)(qk:(k==14)=true)(hX:Hid (∀(w:World),Rd w C 0 ctx→Rd w A 0 ks→Calls prog 139 #[.slice C ctx.length cc,.agg (Ro k n A ks.length c)] w (nP w r)))(hnz:∀o,r = .ok o→nW o=true)(hrc:Rd w C 0 ctx)(hra:Rd w A 0 ks) :
  Calls prog 112 #[.slice C ctx.length cc,.agg (Ro k n A ks.length c)] w (nP w r):=by
 cases r with
 | ok o=>
  obtain ⟨k1,n1,s1⟩:=o;replace hnz:=hnz _ rfl;go_enter func112,ntmps112;go_wp2_with (go_at_call 139;refine (hX.out _ ((hrc.alloc _).alloc _) ((hra.alloc _).alloc _)).mono ?_;rintro e w1 ⟨A1,c1,rfl,hl1,r1,hb1⟩;have hZ1:=bA hb1;have g1:Bw w w1:=bW bw2 hb1;obtain ⟨d0,d1,d2,e0,e1,e2,lz⟩:=cZ hZ1)
  refine bodyPost_ret (v:=.tuple #[.agg (Ro k1 n1 A1 s1.length c1),.int .i64 0]) (by simp [results,results112,go_sem,d0,d1,d2]) rfl ⟨A1,c1,rfl,hl1,iZ hZ1 hnz r1 _ _ _,?_⟩;exact bV g1
 | no b=>
  clear hnz;go_enter func112,ntmps112;go_wp2_with (go_at_call 139;refine (hX.out _ ((hrc.alloc _).alloc _) ((hra.alloc _).alloc _)).mono ?_;rintro e w1 ⟨k1,n1,A1,l1,c1,rfl,hb1⟩;have hZ1:=bA hb1;have g1:Bw w w1:=bW bw2 hb1;obtain ⟨d0,d1,d2,e0,e1,e2,lz⟩:=cZ hZ1)
  refine bodyPost_ret (v:=.tuple #[.agg (Ro k1 n1 A1 l1 c1),.int .i64 (gI b)]) (by simp [results,results112,go_sem,d0,d1,d2]) rfl ⟨k1,n1,A1,l1,c1,rfl,?_⟩;exact bV g1
theorem aNn (ctx:List Tm)(C:Option Addr)(cc:Nat)(k n:Int)(ks:List Tm)(A:Option Addr)(c:Nat)(r:Rs Tm)(w:World)(q3:(k==3)=false)(q13:(k==13)=false)(q4:(k==4)=false)(q5:(k==5)=false)(q9:(k==9)=false)(q10:(k==10)=false)(q12:(k==12)=false)(q14:(k==14)=false)(hX:Hid (∀(w:World),Rd w C 0 ctx→Rd w A 0 ks→Calls prog 140 #[.slice C ctx.length cc,.agg (Ro k n A ks.length c)] w (nP w r)))(hnz:∀o,r = .ok o→nW o=true)(hrc:Rd w C 0 ctx)(hra:Rd w A 0 ks) :
  Calls prog 112 #[.slice C ctx.length cc,.agg (Ro k n A ks.length c)] w (nP w r):=by
 cases r with
 | ok o=>
  obtain ⟨k1,n1,s1⟩:=o;replace hnz:=hnz _ rfl;go_enter func112,ntmps112;go_wp2_with (go_at_call 140;refine (hX.out _ ((hrc.alloc _).alloc _) ((hra.alloc _).alloc _)).mono ?_;rintro e w1 ⟨A1,c1,rfl,hl1,r1,hb1⟩;have hZ1:=bA hb1;have g1:Bw w w1:=bW bw2 hb1;obtain ⟨d0,d1,d2,e0,e1,e2,lz⟩:=cZ hZ1)
  refine bodyPost_ret (v:=.tuple #[.agg (Ro k1 n1 A1 s1.length c1),.int .i64 0]) (by simp [results,results112,go_sem,d0,d1,d2]) rfl ⟨A1,c1,rfl,hl1,iZ hZ1 hnz r1 _ _ _,?_⟩;exact bV g1
 | no b=>
  clear hnz;go_enter func112,ntmps112;go_wp2_with (go_at_call 140;refine (hX.out _ ((hrc.alloc _).alloc _) ((hra.alloc _).alloc _)).mono ?_;rintro e w1 ⟨k1,n1,A1,l1,c1,rfl,hb1⟩;have hZ1:=bA hb1;have g1:Bw w w1:=bW bw2 hb1;obtain ⟨d0,d1,d2,e0,e1,e2,lz⟩:=cZ hZ1)
  refine bodyPost_ret (v:=.tuple #[.agg (Ro k1 n1 A1 l1 c1),.int .i64 (gI b)]) (by simp [results,results112,go_sem,d0,d1,d2]) rfl ⟨k1,n1,A1,l1,c1,rfl,?_⟩;exact bV g1
theorem kq {k x:Int}(h:¬k=x):(k==x)=false:=by simpa using h
theorem aAu {N:Nat}(ih:mU N)(ctx:List Tm)(C:Option Addr)(cc:Nat)(k n:Int)(ks:List Tm)(A:Option Addr)(c:Nat)(r:Rs Tm)(w:World)(hv:aE (.mk k n ks)=true)(hk:¬(k=3∨k=13)∧¬k=4∧¬k=5∧¬k=9∧¬k=10∧¬k=12∧¬k=14)(hs:fT (bZ N) ctx (.mk k n ks)=some r)(hvc:∀u,u∈ctx→aE u=true)(hm:ctx.length≤20)(hrc:Rd w C 0 ctx)(hr:Rd w A 0 ks) :
  Calls prog 140 #[.slice C ctx.length cc,.agg (Ro k n A ks.length c)] w (nP w r):=by
 obtain ⟨hk3,hk4,hk5,hk9,hk10,hk12,hk14⟩:=hk;have hlen:=eW hv;have hnz:∀o,r = .ok o→nW o=true:=fun o ho=>(yV hv hvc (by rw [hs,ho])).1
 obtain ⟨q,_,_,hn0,hn1,_⟩:=cG (aY hv);have hs0:=hs;rw [fT,if_neg hk3,if_neg hk4,if_neg hk5,if_neg hk9,if_neg hk10,if_neg hk12,if_neg hk14] at hs;by_cases h1:k=1
 ·subst h1;rw [if_pos rfl] at hs;have hn20:n≤20:=hn1;exact zN ctx C cc n A c ks r w ⟨hn0,hn20⟩ hvc hm hs hrc
 rw [if_neg h1] at hs;by_cases h267:k=2∨k=6∨k=7
 ·have hn20:n≤20:=by
   rcases h267 with rfl|rfl|rfl
   ·have:n≤3:=hn1;omega
   ·have:n≤0:=hn1;omega
   ·have:n≤0:=hn1;omega
  exact zR (N:=N) ctx C cc n A c k ks r w ⟨hn0,hn20⟩ h267 hs0
 rw [if_neg (fun h=>h267 (.inl h)),if_neg (fun h=>h267 (.inr (.inl h))),if_neg (fun h=>h267 (.inr (.inr h)))] at hs;by_cases h8:k=8
 ·subst h8;rw [if_pos rfl] at hs;have h0:aW 8=1:=rfl;obtain ⟨⟨ka,na,sa⟩,rfl⟩:=aHi (ks:=ks) (by omega);exact zG ih ctx C cc n A c ka na sa r w hs (aS (i:=0) hv (by simp)) hvc hm hrc hr
 rw [if_neg h8] at hs;by_cases h11:k=11
 ·subst h11;rw [if_pos rfl] at hs;have h0:aW 11=1:=rfl;obtain ⟨⟨ka,na,sa⟩,rfl⟩:=aHi (ks:=ks) (by omega);exact yT ih ctx C cc n A c ka na sa r w hs (aS (i:=0) hv (by simp)) hvc hm hrc hr
 rw [if_neg h11] at hs;have hk15:=aEy (aY hv) ⟨hk3,hk4,hk5,hk9,hk10,hk12,hk14,h1,fun h=>h267 (.inl h),fun h=>h267 (.inr (.inl h)),fun h=>h267 (.inr (.inr h)),h8,h11⟩;have h0:aW k=1:=by rcases hk15 with rfl|rfl<;>rfl
 obtain ⟨⟨ka,na,sa⟩,rfl⟩:=aHi (ks:=ks) (by omega);exact yS ctx C cc k n [.mk ka na sa] A c r w (kq h1) (kq (fun h=>h267 (.inl h))) (kq (fun h=>h267 (.inr (.inl h)))) (kq (fun h=>h267 (.inr (.inr h)))) (kq h8) (kq h11) (aD (fun w hrc hr=>aFe ih ctx C cc k n A c ka na sa r w hs (aS (i:=0) hv (by simp)) hvc hm hrc hr)) hnz hrc hr
theorem yE {N:Nat}(ih:mU N)(ctx:List Tm)(C:Option Addr)(cc:Nat)(k n:Int)(ks:List Tm)(A:Option Addr)(c:Nat)(r:Rs Tm)(w:World)(hv:aE (.mk k n ks)=true)(hs:fT (bZ N) ctx (.mk k n ks)=some r)(hvc:∀u,u∈ctx→aE u=true)(hm:ctx.length≤20)(hrc:Rd w C 0 ctx)(hr:Rd w A 0 ks) :
  Calls prog 112 #[.slice C ctx.length cc,.agg (Ro k n A ks.length c)] w (nP w r):=by
 have hlen:=eW hv;have hnz:∀o,r = .ok o→nW o=true:=fun o ho=>(yV hv hvc (by rw [hs,ho])).1
 have hs0:=hs;rw [fT] at hs;by_cases h3:k=3∨k=13
 ·rw [if_pos h3] at hs;have h0:aW k=2:=by rcases h3 with rfl|rfl<;>rfl
  obtain ⟨⟨ka,na,sa⟩,⟨kb,nb,sb⟩,rfl⟩:=aGa (ks:=ks) (by omega);exact aMp ctx C cc k n _ A c r w (by rcases h3 with rfl|rfl<;>decide) (aD (fun w hrc hr=>pV ih ctx C cc k n A c ka na sa kb nb sb r w hs (aS (i:=0) hv (by simp)) (aS (i:=1) hv (by simp)) hvc hm hrc hr)) hnz hrc hr
 rw [if_neg h3] at hs;have q3:(k==3)=false:=kq (fun h=>h3 (.inl h));have q13:(k==13)=false:=kq (fun h=>h3 (.inr h));by_cases h4:k=4
 ·rw [if_pos h4] at hs;have h0:aW k=2:=by rw [h4];rfl
  obtain ⟨⟨ka,na,sa⟩,⟨kb,nb,sb⟩,rfl⟩:=aGa (ks:=ks) (by omega);exact aOv ctx C cc k n _ A c r w q3 q13 (by simpa using h4) (aD (fun w hrc hr=>aJy ih ctx C cc k n A c ka na sa kb nb sb r w hs (aS (i:=0) hv (by simp)) (aS (i:=1) hv (by simp)) hvc hm hrc hr)) hnz hrc hr
 rw [if_neg h4] at hs;by_cases h5:k=5
 ·rw [if_pos h5] at hs;have h0:aW k=2:=by rw [h5];rfl
  obtain ⟨⟨ka,na,sa⟩,⟨kb,nb,sb⟩,rfl⟩:=aGa (ks:=ks) (by omega);exact aNg ctx C cc k n _ A c r w q3 q13 (kq h4) (by simpa using h5) (aD (fun w hrc hr=>aIu ih ctx C cc k n A c ka na sa kb nb sb r w hs (aS (i:=0) hv (by simp)) (aS (i:=1) hv (by simp)) hvc hm hrc hr)) hnz hrc hr
 rw [if_neg h5] at hs;by_cases h9:k=9
 ·rw [if_pos h9] at hs;have h0:aW k=4:=by rw [h9];rfl
  obtain ⟨⟨ka,na,sa⟩,⟨kb,nb,sb⟩,⟨kd,nd,sd⟩,⟨ke,ne,se⟩,rfl⟩:=aTw (ks:=ks) (by omega);exact aOf ctx C cc k n _ A c r w q3 q13 (kq h4) (kq h5) (by simpa using h9) (aD (fun w hrc hr=>aHd ih ctx C cc k n A c ka na sa kb nb sb kd nd sd ke ne se r w hs (aS (i:=0) hv (by simp)) (aS (i:=1) hv (by simp)) (aS (i:=2) hv (by simp)) (aS (i:=3) hv (by simp)) hvc hm hrc hr)) hnz hrc hr
 rw [if_neg h9] at hs;by_cases h10:k=10
 ·rw [if_pos h10] at hs;have h0:aW k=3:=by rw [h10];rfl
  obtain ⟨⟨ka,na,sa⟩,⟨kb,nb,sb⟩,⟨kd,nd,sd⟩,rfl⟩:=aDd (ks:=ks) (by omega);exact aMr ctx C cc k n _ A c r w q3 q13 (kq h4) (kq h5) (kq h9) (by simpa using h10) (aD (fun w hrc hr=>aNu ih ctx C cc k n A c ka na sa kb nb sb kd nd sd r w hs (aS (i:=0) hv (by simp)) (aS (i:=1) hv (by simp)) (aS (i:=2) hv (by simp)) hvc hm hrc hr)) hnz hrc hr
 rw [if_neg h10] at hs;by_cases h12:k=12
 ·rw [if_pos h12] at hs;have h0:aW k=3:=by rw [h12];rfl
  obtain ⟨⟨ka,na,sa⟩,⟨kb,nb,sb⟩,⟨kd,nd,sd⟩,rfl⟩:=aDd (ks:=ks) (by omega);exact aNk ctx C cc k n _ A c r w q3 q13 (kq h4) (kq h5) (kq h9) (kq h10) (by simpa using h12) (aD (fun w hrc hr=>aGf ih ctx C cc k n A c ka na sa kb nb sb kd nd sd r w hs (aS (i:=0) hv (by simp)) (aS (i:=1) hv (by simp)) (aS (i:=2) hv (by simp)) hvc hm hrc hr)) hnz hrc hr
 rw [if_neg h12] at hs;by_cases h14:k=14
 ·rw [if_pos h14] at hs;have h0:aW k=3:=by rw [h14];rfl
  obtain ⟨⟨ka,na,sa⟩,⟨kb,nb,sb⟩,⟨kd,nd,sd⟩,rfl⟩:=aDd (ks:=ks) (by omega);exact aMl ctx C cc k n _ A c r w q3 q13 (kq h4) (kq h5) (kq h9) (kq h10) (kq h12) (by simpa using h14) (aD (fun w hrc hr=>aGl ih ctx C cc k n A c ka na sa kb nb sb kd nd sd r w hs (aS (i:=0) hv (by simp)) (aS (i:=1) hv (by simp)) (aS (i:=2) hv (by simp)) hvc hm hrc hr)) hnz hrc hr
 exact aNn ctx C cc k n ks A c r w q3 q13 (kq h4) (kq h5) (kq h9) (kq h10) (kq h12) (kq h14) (aD (fun w hrc hr=>aAu ih ctx C cc k n ks A c r w hv ⟨h3,h4,h5,h9,h10,h12,h14⟩ hs0 hvc hm hrc hr)) hnz hrc hr
theorem aFo {N:Nat}(ih:mU N):mU (N+1):=by
 intro ctx k n ks r hs hv hvc hm C cc A c w hrc hr;have hM:=aI hv;have hv':=aD hv;rw [bZ] at hs;by_cases hl:ctx.length≤20
 ·rw [if_pos ⟨hv,hl⟩] at hs;have ql:decide ((20:Int)<(ctx.length:Int))=false:=decide_eq_false (by omega);have ql2:decide (20<ctx.length)=false:=decide_eq_false (by omega);rcases cB hs with ⟨b,h1,rfl⟩|⟨⟨k3,n3,s3⟩,h1,hs⟩
  ·have hK:=aD (fun (w:World) (hrc:Rd w C 0 ctx) (hr:Rd w A 0 ks)=>yE ih ctx C cc k n ks A c _ w hv h1 hvc hl hrc hr);have qb:=fO b;clear hs h1 hv hvc ih;go_enter func78,ntmps78;go_wp2_with (first
    | (go_at_call 112;have _t:=tok;refine (hK.out _ (hrc.below g1) (hr.below g1)).mono ?_;rintro e w2 ⟨k3,n3,A3,l3,c3,rfl,hb2⟩;have hZ2:=(hZ1.keep hb2).alloc (.cells (Ro k3 n3 A3 l3 c3) 25);have g2:=(g1.trans (hb2.mono g1.size)).alloc (by have:=g1.size;have:=hb2.size;omega) (.cells (Ro k3 n3 A3 l3 c3) 25);clear d0 d1 d2 e0 e1 e2 lz;obtain ⟨d0,d1,d2,e0,e1,e2,lz⟩:=cZ hZ2;clear tok;have tok2:=trivial)
    | (go_at_call 46;refine (aN k n ks A c _ (by omega) ((hr.alloc _).alloc _)).mono ?_;rw [hv'.out];rintro e w1 ⟨rfl,hb1⟩;have hT1:=cM hb1;have hZ1:=bA hb1;have g1:Bw w w1:=bW bw2 hb1;obtain ⟨x0,x1,x2⟩:=hT1.three;obtain ⟨d0,d1,d2,e0,e1,e2,lz⟩:=cZ hZ1;have tok:=trivial))
   refine bodyPost_ret (v:=.tuple #[.agg Zr,.int .i64 (gI b)]) (by simp [results,results78,go_sem,d0,d1,d2]) rfl ⟨rfl,?_⟩;exact bV g2
  ·have hK:=aD (fun (w:World) (hrc:Rd w C 0 ctx) (hr:Rd w A 0 ks)=>yE ih ctx C cc k n ks A c _ w hv h1 hvc hl hrc hr);have hnz:=yV hv hvc h1;have hz3:aG s3≤1000000:=by have:=hnz.2;rw [Tm.size] at this;omega
   unfold aJm at hs
   cases hvv:aE (.mk k3 n3 s3) with
   | false=>
    rw [if_neg (by rw [hvv];decide)] at hs;injection hs with hs;subst hs;have hvo:=aD hvv;clear h1 hv hvc ih hvv hnz;go_enter func78,ntmps78;go_wp2_with (first
     | (go_at_call 46;have _t:=tok2;refine (aN k3 n3 s3 A3 c3 _ (by omega) r4).mono ?_;rw [hvo.out];rintro e w3 ⟨rfl,hb3⟩;have hZ3:=hZ2.keep hb3;have hG3:=hG2.keep hb3;have g3:=g2.trans (hb3.mono g2.size);have r5:=r4.below hb3;clear y0 y1 y2 d0 d1 d2 e0 e1 e2 lz;obtain ⟨y0,y1,y2⟩:=hG3.three;obtain ⟨d0,d1,d2,e0,e1,e2,lz⟩:=cZ hZ3)
     | (go_at_call 112;have _t:=tok;refine (hK.out _ (hrc.below g1) (hr.below g1)).mono ?_;rintro e w2 ⟨A3,c3,rfl,hl3,r3,hb2⟩;have hZ2:=(hZ1.keep hb2).alloc (.cells (Ro k3 n3 A3 s3.length c3) 25);have g2:=(g1.trans (hb2.mono g1.size)).alloc (by have:=g1.size;have:=hb2.size;omega) (.cells (Ro k3 n3 A3 s3.length c3) 25);have r4:=r3.alloc (.cells (Ro k3 n3 A3 s3.length c3) 25);have hG2:=aC w2 25 (Ro k3 n3 A3 s3.length c3) rfl;obtain ⟨y0,y1,y2⟩:=hG2.three;clear d0 d1 d2 e0 e1 e2 lz;obtain ⟨d0,d1,d2,e0,e1,e2,lz⟩:=cZ hZ2;clear tok;have tok2:=trivial)
     | (go_at_call 46;refine (aN k n ks A c _ (by omega) ((hr.alloc _).alloc _)).mono ?_;rw [hv'.out];rintro e w1 ⟨rfl,hb1⟩;have hT1:=cM hb1;have hZ1:=bA hb1;have g1:Bw w w1:=bW bw2 hb1;obtain ⟨x0,x1,x2⟩:=hT1.three;obtain ⟨d0,d1,d2,e0,e1,e2,lz⟩:=cZ hZ1;have tok:=trivial))
    refine bodyPost_ret (v:=.tuple #[.agg Zr,.int .i64 2]) (by simp [results,results78,go_sem,d0,d1,d2]) rfl ⟨rfl,?_⟩;exact bV g3
   | true=>
    rw [if_pos hvv] at hs;injection hs with hs;subst hs;have hvo:=aD hvv;clear h1 hv hvc ih hvv hnz;go_enter func78,ntmps78;go_wp2_with (first
     | (go_at_call 46;have _t:=tok2;refine (aN k3 n3 s3 A3 c3 _ (by omega) r4).mono ?_;rw [hvo.out];rintro e w3 ⟨rfl,hb3⟩;have hZ3:=hZ2.keep hb3;have hG3:=hG2.keep hb3;have g3:=g2.trans (hb3.mono g2.size);have r5:=r4.below hb3;clear y0 y1 y2 d0 d1 d2 e0 e1 e2 lz;obtain ⟨y0,y1,y2⟩:=hG3.three;obtain ⟨d0,d1,d2,e0,e1,e2,lz⟩:=cZ hZ3)
     | (go_at_call 112;have _t:=tok;refine (hK.out _ (hrc.below g1) (hr.below g1)).mono ?_;rintro e w2 ⟨A3,c3,rfl,hl3,r3,hb2⟩;have hZ2:=(hZ1.keep hb2).alloc (.cells (Ro k3 n3 A3 s3.length c3) 25);have g2:=(g1.trans (hb2.mono g1.size)).alloc (by have:=g1.size;have:=hb2.size;omega) (.cells (Ro k3 n3 A3 s3.length c3) 25);have r4:=r3.alloc (.cells (Ro k3 n3 A3 s3.length c3) 25);have hG2:=aC w2 25 (Ro k3 n3 A3 s3.length c3) rfl;obtain ⟨y0,y1,y2⟩:=hG2.three;clear d0 d1 d2 e0 e1 e2 lz;obtain ⟨d0,d1,d2,e0,e1,e2,lz⟩:=cZ hZ2;clear tok;have tok2:=trivial)
     | (go_at_call 46;refine (aN k n ks A c _ (by omega) ((hr.alloc _).alloc _)).mono ?_;rw [hv'.out];rintro e w1 ⟨rfl,hb1⟩;have hT1:=cM hb1;have hZ1:=bA hb1;have g1:Bw w w1:=bW bw2 hb1;obtain ⟨x0,x1,x2⟩:=hT1.three;obtain ⟨d0,d1,d2,e0,e1,e2,lz⟩:=cZ hZ1;have tok:=trivial))
    refine bodyPost_ret (v:=.tuple #[.agg (Ro k3 n3 A3 s3.length c3),.int .i64 0]) (by simp [results,results78,go_sem,d0,d1,d2]) rfl ⟨A3,c3,rfl,hl3,gH hZ3 hvo.out r5 _ _ _,?_⟩;exact bV g3
 ·rw [if_neg (fun h=>hl h.2)] at hs;injection hs with hs;subst hs;have ql:decide ((20:Int)<(ctx.length:Int))=true:=decide_eq_true (by omega);have ql2:decide (20<ctx.length)=true:=decide_eq_true (by omega);clear hv hvc ih;go_enter func78,ntmps78;go_wp2_with (go_at_call 46;refine (aN k n ks A c _ (by omega) ((hr.alloc _).alloc _)).mono ?_;rw [hv'.out];rintro e w1 ⟨rfl,hb1⟩;have hT1:=cM hb1;have hZ1:=bA hb1;have g1:Bw w w1:=bW bw2 hb1;obtain ⟨x0,x1,x2⟩:=hT1.three;obtain ⟨d0,d1,d2,e0,e1,e2,lz⟩:=cZ hZ1;have tok:=trivial)
  refine bodyPost_ret (v:=.tuple #[.agg Zr,.int .i64 2]) (by simp [results,results78,go_sem,d0,d1,d2]) rfl ⟨rfl,?_⟩;exact bV g1
theorem oG:∀N,mU N
 | 0=>fun _ _ _ _ _ h=>by cases h
 | N+1=>aFo (oG N)
def tF (ctx:List Tm):Bool:=ctx.all (fun t=>aE t) && decide (ctx.length≤8)
def ccG (N:Nat)(ctx:List Tm):Nat→Option Int
 | 0=>some 0
 | m+1=>match pX (bZ N) (ctx.take (ctx.length - (m+1))) (ctx.getD (ctx.length - (m+1)) default) with
  | none=>none
  | some (.no b)=>some (gI b)
  | some (.ok _)=>ccG N ctx m
def ccR (N:Nat)(ctx:List Tm):Option Int:=if tF ctx=true then ccG N ctx ctx.length else some 3
def itR (N:Nat)(ctx:List Tm)(t:Tm):Option (Int × Option Tm):=
 if tF ctx=true∧aE t=true then
  match ccG N ctx ctx.length with
  | none=>none
  | some c=>if c=0 then (match bZ N ctx t with|none=>none|some (.no b)=>some (gI b,none)|some (.ok s)=>some (0,some s)) else some (c,none)
 else some (3,none)
theorem uU {ctx:List Tm}(h:tF ctx=true):(∀u,u∈ctx→aE u=true)∧ctx.length≤8:=by
 simp only [tF,Bool.and_eq_true,List.all_eq_true,decide_eq_true_eq] at h
 exact h
theorem Rd.take {w:World}{A:Option Addr}:∀{ts:List Tm} {i:Nat} (n:Nat),Rd w A i ts→Rd w A i (ts.take n)
 | [],i,n,h=>by simpa using h
 | t::ts,i,0,h=>Rd.nil
 | t::ts,i,n+1,h=>by
  rw [List.take_succ_cons];exact Rd.cons_iff.2 ⟨(Rd.cons_iff.1 h).1,Rd.take n (Rd.cons_iff.1 h).2⟩
theorem xS (ctx:List Tm)(C:Option Addr)(cc:Nat)(w:World)(hsz:aG ctx≤1000000)(hrc:Rd w C 0 ctx) :
  Calls prog 76 #[.slice C ctx.length cc] w fun e w'=>e = .returned (.bool (tF ctx))∧Bw w w':=by
 have hlen:=aJ ctx;obtain ⟨bb,hbb⟩:∃b,tF ctx=b:=⟨_,rfl⟩;rw [hbb];replace hbb:=aD hbb;go_enter func76,ntmps76;go_wp2_with fail
 go_loopw [3] (fun jv wr=>∃j:Nat,j≤ctx.length∧jv = .int .i64 j∧Hid (∀i (hi:i<ctx.length),i<j→aE ctx[i]=true)∧Bw w wr) (fun jv _=>ctx.length - (intOf jv).toNat)
 case atStart=>exact ⟨0,Nat.zero_le _,rfl,aD (fun i hi h=>absurd h (by omega)),dV _ _⟩
 case round=>
  obtain ⟨j,hj,rfl,hval,hb⟩:=hrel;by_cases hlt:j<ctx.length
  ·obtain ⟨b,off,k',n',ks',A',c',rfl,hkj,hc1,hc2,hc3,hl',hr'⟩:=(hrc.below hb).at_ hlt;have hsz2:=bY (fG hlt);rw [hkj] at hsz2;simp only [Tm.size] at hsz2
   have H5:=aD hkj;have hlk:(j:Int)<(ctx.length:Int):=by omega
   cases hvv:aE (.mk k' n' ks') with
   | false=>
    have hv':=aD hvv;obtain rfl:bb=false:=by
     rw [← hbb.out];unfold tF
     rw [Bool.and_eq_false_iff];left
     rw [List.all_eq_false];exact ⟨ctx[j],fG hlt,by rw [hkj,hvv];decide⟩
    clear hkj hvv;go_wp2_with (go_at_call 46;refine (aN k' n' ks' A' c' _ (by omega) hr').mono ?_;rw [hv'.out];rintro e w2 ⟨rfl,hb2⟩)
    go_ret
    exact ⟨rfl,hb.trans (hb2.mono hb.size)⟩
   | true=>
    have hv':=aD hvv;clear hkj hvv;go_wp2_with (go_at_call 46;refine (aN k' n' ks' A' c' _ (by omega) hr').mono ?_;rw [hv'.out];rintro e w2 ⟨rfl,hb2⟩)
    refine ⟨⟨j+1,by omega,by go_num,aD (fun i hi hij=>?_),hb.trans (hb2.mono hb.size)⟩,by simp [intOf];omega⟩;by_cases hij2:i=j
    ·subst hij2;rw [H5.out];exact hv'.out
    ·exact hval.out i hi (by omega)
  ·have hje:j=ctx.length:=by omega
   subst hje;have hall:ctx.all (fun t=>aE t)=true:=by
    rw [List.all_eq_true];intro u hu;obtain ⟨i,hi,rfl⟩:=List.mem_iff_getElem.1 hu;exact hval.out i hi hi
   have hq:decide ((ctx.length:Int)≤8)=bb:=by
    rw [← hbb.out];unfold tF
    rw [hall,Bool.true_and];rw [decide_eq_decide];omega
   have hq2:decide (ctx.length≤8)=bb:=by
    rw [← hbb.out];unfold tF
    rw [hall,Bool.true_and]
   go_wp2_with fail
   go_ret
   exact ⟨rfl,hb⟩
theorem vX (N:Nat)(ctx:List Tm)(C:Option Addr)(cc:Nat)(co:Int)(w:World)(hs:ccR N ctx=some co)(hcc:ctx.length≤cc)(hsz:aG ctx≤1000000)(hrc:Rd w C 0 ctx) :
  Calls prog 77 #[.slice C ctx.length cc] w fun e w'=>e = .returned (.int .i64 co)∧Bw w w':=by
 have hlen:=aJ ctx;have hF:=aD (fun (w:World) (hrc:Rd w C 0 ctx)=>xS ctx C cc w hsz hrc);unfold ccR at hs
 cases hf:tF ctx with
 | false=>
  rw [hf,if_neg (by decide)] at hs;injection hs with hs;subst hs;rw [hf] at hF;clear hf;go_enter func77,ntmps77;go_wp2_with (go_at_call 76;refine (hF.out _ hrc).mono ?_;rintro e w1 ⟨rfl,hb1⟩)
  go_ret
  exact ⟨rfl,hb1⟩
 | true=>
  rw [hf,if_pos rfl] at hs;rw [hf] at hF;have hi:=uU hf;have hl8:=hi.2;have hvc:=aD hi.1;replace hs:=aD hs;clear hf hi;go_enter func77,ntmps77;go_wp2_with (go_at_call 76;refine (hF.out _ hrc).mono ?_;rintro e w1 ⟨rfl,hb1⟩)
  go_loopw [3] (fun jv wr=>∃j:Nat,j≤ctx.length∧jv = .int .i64 j∧Hid (ccG N ctx (ctx.length - j)=some co)∧Bw w wr) (fun jv _=>ctx.length - (intOf jv).toNat)
  case atStart=>exact ⟨0,Nat.zero_le _,rfl,hs,hb1⟩
  case round=>
   obtain ⟨j,hj,rfl,hinv,hb⟩:=hrel;by_cases hlt:j<ctx.length
   ·obtain ⟨b,off,k',n',ks',A',c',rfl,hkj,hc1,hc2,hc3,hl',hr'⟩:=(hrc.below hb).at_ hlt;have hvk:=hvc.out _ (fG hlt);rw [hkj] at hvk;have hlk:(j:Int)<(ctx.length:Int):=by omega
    have hst:=hinv.out;rw [show ctx.length - j=(ctx.length - j - 1)+1 by omega,ccG,show ctx.length - (ctx.length - j - 1+1)=j by omega,show ctx.getD j default = .mk k' n' ks' by rw [← hkj];simp [List.getD,iG hlt]] at hst;obtain ⟨cx,hcx⟩:∃cx,ctx.take j=cx:=⟨_,rfl⟩;have hcl:cx.length=j:=by rw [← hcx];simp;omega
    have hcv:∀u,u∈cx→aE u=true:=by rw [← hcx];exact fun u hu=>hvc.out u (List.mem_of_mem_take hu)
    have hrx:=fun (w':World) (h:Rd w' (some ⟨b,off,none⟩) 0 ctx)=>show Rd w' (some ⟨b,off,none⟩) 0 cx by rw [← hcx];exact h.take j
    replace hrx:=aD hrx;rw [hcx] at hst;clear hcx;cases hr0:pX (bZ N) cx (.mk k' n' ks') with
    | none=>rw [hr0] at hst;cases hst
    | some rr=>
     have hS:=aD (fun (w:World) (hrc:Rd w (some ⟨b,off,none⟩) 0 cx) (hra:Rd w A' 0 ks')=>eE (oG N) cx (some ⟨b,off,none⟩) cc k' n' ks' A' c' rr w hr0 hvk hcv (by omega) hrc hra);rw [hcl] at hS;rw [hr0] at hst;have hjc:j≤cc:=by omega
     have hjc2:(j:Int)≤(cc:Int):=by omega
     cases rr with
     | no b2=>
      injection hst with hst;subst hst;have qb:=fO b2;clear hr0 hvk hcv hkj;go_upto_region 6 with fail
      obtain ⟨y1,y2,y3⟩:=pW hc1 hc2 hc3;clear hc1 hc2 hc3;have kwwr:=hb;refine fE wr [8,9,10,11,12] [0,1,2,3,4,5,6] 13 6 (lT:=[_,_,_,_,_,_,_]) ?_;intro q0 bq0;refine cL (aD ?_);refine bG 7 ?_
      ·go_wp2_with (go_at_call 111;refine (hS.out _ (hrx.out _ ((hrc.below kwwr).below bq0)) (hr'.below bq0)).mono ?_;rintro e q1 ⟨l3,rfl,hbq1⟩)
       refine bJ bq0 hbq1 ?_;intro bq1 lq1;refine jW [8,9,10] 2 (lT:=[_,_,_]) ?_;refine cL (aD ?_);refine cY [11,12] (lB:=[_,_]) ?_;refine gS (aD ?_);have kwq1:=kwwr.trans (bq1.mono kwwr.size);have kwrq1:=bq1;go_wp2_with fail
       go_ret
       exact ⟨rfl,kwq1⟩
     | ok l2=>
      have hst':=aD (show ccG N ctx (ctx.length - (j+1))=some co from hst);clear hr0 hvk hcv hkj hst;go_upto_region 6 with fail
      obtain ⟨y1,y2,y3⟩:=pW hc1 hc2 hc3;clear hc1 hc2 hc3;have kwwr:=hb;refine fE wr [8,9,10,11,12] [0,1,2,3,4,5,6] 13 6 (lT:=[_,_,_,_,_,_,_]) ?_;intro q0 bq0;refine cL (aD ?_);refine bG 7 ?_
      ·go_wp2_with (go_at_call 111;refine (hS.out _ (hrx.out _ ((hrc.below kwwr).below bq0)) (hr'.below bq0)).mono ?_;rintro e q1 ⟨rfl,hbq1⟩)
       refine bJ bq0 hbq1 ?_;intro bq1 lq1;refine jW [8,9,10] 2 (lT:=[_,_,_]) ?_;refine cL (aD ?_);refine cY [11,12] (lB:=[_,_]) ?_;refine gS (aD ?_);have kwq1:=kwwr.trans (bq1.mono kwwr.size);have kwrq1:=bq1;go_wp2_with fail
       exact ⟨⟨j+1,by omega,by go_num,hst',kwq1⟩,by simp [intOf];omega⟩
   ·have hje:j=ctx.length:=by omega
    subst hje;obtain rfl:co=0:=by have:=hinv.out;rw [Nat.sub_self,ccG] at this;injection this with this;exact this.symm
    go_wp2_with fail
    go_ret
    exact ⟨rfl,hb⟩
theorem aCy (k n:Int)(ks:List Tm)(A:Option Addr)(c:Nat)(w:World)(hsz:aG ks≤1000000)(hr:Rd w A 0 ks) :
  Calls prog 79 #[.agg (Ro k n A ks.length c),.int .i64 0] w (aOc w k n ks):=by
 go_enter func79,ntmps79;go_wp2_with (go_at_call 58;refine (dF _ k n ks A c _ (nH _) (by omega) ((hr.alloc _).alloc _)).mono ?_;rintro e w1 ⟨A3,c3,rfl,hl3,hf3,hb1⟩;have hZ1:=bA hb1;have g1:Bw w w1:=bW bw2 hb1;obtain ⟨d0,d1,d2,e0,e1,e2,lz⟩:=cZ hZ1)
 refine bodyPost_ret (v:=.tuple #[.agg (Ro k n A3 ks.length c3),.int .i64 0]) (by simp [results,results79,go_sem,d0,d1,d2]) rfl ⟨A3,c3,rfl,hl3,?_,?_⟩
 ·exact (mW hf3).rd
 ·exact bV g1
theorem aCs (k n:Int)(A:Option Addr)(l c:Nat)(co:Int)(hc:co≠0)(w:World) :
  Calls prog 79 #[.agg (Ro k n A l c),.int .i64 co] w fun e w'=>e = .returned (.tuple #[.agg Zr,.int .i64 co])∧Bw w w':=by
 have qc:(co != 0)=true:=by simpa using hc
 have gB:Bw w ((w.alloc (.cells (Ro k n A l c) 25)).alloc (.cells Zr 25)):=bw2;go_enter func79,ntmps79;go_wp2_with fail
 refine bodyPost_ret (v:=.tuple #[.agg Zr,.int .i64 co]) (by simp [results,results79,go_sem]) rfl ⟨rfl,?_⟩;first
  | exact gB
  | exact ((gB.setCell (by simp<;>omega) _).setCell (by simp<;>omega) _).setCell (by simp<;>omega) _
def GtY (w:World):Int × Option Tm→Ending→World→Prop
 | (co,some (.mk k n ks))=>aOc w k n ks
 | (co,none)=>fun e w'=>e = .returned (.tuple #[.agg Zr,.int .i64 co])∧Bw w w'
theorem uO (N:Nat)(ctx:List Tm)(C:Option Addr)(cc:Nat)(k n:Int)(ks:List Tm)(A:Option Addr)(c:Nat)(R:Int × Option Tm)(w:World)(hs:itR N ctx (.mk k n ks)=some R)(hcc:ctx.length≤cc)(hszc:aG ctx≤1000000)(hsz:aG ks≤1000000)(hrc:Rd w C 0 ctx)(hr:Rd w A 0 ks) :
  Calls prog 49 #[.slice C ctx.length cc,.agg (Ro k n A ks.length c)] w (GtY w R):=by
 have hlen:=aJ ks;have hF:=aD (fun (w:World) (hrc:Rd w C 0 ctx)=>xS ctx C cc w hszc hrc);unfold itR at hs
 cases hf:tF ctx with
 | false=>
  rw [if_neg (by rw [hf];rintro ⟨h,-⟩;cases h)] at hs;injection hs with hs;subst hs;rw [hf] at hF;clear hf;go_enter func49,ntmps49;go_wp2_with (first
   | (go_at_call 76;refine (hF.out _ ((hrc.alloc _).alloc _)).mono ?_;rintro e w1 ⟨rfl,hb1⟩;have hT1:=cM hb1;have hZ1:=bA hb1;have g1:Bw w w1:=bW bw2 hb1;obtain ⟨x0,x1,x2⟩:=hT1.three;obtain ⟨d0,d1,d2,e0,e1,e2,lz⟩:=cZ hZ1;have tok:=trivial))
  refine bodyPost_ret (v:=.tuple #[.agg Zr,.int .i64 3]) (by simp [results,results49,go_sem,d0,d1,d2]) rfl ⟨rfl,?_⟩;exact bV g1
 | true=>
  rw [hf] at hF;cases hv:aE (.mk k n ks) with
  | false=>
   rw [if_neg (by rw [hv];rintro ⟨-,h⟩;cases h)] at hs;injection hs with hs;subst hs;have hv':=aD hv;clear hf hv;go_enter func49,ntmps49;go_wp2_with (first
    | (go_at_call 46;have _t:=tok;refine (aN k n ks A c _ (by omega) (hr.below g1)).mono ?_;rw [hv'.out];rintro e w2 ⟨rfl,hb2⟩;have hT2:=hT1.keep hb2;have hZ2:=hZ1.keep hb2;have g2:=g1.trans (hb2.mono g1.size);clear x0 x1 x2 d0 d1 d2 e0 e1 e2 lz;obtain ⟨x0,x1,x2⟩:=hT2.three;obtain ⟨d0,d1,d2,e0,e1,e2,lz⟩:=cZ hZ2;clear tok;have tok2:=trivial)
    | (go_at_call 76;refine (hF.out _ ((hrc.alloc _).alloc _)).mono ?_;rintro e w1 ⟨rfl,hb1⟩;have hT1:=cM hb1;have hZ1:=bA hb1;have g1:Bw w w1:=bW bw2 hb1;obtain ⟨x0,x1,x2⟩:=hT1.three;obtain ⟨d0,d1,d2,e0,e1,e2,lz⟩:=cZ hZ1;have tok:=trivial))
   refine bodyPost_ret (v:=.tuple #[.agg Zr,.int .i64 3]) (by simp [results,results49,go_sem,d0,d1,d2]) rfl ⟨rfl,?_⟩;exact bV g2
  | true=>
   rw [if_pos ⟨hf,hv⟩] at hs;have hv':=aD hv;have hi:=uU hf;cases hcg:ccG N ctx ctx.length with
   | none=>rw [hcg] at hs;cases hs
   | some co=>
    rw [hcg] at hs;simp only at hs
    have hC:=aD (fun (w:World) (hrc:Rd w C 0 ctx)=>vX N ctx C cc co w (by unfold ccR;rw [if_pos hf];exact hcg) hcc hszc hrc);by_cases hc0:co=0
    ·rw [if_pos hc0] at hs;subst hc0;cases hin:bZ N ctx (.mk k n ks) with
     | none=>rw [hin] at hs;cases hs
     | some rr=>
      rw [hin] at hs;have hI:=aD (fun (w:World) (hrc:Rd w C 0 ctx) (hr:Rd w A 0 ks)=>oG N ctx k n ks rr hin hv hi.1 (by omega) C cc A c w hrc hr);cases rr with
      | no b=>
       injection hs with hs;subst hs;clear hf hv hcg hin hi;go_enter func49,ntmps49;go_wp2_with (first
        | (go_at_call 79;have _t:=tok4;refine (aCs 0 0 none 0 0 _ (aJs b) _).mono ?_;rintro e w5 ⟨rfl,hb5⟩;have hZ5:=hZ4.keep hb5;have g5:=g4.trans (hb5.mono g4.size);clear d0 d1 d2 e0 e1 e2 lz;obtain ⟨d0,d1,d2,e0,e1,e2,lz⟩:=cZ hZ5)
        | (go_at_call 78;have _t:=tok3;refine (hI.out _ (hrc.below g3) (hr.below g3)).mono ?_;rintro e w4 ⟨rfl,hb4⟩;have hZ4:=(hZ3.keep hb4).alloc (.cells Zr 25);have hG4:=aC w4 25 Zr rfl;have g4:=(g3.trans (hb4.mono g3.size)).alloc (by have:=g3.size;have:=hb4.size;omega) (.cells Zr 25);clear x0 x1 x2 d0 d1 d2 e0 e1 e2 lz;obtain ⟨x0,x1,x2⟩:=hG4.three;obtain ⟨d0,d1,d2,e0,e1,e2,lz⟩:=cZ hZ4;clear tok3;have tok4:=trivial)
        | (go_at_call 77;have _t:=tok2;refine (hC.out _ (hrc.below g2)).mono ?_;rintro e w3 ⟨rfl,hb3⟩;have hT3:=hT2.keep hb3;have hZ3:=hZ2.keep hb3;have g3:=g2.trans (hb3.mono g2.size);clear x0 x1 x2 d0 d1 d2 e0 e1 e2 lz;obtain ⟨x0,x1,x2⟩:=hT3.three;obtain ⟨d0,d1,d2,e0,e1,e2,lz⟩:=cZ hZ3;clear tok2;have tok3:=trivial)
        | (go_at_call 46;have _t:=tok;refine (aN k n ks A c _ (by omega) (hr.below g1)).mono ?_;rw [hv'.out];rintro e w2 ⟨rfl,hb2⟩;have hT2:=hT1.keep hb2;have hZ2:=hZ1.keep hb2;have g2:=g1.trans (hb2.mono g1.size);clear x0 x1 x2 d0 d1 d2 e0 e1 e2 lz;obtain ⟨x0,x1,x2⟩:=hT2.three;obtain ⟨d0,d1,d2,e0,e1,e2,lz⟩:=cZ hZ2;clear tok;have tok2:=trivial)
        | (go_at_call 76;refine (hF.out _ ((hrc.alloc _).alloc _)).mono ?_;rintro e w1 ⟨rfl,hb1⟩;have hT1:=cM hb1;have hZ1:=bA hb1;have g1:Bw w w1:=bW bw2 hb1;obtain ⟨x0,x1,x2⟩:=hT1.three;obtain ⟨d0,d1,d2,e0,e1,e2,lz⟩:=cZ hZ1;have tok:=trivial))
       refine bodyPost_ret (v:=.tuple #[.agg Zr,.int .i64 (gI b)]) (by simp [results,results49,go_sem,d0,d1,d2]) rfl ⟨rfl,?_⟩;exact bV g5
      | ok s=>
       injection hs with hs;subst hs;obtain ⟨k4,n4,s4⟩:=s;have hv4:=aD (cO hin);have hz4:aG s4≤1000000:=by have:=aI (cO hin);omega
       clear hf hv hcg hin hi;go_enter func49,ntmps49;go_wp2_with (first
        | (go_at_call 79;have _t:=tok4;refine (aCy k4 n4 s4 A4 c4 _ hz4 r5).mono ?_;rintro e w5 ⟨A5,c5,rfl,hl5,r6,hb5⟩;have hZ5:=hZ4.keep hb5;have g5:=g4.trans (hb5.mono g4.size);clear d0 d1 d2 e0 e1 e2 lz;obtain ⟨d0,d1,d2,e0,e1,e2,lz⟩:=cZ hZ5)
        | (go_at_call 78;have _t:=tok3;refine (hI.out _ (hrc.below g3) (hr.below g3)).mono ?_;rintro e w4 ⟨A4,c4,rfl,hl4,r4,hb4⟩;have hZ4:=(hZ3.keep hb4).alloc (.cells (Ro k4 n4 A4 s4.length c4) 25);have hG4:=aC w4 25 (Ro k4 n4 A4 s4.length c4) rfl;have g4:=(g3.trans (hb4.mono g3.size)).alloc (by have:=g3.size;have:=hb4.size;omega) (.cells (Ro k4 n4 A4 s4.length c4) 25);have r5:=r4.alloc (.cells (Ro k4 n4 A4 s4.length c4) 25);clear x0 x1 x2 d0 d1 d2 e0 e1 e2 lz;obtain ⟨x0,x1,x2⟩:=hG4.three;obtain ⟨d0,d1,d2,e0,e1,e2,lz⟩:=cZ hZ4;clear tok3;have tok4:=trivial)
        | (go_at_call 77;have _t:=tok2;refine (hC.out _ (hrc.below g2)).mono ?_;rintro e w3 ⟨rfl,hb3⟩;have hT3:=hT2.keep hb3;have hZ3:=hZ2.keep hb3;have g3:=g2.trans (hb3.mono g2.size);clear x0 x1 x2 d0 d1 d2 e0 e1 e2 lz;obtain ⟨x0,x1,x2⟩:=hT3.three;obtain ⟨d0,d1,d2,e0,e1,e2,lz⟩:=cZ hZ3;clear tok2;have tok3:=trivial)
        | (go_at_call 46;have _t:=tok;refine (aN k n ks A c _ (by omega) (hr.below g1)).mono ?_;rw [hv'.out];rintro e w2 ⟨rfl,hb2⟩;have hT2:=hT1.keep hb2;have hZ2:=hZ1.keep hb2;have g2:=g1.trans (hb2.mono g1.size);clear x0 x1 x2 d0 d1 d2 e0 e1 e2 lz;obtain ⟨x0,x1,x2⟩:=hT2.three;obtain ⟨d0,d1,d2,e0,e1,e2,lz⟩:=cZ hZ2;clear tok;have tok2:=trivial)
        | (go_at_call 76;refine (hF.out _ ((hrc.alloc _).alloc _)).mono ?_;rintro e w1 ⟨rfl,hb1⟩;have hT1:=cM hb1;have hZ1:=bA hb1;have g1:Bw w w1:=bW bw2 hb1;obtain ⟨x0,x1,x2⟩:=hT1.three;obtain ⟨d0,d1,d2,e0,e1,e2,lz⟩:=cZ hZ1;have tok:=trivial))
       refine bodyPost_ret (v:=.tuple #[.agg (Ro k4 n4 A5 s4.length c5),.int .i64 0]) (by simp [results,results49,go_sem,d0,d1,d2]) rfl ⟨A5,c5,rfl,hl5,gH hZ5 hv4.out r6 _ _ _,?_⟩;exact bV g5
    ·rw [if_neg hc0] at hs;injection hs with hs;subst hs;have qc:(co != 0)=true:=by simpa using hc0
     clear hf hv hcg hi hc0;go_enter func49,ntmps49;go_wp2_with (first
      | (go_at_call 77;have _t:=tok2;refine (hC.out _ (hrc.below g2)).mono ?_;rintro e w3 ⟨rfl,hb3⟩;have hT3:=hT2.keep hb3;have hZ3:=hZ2.keep hb3;have g3:=g2.trans (hb3.mono g2.size);clear x0 x1 x2 d0 d1 d2 e0 e1 e2 lz;obtain ⟨x0,x1,x2⟩:=hT3.three;obtain ⟨d0,d1,d2,e0,e1,e2,lz⟩:=cZ hZ3;clear tok2;have tok3:=trivial)
      | (go_at_call 46;have _t:=tok;refine (aN k n ks A c _ (by omega) (hr.below g1)).mono ?_;rw [hv'.out];rintro e w2 ⟨rfl,hb2⟩;have hT2:=hT1.keep hb2;have hZ2:=hZ1.keep hb2;have g2:=g1.trans (hb2.mono g1.size);clear x0 x1 x2 d0 d1 d2 e0 e1 e2 lz;obtain ⟨x0,x1,x2⟩:=hT2.three;obtain ⟨d0,d1,d2,e0,e1,e2,lz⟩:=cZ hZ2;clear tok;have tok2:=trivial)
      | (go_at_call 76;refine (hF.out _ ((hrc.alloc _).alloc _)).mono ?_;rintro e w1 ⟨rfl,hb1⟩;have hT1:=cM hb1;have hZ1:=bA hb1;have g1:Bw w w1:=bW bw2 hb1;obtain ⟨x0,x1,x2⟩:=hT1.three;obtain ⟨d0,d1,d2,e0,e1,e2,lz⟩:=cZ hZ1;have tok:=trivial))
     refine bodyPost_ret (v:=.tuple #[.agg Zr,.int .i64 co]) (by simp [results,results49,go_sem,d0,d1,d2]) rfl ⟨rfl,?_⟩;exact bV g3
mutual
def eN (N:Nat):List Tm→Tm→Option (Rs (List Tm))
 | ctx,.mk k n ks=>bd (bZ N ctx (.mk k n ks)) fun s=>bd (fX N ctx k (aL ks 0) 0 ks) fun r=>some (.ok (s::r))
def fX (N:Nat):List Tm→Int→Tm→Nat→List Tm→Option (Rs (List Tm))
 | _,_,_,_,[]=>some (.ok [])
 | ctx,k,t0,i,t::ts=>bd (eN N (if ((i:Int)==1 && binds k)=true then ctx++[t0] else ctx) t) fun a=>bd (fX N ctx k t0 (i+1) ts) fun b=>some (.ok (a++b))
end
theorem fK (N:Nat):(∀(t:Tm) (ctx ns:List Tm),eN N ctx t=some (.ok ns)→ns.length=t.size∧∀u,u∈ns→aE u=true)∧
  (∀ (ts : List Tm) (ctx : List Tm) (k : Int) (t0 : Tm) (i : Nat) (ns : List Tm), fX N ctx k t0 i ts = some (.ok ns) → ns.length = aG ts ∧ ∀ u, u ∈ ns → aE u = true) := by
 refine bM (fun k n ks ih ctx ns h=>?_) (fun ctx k t0 i ns h=>?_) (fun t ts h1 h2 ctx k t0 i ns h=>?_)
 ·rw [eN] at h;rcases cB h with ⟨b,_,hb⟩|⟨s,hs,h⟩
  ·cases hb
  rcases cB h with ⟨b,_,hb⟩|⟨r,hr,h⟩
  ·cases hb
  injection h with h;injection h with h;subst h;obtain ⟨e1,e2⟩:=ih _ _ _ _ _ hr;refine ⟨by simp only [List.length_cons,Tm.size,e1],fun u hu=>?_⟩;rcases List.mem_cons.1 hu with rfl|hu
  ·exact cO hs
  ·exact e2 u hu
 ·rw [fX] at h;injection h with h;injection h with h;subst h;exact ⟨rfl,fun u hu=>by cases hu⟩
 ·rw [fX] at h;rcases cB h with ⟨b,_,hb⟩|⟨a,ha,h⟩
  ·cases hb
  rcases cB h with ⟨b,_,hb⟩|⟨r,hr,h⟩
  ·cases hb
  injection h with h;injection h with h;subst h;obtain ⟨e1,e2⟩:=h1 _ _ ha;obtain ⟨e3,e4⟩:=h2 _ _ _ _ _ hr;refine ⟨by simp [aG,e1,e3],fun u hu=>?_⟩;rcases List.mem_append.1 hu with hu|hu
  ·exact e2 u hu
  ·exact e4 u hu
theorem aTo (x:Option (Rs (List Tm))):bd x (fun b=>some (.ok ([]++b)))=x:=by
 cases x with
 | none=>rfl
 | some r=>cases r<;>rfl
theorem aKn {α β γ:Type}(x:Option (Rs α))(f:α→Option (Rs β))(g:β→Option (Rs γ)):bd (bd x f) g=bd x (fun a=>bd (f a) g):=by
 cases x with
 | none=>rfl
 | some r=>cases r<;>rfl
def aJz (p:Nat→Prop)(w:World)(ts:List Tm)(e:Ending)(w':World):Prop:=∃D d,e = .returned (.slice D ts.length d)∧RdP (fun b=>p b∨w.heap.size≤b) w' D 0 ts∧Bw w w'
theorem vD (ctx:List Tm)(C:Option Addr)(cc:Nat)(k n:Int)(ks:List Tm)(A:Option Addr)(c:Nat)(w:World)(hm:ctx.length≤1000)(hl:ks.length≤9223372036854775807)(p:Nat→Prop)(hpw:∀b,p b→b<w.heap.size)(hrc:RdP p w C 0 ctx)(hra:RdP p w A 0 ks) :
  Calls prog 81 #[.slice C ctx.length cc,.agg (Ro k n A ks.length c)] w (aJz p w (ctx++[.mk k n ks])):=by
 go_enter func81,ntmps81;go_upto_region 1 with fail
 refine aQn (show Blk _ w.heap.size (Ro k n A ks.length c) from (aC _ 25 _ rfl)) bw1 ?_;intro wx hT gx;have rcx:=hrc.below gx;have hpx:∀b,p b→b<wx.heap.size:=fun b hb=>kT (hpw b hb) gx.size
 have rax:=hra.below gx;obtain ⟨v0,v1,v2⟩:=kZ hT;refine fE wx [5,6] [1,3] 7 5 (lT:=[_,_]) ?_;intro q0 bq0;refine cL (aD ?_);refine oC 0 4 ?_ ?_
 ·go_wp2_with fail
  refine bI ?_;intro q1 hn;have hbq1:Bw q0 q1:=by rw [hn];exact bw1
  have Eq1:Emp q1 q0.heap.size:=by rw [hn];exact ⟨heap_alloc_new _ _,by simp⟩
  have seq1:q0.heap.size<q1.heap.size:=by rw [hn];simp
  clear hn;refine bJ bq0 hbq1 ?_;intro bq1 lq1;refine oC 2 4 ?_ ?_
  ·have lgq2:q0.heap.size<q1.heap.size:=Eq1.2;refine cV (p:=p) (g:=q0.heap.size) (cl:=cc) Eq1.1 (rcx.below bq1) (fun b hb=>⟨kT (hpx b hb) bq1.size,by have:=bq0.size;have:=hpx b hb;omega⟩) rfl (by omega) rfl _ _ rfl rfl rfl ?_;intro C2 c2 q2 hPq2 hgq2;have hbq2:Below q0.heap.size q1 q2:=⟨hgq2.os,hgq2.tape,hgq2.output,hgq2.size,fun k hk=>hgq2.block k (by omega) (fun e=>by injection e;omega)⟩;have bq2:Bw wx q2:=bq1.trans (hbq2.mono bq0.size);have lq2:=hbq2.size;refine aH bq2 ?_;refine bG 4 ?_
   ·go_wp2_with fail
    refine eQ ?_;intro q3 hbq3 zq3 seq3;have Pq3:=hPq2.below hbq3;refine bJ bq2 hbq3 ?_;intro bq3 lq3;refine cY [5,6] (lB:=[_,_]) ?_;have lB:q0.heap.size≤q3.heap.size:=by have:=lq3;omega
    have lA:wx.heap.size≤q0.heap.size:=bq0.size;refine cC (lo:=p) (B:=q0.heap.size) (q:=p) Pq3 lB (rax.below bq3) (fun b hb=>⟨.inl hb,kT (hpx b hb) bq3.size,fun e=>by have:=Pq3.ownB b e;have:=hpx b hb;omega⟩) hl rfl (by omega) q2.heap.size 1 zq3 rfl _ _ rfl rfl rfl ?_;intro A9 c9 w9 hp9 hb9 hg9 hn9;obtain ⟨A8,c8,e8,r8⟩:=hp9.rd;injection e8 with e81 e82 e83;subst e81 e83;have hlen9:(ctx++[Tm.mk k n ks]).length=ctx.length+1:=by simp
    refine gS (aD ?_);go_wp2_with fail
    go_ret
    exact ⟨A9,c9,by rw [hlen9];rfl,r8.mono (fun b hb=>hb.imp id (fun h=>by have:=gx.size;omega)),(gx.trans (bq3.mono gx.size)).trans (hb9.mono (by have:=gx.size;omega))⟩
  ·go_wp2_with fail
   refine eQ ?_;intro q4 hbq4 zq4 seq4;have Eq4:=Eq1.below hbq4;refine bJ bq1 hbq4 ?_;intro bq4 lq4;refine bG 2 ?_
   ·have lgq5:q0.heap.size<q4.heap.size:=Eq4.2;refine cV (p:=p) (g:=q0.heap.size) (cl:=cc) Eq4.1 (rcx.below bq4) (fun b hb=>⟨kT (hpx b hb) bq4.size,by have:=bq0.size;have:=hpx b hb;omega⟩) rfl (by omega) rfl _ _ rfl rfl rfl ?_;intro C2 c2 q5 hPq5 hgq5;have hbq5:Below q0.heap.size q4 q5:=⟨hgq5.os,hgq5.tape,hgq5.output,hgq5.size,fun k hk=>hgq5.block k (by omega) (fun e=>by injection e;omega)⟩;have Kq5:=zq4.grown hgq5 (by simp;omega);have bq5:Bw wx q5:=bq4.trans (hbq5.mono bq0.size);have lq5:=hbq5.size;refine aH bq5 ?_;refine cY [5,6] (lB:=[_,_]) ?_;have lB:q0.heap.size≤q5.heap.size:=by have:=lq5;omega
    have lA:wx.heap.size≤q0.heap.size:=bq0.size;refine cC (lo:=p) (B:=q0.heap.size) (q:=p) hPq5 lB (rax.below bq5) (fun b hb=>⟨.inl hb,kT (hpx b hb) bq5.size,fun e=>by have:=hPq5.ownB b e;have:=hpx b hb;omega⟩) hl rfl (by omega) q1.heap.size 1 Kq5 rfl _ _ rfl rfl rfl ?_;intro A9 c9 w9 hp9 hb9 hg9 hn9;obtain ⟨A8,c8,e8,r8⟩:=hp9.rd;injection e8 with e81 e82 e83;subst e81 e83;have hlen9:(ctx++[Tm.mk k n ks]).length=ctx.length+1:=by simp
    refine gS (aD ?_);go_wp2_with fail
    go_ret
    exact ⟨A9,c9,by rw [hlen9];rfl,r8.mono (fun b hb=>hb.imp id (fun h=>by have:=gx.size;omega)),(gx.trans (bq5.mono gx.size)).trans (hb9.mono (by have:=gx.size;omega))⟩
 ·go_wp2_with fail
  refine eQ ?_;intro q6 hbq6 zq6 seq6;refine bJ bq0 hbq6 ?_;intro bq6 lq6;refine bG 0 ?_
  ·go_wp2_with fail
   refine bI ?_;intro q7 hn;have hbq7:Bw q6 q7:=by rw [hn];exact bw1
   have Eq7:Emp q7 q6.heap.size:=by rw [hn];exact ⟨heap_alloc_new _ _,by simp⟩
   have seq7:q6.heap.size<q7.heap.size:=by rw [hn];simp
   clear hn;have Kq7:=zq6.keep hbq7;refine bJ bq6 hbq7 ?_;intro bq7 lq7;refine bG 2 ?_
   ·have lgq8:q6.heap.size<q7.heap.size:=Eq7.2;refine cV (p:=p) (g:=q6.heap.size) (cl:=cc) Eq7.1 (rcx.below bq7) (fun b hb=>⟨kT (hpx b hb) bq7.size,by have:=bq6.size;have:=hpx b hb;omega⟩) rfl (by omega) rfl _ _ rfl rfl rfl ?_;intro C2 c2 q8 hPq8 hgq8;have hbq8:Below q6.heap.size q7 q8:=⟨hgq8.os,hgq8.tape,hgq8.output,hgq8.size,fun k hk=>hgq8.block k (by omega) (fun e=>by injection e;omega)⟩;have Kq8:=Kq7.grown hgq8 (by simp;omega);have bq8:Bw wx q8:=bq7.trans (hbq8.mono bq6.size);have lq8:=hbq8.size;refine aH bq8 ?_;refine cY [5,6] (lB:=[_,_]) ?_;have lB:q6.heap.size≤q8.heap.size:=by have:=lq8;omega
    have lA:wx.heap.size≤q6.heap.size:=bq6.size;refine cC (lo:=p) (B:=q6.heap.size) (q:=p) hPq8 lB (rax.below bq8) (fun b hb=>⟨.inl hb,kT (hpx b hb) bq8.size,fun e=>by have:=hPq8.ownB b e;have:=hpx b hb;omega⟩) hl rfl (by omega) q0.heap.size 1 Kq8 rfl _ _ rfl rfl rfl ?_;intro A9 c9 w9 hp9 hb9 hg9 hn9;obtain ⟨A8,c8,e8,r8⟩:=hp9.rd;injection e8 with e81 e82 e83;subst e81 e83;have hlen9:(ctx++[Tm.mk k n ks]).length=ctx.length+1:=by simp
    refine gS (aD ?_);go_wp2_with fail
    go_ret
    exact ⟨A9,c9,by rw [hlen9];rfl,r8.mono (fun b hb=>hb.imp id (fun h=>by have:=gx.size;omega)),(gx.trans (bq8.mono gx.size)).trans (hb9.mono (by have:=gx.size;omega))⟩
def Own2 (w:World)(v v':Value):Prop:=∀b,b<w.heap.size→v.ownBlock≠some b→v'.ownBlock≠some b
theorem Own2.refl (w:World)(v:Value):Own2 w v v:=fun _ _ h=>h
theorem Own2.trans {w w1:World}{v v1 v2:Value}(h:Own2 w v v1)(hs:w.heap.size≤w1.heap.size)(k:Own2 w1 v1 v2):Own2 w v v2:=fun b hb hv=>k b (by omega) (h b hb hv)
theorem gO {v vv:Value}{w w1 w2:World}(h:w.grownBy w1 v.ownBlock)(o:Own2 w v vv)(k:w1.grownBy w2 vv.ownBlock):w.grownBy w2 v.ownBlock:=
 ⟨k.os.trans h.os,k.tape.trans h.tape,k.output.trans h.output,Nat.le_trans h.size k.size,fun i hi hne=>(k.block i (kT hi h.size) (fun e=>(o i hi (fun e2=>hne e2.symm)) e.symm)).trans (h.block i hi hne)⟩
def zT (w:World)(v:Value)(b:Nat):Prop:=b<w.heap.size∧v.ownBlock≠some b
theorem RdP.oth {w w1:World}{v v1:Value}{A:Option Addr}{ks:List Tm}(h:RdP (zT w v) w A 0 ks)(hg:w.grownBy w1 v.ownBlock)(ho:Own2 w v v1):RdP (zT w1 v1) w1 A 0 ks:=
 (h.grown hg (fun b hb e=>hb.2 e.symm)).mono (fun b hb=>⟨kT hb.1 hg.size,ho b hb.1 hb.2⟩)
theorem jV {w w1:World}{v:Value}(h:Bw w w1):w.grownBy w1 v.ownBlock:=aR (gG _ _) h
def aTg (v:Value)(B:Nat)(w:World)(ts:List Tm):Rs (List Tm)→Ending→World→Prop
 | .ok ns=>fun e w'=>∃A c,e = .returned (.tuple #[.slice A (ts++ns).length c,.int .i64 0])∧PartR (fun _=>False) B w' (.slice A (ts++ns).length c) (ts++ns)∧w.grownBy w' v.ownBlock∧Own2 w v (.slice A (ts++ns).length c)
 | .no b=>fun e w'=>∃A l c,e = .returned (.tuple #[.slice A l c,.int .i64 (gI b)])∧w.grownBy w' v.ownBlock
theorem aJw {N:Nat}{ctx:List Tm}{t s:Tm}(h:bZ N ctx t=some (.ok s)):ctx.length≤20:=by
 cases N with
 | zero=>cases h
 | succ N=>
  rw [bZ] at h;split at h
  ·rename_i h';exact h'.2
  ·injection h with h;cases h
theorem PartR.oth {B:Nat}{w:World}{v:Value}{ts:List Tm}(h:PartR (fun _=>False) B w v ts):∀g,v.ownBlock=some g→B≤g∧g<w.heap.size:=fun g hg=>by
 obtain ⟨xs,h1,_⟩:=h;exact h1.lt g hg
theorem aHo (N B M:Nat):∀(ctx:List Tm) (k n:Int) (ks:List Tm) (r:Rs (List Tm)) (C:Option Addr) (cc:Nat) (A:Option Addr) (c:Nat) (ts:List Tm) (V:Option Addr) (cv:Nat) (w:World),aG ks<M→eN N ctx (.mk k n ks)=some r→aE (.mk k n ks)=true→(∀u,u∈ctx→aE u=true)→ctx.length≤21→ts.length+aG ks+1≤100000→B≤w.heap.size→RdP (zT w (.slice V ts.length cv)) w C 0 ctx→RdP (zT w (.slice V ts.length cv)) w A 0 ks→PartR (fun _=>False) B w (.slice V ts.length cv) ts→
  Calls prog 50 #[.slice V ts.length cv,.slice C ctx.length cc,.agg (Ro k n A ks.length c)] w (aTg (.slice V ts.length cv) B w ts r):=by
 induction M with
 | zero=>intro ctx k n ks r C cc A c ts V cv w hN;exact absurd hN (Nat.not_lt_zero _)
 | succ M ih=>
 intro ctx k n ks r C cc A c ts V cv w hM hs hv hvc hcl hsz hB hrc hr hP;have hszk:=aI hv;have hlen:=aJ ks;rw [eN] at hs;rcases cB hs with ⟨b,h1,rfl⟩|⟨⟨k1,n1,s1⟩,h1,hs⟩
 ·have hI:=aD (fun (w:World) (hrc:Rd w C 0 ctx) (hr:Rd w A 0 ks)=>gtz (oG N ctx k n ks _ h1 hv hvc hcl C cc A c w hrc hr));have qb:=fO b;clear hs h1 hv hvc ih;go_enter func50,ntmps50;go_wp2_with (go_at_call 78;refine (hI.out _ (hrc.rd.alloc _) (hr.rd.alloc _)).mono ?_;rintro e w1 ⟨k1,n1,A1,l1,c1,rfl,hb1⟩;have g1:Bw w w1:=bW bw1 hb1)
  go_ret2
  exact ⟨V,ts.length,cv,rfl,jV (g1.alloc g1.size _)⟩
 ·have hI:=aD (fun (w:World) (hrc:Rd w C 0 ctx) (hr:Rd w A 0 ks)=>(oG N ctx k n ks _ h1 hv hvc hcl C cc A c w hrc hr:Calls _ _ _ _ (GtZ w (.ok (.mk k1 n1 s1)))));have hcl20:=aJw h1;have hs1z:=aI (cO h1);have hv':=aD hv;have hvc':=aD hvc;replace hs:=aD hs;replace ih:=aD ih;clear h1 hv hvc;go_enter func50,ntmps50;go_wp2_with (first
   | (at_builtin;have _t:=tok2;refine lM ?_;intro wx hwx;have hKx:Blk wx w2.heap.size (Ro k1 n1 A2 s1.length c2):=(by rw [hwx];exact aC _ 25 _ rfl);have hTx:Blk wx w.heap.size (Ro k n A ks.length c):=(by rw [hwx];exact hT2.alloc _);have gx:Bw w wx:=(by rw [hwx];exact g2.alloc g2.size _);have rfx:RdP (fun b=>(w1.alloc (.cells (Ro k1 n1 A1 s1.length c1) 25)).heap.size≤b∧b<w2.heap.size) wx A2 0 s1:=(by rw [hwx];exact hf2.rdp.alloc _);have sx:w2.heap.size<wx.heap.size:=(by rw [hwx];simp);clear hwx;have hPx:=hP.below gx;have s1a:w.heap.size<(w1.alloc (.cells (Ro k1 n1 A1 s1.length c1) 25)).heap.size:=(by have:=hb1.size;simp at this⊢;omega);refine cC (lo:=fun _=>False) (B:=B) (q:=fun b=>(w1.alloc (.cells (Ro k1 n1 A1 s1.length c1) 25)).heap.size≤b∧b<w2.heap.size) hPx (by omega) rfx (fun b hb=>⟨.inr (by have:=hb.1;omega),by have:=hb.2;omega,fun e=>by have:=(hP.oth b e).2;have:=hb.1;omega⟩) hl2 rfl (by omega) w2.heap.size 1 hKx rfl _ _ rfl rfl rfl ?_;intro A3 c3 w3 hP3 hB3 hg3 hn3;have gr3:w.grownBy w3 (Value.slice V ts.length cv).ownBlock:=gO (jV gx) (Own2.refl _ _) hg3;have on3:Own2 w (.slice V ts.length cv) (.slice A3 (ts.length+1) c3):=(fun b hb hv=>hn3 b (by have:=gx.size;omega) hv);have hT3:Blk w3 w.heap.size (Ro k n A ks.length c):=hTx.grown hg3 (fun e=>by have:=(hP.oth _ e.symm).2;omega))
   | (go_at_call 58;have _t:=tok;refine (dF _ k1 n1 s1 A1 c1 _ (nH _) (by omega) r1a).mono ?_;rintro e w2 ⟨A2,c2,rfl,hl2,hf2,hb2⟩;have hT2:=hT1.keep hb2;have g2:=g1.trans (hb2.mono g1.size);have s2:=hb2.size;clear tok;have tok2:=trivial)
   | (go_at_call 78;refine (hI.out _ (hrc.rd.alloc _) (hr.rd.alloc _)).mono ?_;rintro e w1 ⟨A1,c1,rfl,hl1,r1,hb1⟩;have hT1:=((aC w 25 (Ro k n A ks.length c) rfl).keep hb1).alloc (.cells (Ro k1 n1 A1 s1.length c1) 25);have g1:Bw w (w1.alloc (.cells (Ro k1 n1 A1 s1.length c1) 25)):=(bw1.trans (hb1.mono (by simp))).alloc (by have:=hb1.size;simp at this;omega) (.cells (Ro k1 n1 A1 s1.length c1) 25);have hG1:=aC w1 25 (Ro k1 n1 A1 s1.length c1) rfl;have r1a:=r1.alloc (.cells (Ro k1 n1 A1 s1.length c1) 25);obtain ⟨y0,y1,y2⟩:=hG1.three;have tok:=trivial))
  go_loopw [0,10] (fun vv iv wr=>∃(j:Nat) (A5:Option Addr) (c5:Nat) (ac:List Tm),j≤ks.length∧iv = .int .i64 j∧vv = .slice A5 (ts++(.mk k1 n1 s1::ac)).length c5∧Hid (fX N ctx k (aL ks 0) 0 ks=bd (fX N ctx k (aL ks 0) j (ks.drop j)) (fun b=>some (.ok (ac++b))))∧ac.length=aG (ks.take j)∧PartR (fun _=>False) B wr (.slice A5 (ts++(.mk k1 n1 s1::ac)).length c5) (ts++(.mk k1 n1 s1::ac))∧Blk wr w.heap.size (Ro k n A ks.length c)∧w.grownBy wr (Value.slice V ts.length cv).ownBlock∧Own2 w (.slice V ts.length cv) (.slice A5 (ts++(.mk k1 n1 s1::ac)).length c5)∧(Value.slice A5 (ts++(.mk k1 n1 s1::ac)).length c5).ownBlock≠some w.heap.size)
   (fun _ iv _=>ks.length - (intOf iv).toNat)
  case atStart=>exact ⟨0,A3,c3,[],Nat.zero_le _,rfl,by simp,aD (by rw [List.drop_zero];exact (aTo _).symm),by simp [aG],by simpa using hP3,hT3,gr3,by simpa using on3,by simpa using hn3 w.heap.size (by omega) (fun e=>by have:=(hP.oth _ e).2;omega)⟩
  case round=>
   clear hI;obtain ⟨j,A5,c5,ac,hj,rfl,rfl,hinv,hac,hP5,hT5,g5,o5,hT0⟩:=hrel;obtain ⟨L5,hL5⟩:∃L,ts++(.mk k1 n1 s1::ac)=L:=⟨_,rfl⟩;rw [hL5] at hP5 o5 hT0⊢;have hL5':=aD hL5;have htk:=dB ks j;have hl5:L5.length=ts.length+1+ac.length:=by rw [← hL5];simp;omega
   clear hL5;have lT:=hT5.lt;have hTne5:(Value.slice A5 L5.length c5).ownBlock≠some w.heap.size:=hT0;have s5:=g5.size;have hr5:=hr.oth g5 o5;have hrc5:=hrc.oth g5 o5;obtain ⟨x0,x1,x2⟩:=hT5.three;by_cases hlt:j<ks.length
   ·have hszj:=gN ks j hlt;have htk2:=dB ks (j+1);obtain ⟨b,off,k',n',ks',A',c',rfl,hkj,hbl,hc1,hc2,hc3',hl',hr'⟩:=hr5.atp hlt;rw [hkj,Tm.size] at hszj;have hvk:=aD (show aE (.mk k' n' ks')=true by rw [← hkj];exact aX hv'.out (fG hlt));have hszk':=bY (fG hlt);rw [hkj,Tm.size] at hszk';have hlj:(j:Int)<(ks.length:Int):=by omega
    have hfit:L5.length+aG ks'+1≤100000:=by omega
    have hac':=aD (show ac.length+(aG ks'+1)=aG (ks.take (j+1)) by omega);clear hl5 hac;have hstep:=hinv.out;rw [List.drop_eq_getElem_cons hlt,fX,hkj,aKn] at hstep;have hs0:=hs.out;obtain ⟨bf,hbf⟩:∃bf,((j:Int)==1 && binds k)=bf:=⟨_,rfl⟩;obtain ⟨cx,hcx⟩:∃cx,(if bf=true then ctx++[aL ks 0] else ctx)=cx:=⟨_,rfl⟩;rw [hbf,hcx] at hstep;have hbf':=aD hbf;have hcxl:cx.length≤21:=by
     rw [← hcx];split
     ·rw [List.length_append,List.length_singleton];omega
     ·omega
    have hcxv:∀u,u∈cx→aE u=true:=by
     rw [← hcx];split
     ·intro u hu;rcases List.mem_append.1 hu with hu|hu
      ·exact hvc'.out u hu
      ·rw [List.mem_singleton.1 hu];exact aS hv'.out (by omega)
     ·exact hvc'.out
    cases hn:eN N cx (.mk k' n' ks') with
    | none=>rw [hn] at hstep;rw [hstep] at hs0;cases hs0
    | some rr=>
     have hih:=aD (fun (w':World) (D:Option Addr) (d:Nat) (hB:B≤w'.heap.size) (hrc:RdP (zT w' (.slice A5 L5.length c5)) w' D 0 cx) (hr:RdP (zT w' (.slice A5 L5.length c5)) w' A' 0 ks') (hP:PartR (fun _=>False) B w' (.slice A5 L5.length c5) L5)=>ih.out cx k' n' ks' rr D d A' c' L5 A5 c5 w' (by omega) hn hvk.out hcxv hcxl hfit hB hrc hr hP);rw [hn] at hstep;cases rr with
     | no b2=>
      have hrno:r = .no b2:=by rw [hstep] at hs0;injection hs0 with hs0;exact hs0.symm
      subst hrno;have qb:=fO b2;clear hn hstep hs0 hkj hszj hbf;cases bf with
      | false=>
       obtain rfl:ctx=cx:=by simpa using hcx
       clear hcx;go_wp2_with (first
        | (go_at_call 50;have _t:=tokr;refine (hih.out _ C cc (by omega) hrc5 hr' hP5).mono ?_;rintro e w4 ⟨A6,l6,c6,rfl,hg6⟩;have g6:=gO g5 o5 hg6)
        | (go_at_call 80;refine (iR _ _ _).mono ?_;rw [hbf'.out];rintro e w4 ⟨rfl,rfl⟩;have tokr:=trivial))
       go_ret2
       exact ⟨A5,L5.length,c5,rfl,g6⟩
      | true=>
       obtain ⟨b0,off0,k0,n0,ks0,A0,c0,hA0,hk0,hbl0,z1,z2,z3,hl0,hr0⟩:=hr5.atp (j:=0) (by omega);injection hA0 with hA0;injection hA0 with e1 e2;subst e1 e2;have hcxe:ctx++[.mk k0 n0 ks0]=cx:=by rw [← hcx,if_pos rfl];rw [show aL ks 0 = .mk k0 n0 ks0 by rw [aL,List.getD_eq_getElem?_getD,iG (by omega),Option.getD_some];exact hk0]
       have hpu:=aD (show ∀(w:World) (hrc:RdP (zT wr (.slice A5 L5.length c5)) w C 0 ctx) (hra:RdP (zT wr (.slice A5 L5.length c5)) w A0 0 ks0) (hs:wr.heap.size≤w.heap.size),Calls prog 81 #[.slice C ctx.length cc,.agg (Ro k0 n0 A0 ks0.length c0)] w (aJz (zT wr (.slice A5 L5.length c5)) w cx) from fun w hrc hra hs=>by rw [← hcxe];exact vD ctx C cc k0 n0 ks0 A0 c0 w (by omega) hl0 _ (fun b hb=>by have:=hb.1;omega) hrc hra);simp only [Nat.zero_mul,Nat.add_zero] at z1 z2 z3
       clear hcxe hk0 hcx;go_wp2_with (first
        | (go_at_call 50;have _t:=tokp;refine (hih.out _ D d (by omega) hrc6 hr6 hP6).mono ?_;rintro e w5 ⟨A6,l6,c6,rfl,hg6⟩;have g7:=gO g5 o5 (gO (jV hb4) (Own2.refl _ _) hg6))
        | (go_at_call 81;have _t:=tokr;refine (hpu.out _ hrc5 hr0 (iD _)).mono ?_;rintro e w4 ⟨D,d,rfl,rD,hb4⟩;have s4:=hb4.size;have hP6:=hP5.below hb4;have hT6:=hT5.keep hb4;have how:=hP5.oth;have hrc6:RdP (zT w4 (.slice A5 L5.length c5)) w4 D 0 cx:=(rD.lt_).mono (fun b hb=>⟨hb.2,fun e=>hb.1.elim (fun h=>h.2 e) (fun h=>by have:=(how b e).2;omega)⟩);have hr6:RdP (zT w4 (.slice A5 L5.length c5)) w4 A' 0 ks':=(hr'.below hb4).mono (fun b hb=>⟨by have:=hb.1;omega,hb.2⟩);clear x0 x1 x2;obtain ⟨x0,x1,x2⟩:=hT6.three;have m1:=bR hb4 _ _ hc1;have m2:=bR hb4 _ _ hc2;have m3:=bR hb4 _ _ hc3';clear tokr;have tokp:=trivial)
        | (go_at_call 80;refine (iR _ _ _).mono ?_;rw [hbf'.out];rintro e w4 ⟨rfl,rfl⟩;have tokr:=trivial))
       go_ret2
       exact ⟨A5,L5.length,c5,rfl,g7⟩
     | ok a=>
      have hstep':=aD hstep;have hna:=aD (((fK N).1 _ _ _ hn).1);obtain ⟨L6,hL6⟩:∃L,L5++a=L:=⟨_,rfl⟩;have hih2:=aD (show ∀(w':World) (D:Option Addr) (d:Nat) (hB:B≤w'.heap.size) (hrc:RdP (zT w' (.slice A5 L5.length c5)) w' D 0 cx) (hr:RdP (zT w' (.slice A5 L5.length c5)) w' A' 0 ks') (hP:PartR (fun _=>False) B w' (.slice A5 L5.length c5) L5),Calls prog 50 #[.slice A5 L5.length c5,.slice D cx.length d,.agg (Ro k' n' A' ks'.length c')] w' (fun e w''=>∃A6 c6,e = .returned (.tuple #[.slice A6 L6.length c6,.int .i64 0])∧PartR (fun _=>False) B w'' (.slice A6 L6.length c6) L6∧w'.grownBy w'' (Value.slice A5 L5.length c5).ownBlock∧Own2 w' (.slice A5 L5.length c5) (.slice A6 L6.length c6)) from fun w' D d hB hrc hr hP=>by rw [← hL6];exact hih.out w' D d hB hrc hr hP);have hL6':=aD hL6;clear hn hs0 hkj hL6 hih hstep hszj hbf;cases bf with
      | false=>
       obtain rfl:ctx=cx:=by simpa using hcx
       clear hcx;go_wp2_with (first
        | (go_at_call 50;have _t:=tokr;refine (hih2.out _ C cc (by omega) hrc5 hr' hP5).mono ?_;rintro e w4 ⟨A6,c6,rfl,hP6,hg6,ho6⟩;have g6:=gO g5 o5 hg6;have hT6:=hT5.grown hg6 (fun e=>hTne5 e.symm))
        | (go_at_call 80;refine (iR _ _ _).mono ?_;rw [hbf'.out];rintro e w4 ⟨rfl,rfl⟩;have tokr:=trivial))
       exact ⟨⟨j+1,A6,c6,ac++a,by omega,by go_num,by rw [show ts++(.mk k1 n1 s1::(ac++a))=L6 by rw [← hL6'.out,← hL5'.out];simp],aD (by rw [hstep'.out,aBi,aKn];congr 1;funext z;simp [aBi]),by rw [List.length_append,hna.out,Tm.size];have:=hac'.out;omega,by rw [show ts++(.mk k1 n1 s1::(ac++a))=L6 by rw [← hL6'.out,← hL5'.out];simp];exact hP6,hT6,g6,by rw [show ts++(.mk k1 n1 s1::(ac++a))=L6 by rw [← hL6'.out,← hL5'.out];simp];exact (o5.trans (by omega) ho6),by rw [show ts++(.mk k1 n1 s1::(ac++a))=L6 by rw [← hL6'.out,← hL5'.out];simp];exact ho6 _ (by omega) hTne5⟩,by simp [intOf];omega⟩
      | true=>
       obtain ⟨b0,off0,k0,n0,ks0,A0,c0,hA0,hk0,hbl0,z1,z2,z3,hl0,hr0⟩:=hr5.atp (j:=0) (by omega);injection hA0 with hA0;injection hA0 with e1 e2;subst e1 e2;have hcxe:ctx++[.mk k0 n0 ks0]=cx:=by rw [← hcx,if_pos rfl];rw [show aL ks 0 = .mk k0 n0 ks0 by rw [aL,List.getD_eq_getElem?_getD,iG (by omega),Option.getD_some];exact hk0]
       have hpu:=aD (show ∀(w:World) (hrc:RdP (zT wr (.slice A5 L5.length c5)) w C 0 ctx) (hra:RdP (zT wr (.slice A5 L5.length c5)) w A0 0 ks0) (hs:wr.heap.size≤w.heap.size),Calls prog 81 #[.slice C ctx.length cc,.agg (Ro k0 n0 A0 ks0.length c0)] w (aJz (zT wr (.slice A5 L5.length c5)) w cx) from fun w hrc hra hs=>by rw [← hcxe];exact vD ctx C cc k0 n0 ks0 A0 c0 w (by omega) hl0 _ (fun b hb=>by have:=hb.1;omega) hrc hra);simp only [Nat.zero_mul,Nat.add_zero] at z1 z2 z3
       clear hcxe hk0 hcx;go_wp2_with (first
        | (go_at_call 50;have _t:=tokp;refine (hih2.out _ D d (by omega) hrc6 hr6 hP6).mono ?_;rintro e w5 ⟨A6,c6,rfl,hP7,hg6,ho6⟩;have g7:=gO g5 o5 (gO (jV hb4) (Own2.refl _ _) hg6);have hT7:=hT6.grown hg6 (fun e=>hTne5 e.symm))
        | (go_at_call 81;have _t:=tokr;refine (hpu.out _ hrc5 hr0 (iD _)).mono ?_;rintro e w4 ⟨D,d,rfl,rD,hb4⟩;have s4:=hb4.size;have hP6:=hP5.below hb4;have hT6:=hT5.keep hb4;have how:=hP5.oth;have hrc6:RdP (zT w4 (.slice A5 L5.length c5)) w4 D 0 cx:=(rD.lt_).mono (fun b hb=>⟨hb.2,fun e=>hb.1.elim (fun h=>h.2 e) (fun h=>by have:=(how b e).2;omega)⟩);have hr6:RdP (zT w4 (.slice A5 L5.length c5)) w4 A' 0 ks':=(hr'.below hb4).mono (fun b hb=>⟨by have:=hb.1;omega,hb.2⟩);clear x0 x1 x2;obtain ⟨x0,x1,x2⟩:=hT6.three;have m1:=bR hb4 _ _ hc1;have m2:=bR hb4 _ _ hc2;have m3:=bR hb4 _ _ hc3';clear tokr;have tokp:=trivial)
        | (go_at_call 80;refine (iR _ _ _).mono ?_;rw [hbf'.out];rintro e w4 ⟨rfl,rfl⟩;have tokr:=trivial))
       exact ⟨⟨j+1,A6,c6,ac++a,by omega,by go_num,by rw [show ts++(.mk k1 n1 s1::(ac++a))=L6 by rw [← hL6'.out,← hL5'.out];simp],aD (by rw [hstep'.out,aBi,aKn];congr 1;funext z;simp [aBi]),by rw [List.length_append,hna.out,Tm.size];have:=hac'.out;omega,by rw [show ts++(.mk k1 n1 s1::(ac++a))=L6 by rw [← hL6'.out,← hL5'.out];simp];exact hP7,hT7,g7,by rw [show ts++(.mk k1 n1 s1::(ac++a))=L6 by rw [← hL6'.out,← hL5'.out];simp];exact (o5.trans (by omega) ((Own2.refl _ _).trans s4 ho6)),by rw [show ts++(.mk k1 n1 s1::(ac++a))=L6 by rw [← hL6'.out,← hL5'.out];simp];exact ho6 _ (by omega) hTne5⟩,by simp [intOf];omega⟩
   ·have hje:j=ks.length:=by omega
    subst hje;have hrok:r = .ok (.mk k1 n1 s1::ac):=by
     have h1:=hinv.out;rw [List.drop_length,fX] at h1;have h2:=hs.out;rw [h1] at h2;injection h2 with h2;rw [← h2];simp
    subst hrok;go_wp2_with fail
    go_ret2
    exact ⟨A5,c5,by rw [hL5'.out];rfl,by rw [hL5'.out];exact hP5,g5,by rw [hL5'.out];exact o5⟩
def anR (N:Nat)(ctx:List Tm)(t:Tm):Option (Int × List Tm):=
 match itR N ctx t with
 | none=>none
 | some (c,none)=>some (c,[])
 | some (_,some _)=>match eN N ctx t with
  | none=>none
  | some (.no b)=>some (gI b,[])
  | some (.ok ns)=>some (0,ns)
def aTn (w:World)(xs:List Int)(e:Ending)(w':World):Prop:=∃v,e = .returned v∧RowI w.heap.size w' v xs∧Bw w w'
theorem RowI.empty_ {w:World}:RowI w.heap.size (w.alloc (.cells #[] 3)) (.slice (some ⟨w.heap.size,0,none⟩) 0 0) []:=
 ⟨by simp,.inr ⟨_,0,#[],rfl,iD _,heap_alloc_new w _,iD _,by simp [maxLen],by simp,by simp⟩⟩
theorem jG (xs:List Int)(A:Option Addr)(c:Nat)(w:World)(hl:xs.length≤1000000000)(hi:RdI w A xs) :
  Calls prog 86 #[.slice A xs.length c] w (aTn w xs):=by
 cases A with
 | none=>
  have hk:xs=[]:=by
   cases xs with
   | nil=>rfl
   | cons t ts=>obtain ⟨b,off,h,_⟩:=hi 0 (by simp);cases h
  subst hk;have hq:∀w',(binOp .eql 26 (.slice none 0 c) (.slice none 0 0)).run prog w' = .ok (.bool true) w':=fun w'=>by rw [Go.Lib.run_eql_slice_nil (t:=26) (h:=Tryz.underlying26)];rfl
  go_enter func86,ntmps86;go_wp2_with fail
  go_ret
  exact ⟨_,rfl,World.ownsRow_nil _ _ _ _,dV _ _⟩
 | some a=>
  have hq:∀w',(binOp .eql 26 (.slice (some a) xs.length c) (.slice none 0 0)).run prog w' = .ok (.bool false) w':=fun w'=>by rw [Go.Lib.run_eql_slice_nil (t:=26) (h:=Tryz.underlying26)];rfl
  have hc:∀j (hj:j<xs.length),(w.alloc (.cells #[] 3)).cell? (a.add j)=some (.int .i64 xs[j]):=fun j hj=>by
   obtain ⟨b,off,hA,h⟩:=hi.alloc (.cells #[] 3) j hj;injection hA with hA;subst hA;rw [show Addr.add ⟨b,off,none⟩ j=⟨b,off+j,none⟩ from by simp only [Addr.add];split<;>simp_all];exact h
  go_enter func86,ntmps86;go_wp2_with (at_builtin;refine aV (B:=w.heap.size) (xs:=[]) (ys:=xs) (ad:=a) (c:=c) RowI.empty_ (by simp) (by simp;omega) hc rfl _ _ rfl rfl rfl ?_;intro v2 w2 hp2 hb2 hg2)
  go_ret
  exact ⟨_,rfl,by simpa using hp2,bw1.trans hb2⟩
def RowTW (B:Nat)(w:World)(v:Value)(m:Nat):Prop:=∃xs,w.ownsRow B 25 3 v m xs
theorem RowTW.nil {B:Nat}{w:World}:RowTW B w (.slice none 0 0) 0:=⟨[],World.ownsRow_nil _ _ _ _⟩
theorem RowTW.keep {B:Nat}{w w':World}{v:Value}{m:Nat}(h:RowTW B w v m)(hk:∀b,B≤b→b<w.heap.size→w'.heap[b]?=w.heap[b]?):RowTW B w' v m:=by
 obtain ⟨xs,h1⟩:=h;refine ⟨xs,h1.1,?_⟩;rcases h1.2 with hn|⟨g,cap,cur,rfl,hb,hg,r⟩
 ·exact .inl hn
 ·exact .inr ⟨g,cap,cur,rfl,hb,(hk g hb (Array.getElem?_eq_some_iff.1 hg).1).trans hg,r⟩
theorem RowTW.below {B:Nat}{w w':World}{v:Value}{m:Nat}(h:RowTW B w v m)(hb:Bw w w'):RowTW B w' v m:=h.keep fun b _ hl=>hb.block b hl
theorem RowTW.setCell {B:Nat}{w:World}{v:Value}{m:Nat}(h:RowTW B w v m){a:Addr}(ha:a.block<B)(u:Value):RowTW B (w.setCell a u) v m:=
 h.keep fun b hb _=>lR w a u b (by omega)
theorem qY {B:Nat}{w:World}{v:Value}{m:Nat}{k n:Int}{s0:Value}(h0:s0.oneCell'=true)(hp:RowTW B w v m)(hB:B≤w.heap.size)(hm:m≤1099511627776)
  {ops:Array Oper} {rest:List Oper} {o:Oper} {a:Act} {Q:Exit→Act→World→Prop} (hgd:o.guard=none) (s x:Operand)
  (ho : o.op = .call { callee := .builtin .append, args := #[s, x], argTypes := #[23, 23] }) (hs : a.eval s = v) (hx : a.eval x = .slice (some ⟨w.heap.size, 0, none⟩) 1 1)
  (h : ∀ v' w', RowTW B w' v' (m + 1) → Below B w w' → wpList prog ops Q rest (a.put o.dst v') w') :
  wpList prog ops Q (o::rest) a (w.alloc (.cells #[.int .i64 k,.int .i64 n,s0] 25)):=by
 refine wpList_plain hgd fun K hK=>?_
 obtain ⟨i,hi,hz,hz1,hz2⟩:=info_parts jT;obtain ⟨xs,h1⟩:=hp;have hge:∀g,v.ownBlock=some g→B≤g:=fun g hg=>(h1.lt g hg).1
 obtain ⟨v',w',hrun,hown,hg,_,hat⟩:=run_append_own_at (P:=prog) (w.alloc (.cells #[.int .i64 k,.int .i64 n,s0] 25)) B 23 o.type 25 i _ 3 40 Tryz.underlying23 hi hz hz1 hz2 rfl (by omega) v m xs (h1.alloc _) ⟨w.heap.size,0,none⟩ 1 1 [.int .i64 k,.int .i64 n,s0] rfl (by
  intro j u hj;match j,hj with
  | 0,hj=>simp only [List.getElem?_cons_zero,Option.some.injEq] at hj;subst hj;simp [Addr.add]
  | 1,hj=>simp only [List.getElem?_cons_succ,List.getElem?_cons_zero,Option.some.injEq] at hj;subst hj;simp [Addr.add]
  | 2,hj=>simp only [List.getElem?_cons_succ,List.getElem?_cons_zero,Option.some.injEq] at hj;subst hj;simp [Addr.add]) (by
  intro u hu;simp only [List.mem_cons,List.not_mem_nil,or_false] at hu
  rcases hu with rfl|rfl|rfl
  ·rfl
  ·rfl
  ·exact h0) (by simp only [maxLen];omega) (by omega) (by simp;omega)
 unfold Oper.wp execOp
 simp only [ho,resolve,invoke,builtin,Sem.run_bind,Sem.run_pure,Result.andThen_ok,List.map_toArray,List.map_cons,List.map_nil,hs,hx,hrun]
 refine hK _ _ (h v' w' ⟨_,hown⟩ ?_);exact ((dV _ _).alloc hB _).trans ⟨hg.os,hg.tape,hg.output,hg.size,fun k hk=>hg.block k (by simp;omega) (fun e=>by have:=hge k e.symm;omega)⟩
def aMw (w:World)(o:Option Tm)(e:Ending)(w':World):Prop:=
 Bw w w'∧match o with
 | none=>e = .returned (.tuple #[.agg Zr,.slice none 0 0,.bool false])
 | some (.mk k n ks)=>∃A c v,e = .returned (.tuple #[.agg (Ro k n A ks.length c),v,.bool true])∧ks.length≤9223372036854775807∧Rd w A 0 ks
theorem nS (k n:Int)(ks:List Tm)(A:Option Addr)(c:Nat)(xs:List Int)(P:Option Addr)(cp:Nat)(w:World)(hM:aG ks≤1000000000)(hx:xs.length≤1000000000)(hr:Rd w A 0 ks)(hi:RdI w P xs) :
  Calls prog 21 #[.agg (Ro k n A ks.length c),.slice P xs.length cp] w (aMw w (eP (.mk k n ks) xs)):=by
 have hlen:=aJ ks;go_enter func21,ntmps21;go_wp2_with fail
 go_loopw [7,12] (fun v i wr=>∃(j m:Nat) (k1 n1:Int) (ks1:List Tm) (A1:Option Addr) (c1:Nat),j≤xs.length∧m≤j∧i = .int .i64 j∧RowTW (w.heap.size+2) wr v m∧Hid (eP (.mk k n ks) (xs.take j)=some (.mk k1 n1 ks1))∧ks1.length≤9223372036854775807∧Rd w A1 0 ks1∧Blk wr w.heap.size (Ro k1 n1 A1 ks1.length c1)∧Blk wr (w.heap.size+1) Zr∧Bw w wr)
  (fun _ i _ => xs.length - (intOf i).toNat)
 case atStart=>exact ⟨0,0,k,n,ks,A,c,Nat.zero_le _,iD _,rfl,RowTW.nil,aD rfl,by omega,hr,(aC _ _ _ rfl).alloc _,aC _ _ _ (by simp),bw2⟩
 case round=>
  obtain ⟨j,m,k1,n1,ks1,A1,c1,hj,hmj,rfl,hR,hat,hl1,hr1,hB1,hB2,hb⟩:=hrel;by_cases hlt:j<xs.length
  ·obtain ⟨b,off,rfl,hc⟩:=hi.below hb j hlt;have hnx:=aD (rH hlt hat.out);generalize hxj:xs[j]=x at hc hnx
   have hxj':=aD hxj;have lB1:=hB1.lt;have lB2:=hB2.lt;have p0:=hB1.at_ (i:=0) rfl;have p2:=hB1.at_ (i:=2) rfl;clear hxj;by_cases hin:0≤x∧x<ks1.length
   ·obtain ⟨i,rfl⟩:∃i:Nat,x=(i:Int):=⟨x.toNat,by omega⟩;have hik:i<ks1.length:=by omega
    obtain ⟨b3,off3,k3,n3,ks3,A3,c3,rfl,hkj3,hd1,hd2,hd3,hl3,hr3⟩:=hr1.at_ hik;have hst:eP (.mk k n ks) (xs.take (j+1))=some (.mk k3 n3 ks3):=by
     rw [hnx.out,if_pos (show 0≤(i:Int)∧(i:Int)<(Tm.mk k1 n1 ks1).kids.length from hin),Int.toNat_natCast,show (Tm.mk k1 n1 ks1).kids=ks1 from rfl,List.getD_eq_getElem?_getD,iG hik,Option.getD_some,hkj3]
    have hst':=aD hst;have hw1:(decide ((0:Int)≤(i:Int)) && decide ((i:Int)≤(ks1.length:Int) - 1))=true:=by simp;omega
    clear hkj3 hst hnx;by_cases hun:aO k1 i=1
    ·obtain ⟨b4,off4,k4,n4,ks4,A4,c4,hA4,hkj4,g1,g2,g3,hl4,hr4⟩:=hr1.at_ (j:=0) (by omega);cases hA4
     simp only [Nat.zero_mul,Nat.add_zero] at g1 g2 g3
     have hkw:=bR hb;have e1:=hkw _ _ g1;have e2:=hkw _ _ g2;have e3:=hkw _ _ g3;clear hkj4 g1 g2 g3;go_wp2_with (first|(go_at_call 41;refine (cI _ _ _ _).mono ?_;rw [hw1];rintro e w3 ⟨rfl,rfl⟩)|(go_at_call 54;refine (fH _ _ _).mono ?_;rw [hun];rintro e w4 ⟨rfl,rfl⟩)|(at_builtin;refine qY (B:=w.heap.size+2) (m:=m) rfl hR (by omega) (by omega) rfl (.tmp 29) (.tmp 34) rfl rfl rfl ?_;intro v2 w2 hRq hgq;have hBq:Blk w2 w.heap.size (Ro k1 n1 (some ⟨b3,off3,none⟩) ks1.length c1):=hB1.below hgq (by omega);have hTq:Blk w2 (w.heap.size+1) Zr:=hB2.below hgq (by omega);have hbq:Bw w w2:=bW hb hgq;clear p0 p2 e1 e2 e3 hc;have cc0:=hBq.at_ (i:=0) rfl;have cc1:=hBq.at_ (i:=1) rfl;have cc2:=hBq.at_ (i:=2) rfl;obtain ⟨f0,f1,f2⟩:=kS hBq;have hkq:=bR hbq;have z2:=hkq _ _ hd1;have z3:=hkq _ _ hd2;have z4:=hkq _ _ hd3))
     go_roundw
     case rel=>exact ⟨j+1,m+1,k3,n3,ks3,A3,c3,by omega,by omega,by go_num,((hRq.setCell (by simp) _).setCell (by simp) _).setCell (by simp) _,hst',hl3,hr3,((hBq.set_ 0 _).set_ 1 _).set_ 2 _,((hTq.far (by simp) _).far (by simp) _).far (by simp) _,(bV hbq)⟩
     case measure=>simp [intOf];omega
    ·have hun0:aO k1 i=0:=by have:=eA k1 i;omega
     have hkw:=bR hb;have z2:=hkw _ _ hd1;have z3:=hkw _ _ hd2;have z4:=hkw _ _ hd3;have p1:=hB1.at_ (i:=1) rfl;obtain ⟨f0,f1,f2⟩:=kS hB1;clear hun;go_wp2_with (first|(go_at_call 41;refine (cI _ _ _ _).mono ?_;rw [hw1];rintro e w3 ⟨rfl,rfl⟩)|(go_at_call 54;refine (fH _ _ _).mono ?_;rw [hun0];rintro e w4 ⟨rfl,rfl⟩))
     go_roundw
     case rel=>exact ⟨j+1,m,k3,n3,ks3,A3,c3,by omega,by omega,by go_num,((hR.setCell (by simp) _).setCell (by simp) _).setCell (by simp) _,hst',hl3,hr3,((hB1.set_ 0 _).set_ 1 _).set_ 2 _,((hB2.far (by simp) _).far (by simp) _).far (by simp) _,(bV hb)⟩
     case measure=>simp [intOf];omega
   ·have hst:eP (.mk k n ks) (xs.take (j+1))=none:=by rw [hnx.out,if_neg (show ¬(0≤x∧x<(Tm.mk k1 n1 ks1).kids.length) from hin)]
    have hno:=aD (pY hst);have hw0:(decide (0≤x) && decide (x≤(ks1.length:Int) - 1))=false:=by
     cases h:(decide (0≤x) && decide (x≤(ks1.length:Int) - 1)) with
     | false=>rfl
     | true=>
      simp only [Bool.and_eq_true,decide_eq_true_eq] at h
      exact absurd ⟨h.1,by omega⟩ hin
    have d0:=hB2.at_ (i:=0) rfl;have d1:=hB2.at_ (i:=1) rfl;have d2:=hB2.at_ (i:=2) rfl;obtain ⟨e0,e1,e2⟩:=kS hB2;clear hst hnx hin;go_wp2_with (go_at_call 41;refine (cI _ _ _ _).mono ?_;rw [hw0];rintro e w3 ⟨rfl,rfl⟩)
    refine bodyPost_ret (v:=.tuple #[.agg Zr,.slice none 0 0,.bool false]) (by simp [results,results21,go_sem,d0,d1,d2]) rfl ?_;rw [hno.out];exact ⟨(bV hb),rfl⟩
  ·have hjl:j=xs.length:=by omega
   subst hjl;have h5:=hat.out;rw [List.take_length] at h5;have h5':=aD h5;clear h5;have cc0:=hB1.at_ (i:=0) rfl;have cc1:=hB1.at_ (i:=1) rfl;have cc2:=hB1.at_ (i:=2) rfl;have d0:=hB2.at_ (i:=0) rfl;have d1:=hB2.at_ (i:=1) rfl;have d2:=hB2.at_ (i:=2) rfl;obtain ⟨e0,e1,e2⟩:=kS hB2;go_wp2_with fail
   refine bodyPost_ret (v:=.tuple #[.agg (Ro k1 n1 A1 ks1.length c1),u7,.bool true]) (by simp [results,results21,go_sem,d0,d1,d2]) rfl ?_;rw [h5'.out];exact ⟨(bV hb),A1,c1,_,rfl,hl1,hr1⟩
theorem aCi (xs ys:List Int)(A B:Option Addr)(c d:Nat)(w:World)(hx:xs.length≤9223372036854775807)(hy:ys.length≤9223372036854775807)(hr:RdI w A xs)(hr':RdI w B ys) :
  Calls prog 25 #[.slice A xs.length c,.slice B ys.length d] w fun e w'=>e = .returned (.bool (decide (xs=ys)))∧Bw w w':=by
 by_cases hlen:xs.length=ys.length
 ·have hq:((xs.length:Int) != (ys.length:Int))=false:=by simp [hlen]
  have hH:=aD hlen;have hle:ys.length≤xs.length:=by omega
  have hge:xs.length≤ys.length:=by omega
  clear hlen;generalize hdd:decide (xs=ys)=dd
  have hdd':=aD hdd;clear hdd;go_enter func25,ntmps25;go_wp2_with fail
  go_loopw [13] (fun i wr=>∃j:Nat,j≤xs.length∧i = .int .i64 j∧Hid (xs.take j=ys.take j)∧Bw w wr) (fun i _=>xs.length - (intOf i).toNat)
  case atStart=>exact ⟨0,Nat.zero_le _,rfl,aD (by simp),dV _ _⟩
  case round=>
   obtain ⟨j,hj,rfl,heq,hb⟩:=hrel;by_cases hlt:j<xs.length
   ·have hlt':j<ys.length:=by omega
    obtain ⟨b,off,rfl,hc⟩:=hr.below hb j hlt;obtain ⟨b2,off2,rfl,hd⟩:=hr'.below hb j hlt';generalize hxj:xs[j]=x at hc
    generalize hyj:ys[j]=y at hd
    have hxj':=aD hxj;have hyj':=aD hyj;clear hxj hyj;go_wp2_with fail
    have r1:=aF hc;have r2:=aF hd;refine aZ (fun w'=>Bw wr w') [0,1,2,3,4,5,6,7,8] [] [] [_,_,_,_,_,_,_,_,_] [] [] (by kernel_rfl) (by kernel_rfl) rfl rfl rfl (fun _ _ d _ _ h=>by cases d<;>exact h) (dV _ _).drew ?_;refine cL (aD ?_);refine cS ?_;clear r1 r2;by_cases hne:x=y
    ·have q:(x != y)=false:=by simpa using hne
     have hne':=aD hne;clear hne;go_wp2_with fail
     go_roundw
     case rel=>exact ⟨j+1,by omega,by go_num,aD (by rw [oR hlt,oR hlt',heq.out,hxj'.out,hyj'.out,hne'.out]),hb.drew⟩
     case measure=>simp [intOf];omega
    ·have q:(x != y)=true:=by simpa using hne
     have hdf:dd=false:=by
      rw [← hdd'.out];refine decide_eq_false fun e=>hne ?_
      rw [← hxj'.out,← hyj'.out];subst e;rfl
     subst hdf;clear hne;go_wp2_with fail
     go_ret
     exact ⟨rfl,hb.drew⟩
   ·have hjl:j=xs.length:=by omega
    have hdt:dd=true:=by
     rw [← hdd'.out];have h5:=heq.out;rw [hjl,List.take_length,hH.out,List.take_length] at h5;exact decide_eq_true h5
    subst hdt;go_wp2_with fail
    go_ret
    exact ⟨rfl,hb⟩
 ·have hq:((xs.length:Int) != (ys.length:Int))=true:=by simp;omega
  rw [decide_eq_false (fun e=>hlen (by rw [e]))];clear hlen;go_enter func25,ntmps25;go_wp2_with fail
  go_ret
  exact ⟨rfl,dV _ _⟩
theorem sT (p xs:List Int)(A P:Option Addr)(c cp bx:Nat)(w:World)(hp:p.length≤9223372036854775807)(hx:xs.length≤9223372036854775807)(hr:RdI w A p)(hi:RdI w P xs)(hB:Blk w bx #[.slice P xs.length cp]) :
  Calls prog 24 #[.slice A p.length c,.pointer (some ⟨bx,0,none⟩)] w fun e w'=>e = .returned (.bool (decide (p=xs)))∧Bw w w':=by
 have b0:=hB.at_ (i:=0) rfl;generalize hdd:decide (p=xs)=dd
 have hdd':=aD hdd;clear hdd;go_enter func24,ntmps24;go_wp2_with (go_at_call 25;refine (aCi p xs A P c cp _ hp hx hr hi).mono ?_;rw [hdd'.out];rintro e w1 ⟨rfl,hb1⟩)
 go_ret
 exact ⟨rfl,hb1⟩
theorem vH (ps:List (List Int))(xs:List Int)(I:Nat)(hI:∀i,ps[i]?=some xs↔i=I)(A P:Option Addr)(c cp bx:Nat)(w:World)(hps:ps.length≤1000000000)(hpl:∀p,p∈ps→p.length≤1000000000)(hx:xs.length≤1000000000)(hr:RdPs w A ps)(hi:RdI w P xs)(hB:Blk w bx #[.slice P xs.length cp]) :
  Calls prog 22 #[.slice A ps.length c,.func (.func 24) #[] #[.pointer (some ⟨bx,0,none⟩)]] w fun e w'=>e = .returned (.int .i64 I)∧Bw w w':=by
 have hrun:=eJ func24 (by kernel_rfl) (by kernel_rfl);have hIl:I<ps.length:=(List.getElem?_eq_some_iff.1 ((hI I).2 rfl)).1;have hI':=aD hI;have hpl':=aD hpl;clear hI hpl;go_enter func22,ntmps22;go_wp2_with fail
 go_loopw [8] (fun i wr=>∃j:Nat,j≤I∧i = .int .i64 j∧Bw w wr) (fun i _=>ps.length - (intOf i).toNat)
 case atStart=>exact ⟨0,Nat.zero_le _,rfl,dV _ _⟩
 case round=>
  obtain ⟨j,hj,rfl,hb⟩:=hrel;have hlt:j<ps.length:=by omega
  obtain ⟨b,off,B,cb,rfl,hc,hib,-⟩:=(hr.below hb) j hlt;have hlp:=hpl'.out _ (fG hlt);generalize hpj:ps[j]=p at hc hib hlp
  have hpj':=aD hpj;have hlt0:(j:Int)<(ps.length:Int):=by omega
  clear hpj;by_cases hjI:j=I
  ·subst hjI;have hpe:p=xs:=by
    have h1:=(hI'.out j).2 rfl;rw [iG hlt,hpj'.out] at h1;injection h1
   have hd:decide (p=xs)=true:=decide_eq_true hpe;have hd':=aD hd;clear hd hpe;go_wp2_with (refine (sT p xs B P cb cp bx _ (by omega) (by omega) hib (hi.below hb) (hB.keep hb)).mono ?_;rw [hd'.out];rintro e w3 ⟨rfl,hb3⟩)
   go_ret
   exact ⟨rfl,hb.trans (hb3.mono hb.size)⟩
  ·have hd:decide (p=xs)=false:=decide_eq_false (fun e=>hjI ((hI'.out j).1 (by rw [iG hlt,hpj'.out,e])));have hjI':=aD hjI;have hlt2:j+1≤I:=by omega
   clear hjI;have hd':=aD hd;clear hd;go_wp2_with (refine (sT p xs B P cb cp bx _ (by omega) (by omega) hib (hi.below hb) (hB.keep hb)).mono ?_;rw [hd'.out];rintro e w3 ⟨rfl,hb3⟩)
   go_roundw
   case rel=>exact ⟨j+1,by omega,by go_num,hb.trans (hb3.mono hb.size)⟩
   case measure=>simp [intOf];omega
end Go.Proofs.YtddkehjdjfmhmaaGreat
