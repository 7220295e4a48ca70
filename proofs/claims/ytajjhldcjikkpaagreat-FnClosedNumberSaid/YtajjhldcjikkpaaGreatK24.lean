/- Parts of the proof. No condition. -/
import Derived.Test.YtajjhldcjikkpaaGreatK19
import Derived.Test.YtajjhldcjikkpaaGreatK23
open Go.Proofs.Tryz
namespace Go.Proofs.YtajjhldcjikkpaaGreat
open Go.RowKit
set_option maxHeartbeats 16000000
set_option maxRecDepth 100000
set_option linter.unusedSimpArgs false
set_option linter.unusedVariables false
theorem aVw {k n:Int}{ks:List Tm}(h:aE (.mk k n ks)=true)(hk:aK k=3):∃ka na sa kb nb sb kc nc sc,ks=[.mk ka na sa,.mk kb nb sb,.mk kc nc sc]:=by
 obtain ⟨⟨ka,na,sa⟩,⟨kb,nb,sb⟩,⟨kc,nc,sc⟩,rfl⟩:=nY (l:=ks) (by have:=(aX h).1;omega);exact ⟨ka,na,sa,kb,nb,sb,kc,nc,sc,rfl⟩
theorem aHa (C:Option Addr)(m cc:Nat)(k n:Int)(A:Option Addr)(c fc:Nat)(ev:Array Value)(kp np:Int)(sp:List Tm)(t1' t2':Tm)(r:Rs Tm)(ty:Nat→Option (Rs Tm))(w:World)
  (hs : (bd (oA (ty 1) 10) fun e => bd (faV (ty 0) (aI e.ks 0)) fun _ => vb (kB (.mk kp np sp) (aI e.ks 1)) (bd (iE (ty 2) (kB (.mk kp np sp) (aI e.ks 1))) fun _ => eC (kB (.mk kp np sp) (aI e.ks 2)))) = some r)
  (hT : TyX fc ev w ty) (hv : TyV ty) (hvp : aE (.mk kp np sp) = true) (hr : Rd w A 0 [.mk kp np sp, t1', t2']) :
  Calls prog 113 #[.agg #[.slice C m cc,.int .i64 k,.int .i64 n,.slice A 3 c,.func (.func fc) #[] ev]] w (pC w r):=by
 rcases aO hs with ⟨b,h1,rfl⟩|⟨e,h1,hs⟩
 ·have qb:=eN b;replace h1:=aD h1;clear hs;go_enter func113,ntmps113;go_wp2_with (go_at_call 107;refine (iY C m cc k n _ 3 c fc ev 1 (by omega) 10 _ ty _ h1.out (hT.below bw2) hv).mono ?_;rintro e w1 ⟨rfl,hb1⟩;have hZ1:=bH hb1;have g1:Bw w w1:=bQ bw2 hb1;obtain ⟨d0,d1,d2,e0,e1,e2,lz⟩:=dA hZ1;have n1':w.heap.size+1≠w1.heap.size:=(by omega))
  have y:=fun (o:Obj)=>(((((hZ1.set_ 0 (.int .i64 0)).set_ 1 (.int .i64 0)).set_ 2 (.slice none 0 0)).alloc o:Blk _ _ Zr)).three
  refine bodyPost_ret (v:=.tuple #[.agg Zr,.int .i64 (dL b)]) (by simp [results,results113,go_sem,y,d0,d1,d2]) rfl ⟨rfl,?_⟩;exact (bT g1).alloc (by simp [World.setCell];exact g1.size) _
 obtain ⟨hve,hke⟩:=nG h1;obtain ⟨ke,ni,se⟩:=e;obtain rfl:ke=10:=hke;obtain ⟨ka,na,sa,kb,nb,sb,kd,nd,sd,rfl⟩:=aVw hve rfl;have hva:=aD (aL hve (t:=.mk ka na sa) (by simp));have hszf:=aD (aEb (ka:=kp) (na:=np) (kb:=kd) (nb:=nd) (aJ hvp) (aJ (aL hve (t:=.mk kd nd sd) (by simp))));replace h1:=aD (oP h1);replace hs:Hid ((bd (faV (ty 0) (.mk ka na sa)) fun _=>vb (kB (.mk kp np sp) (.mk kb nb sb)) (bd (iE (ty 2) (kB (.mk kp np sp) (.mk kb nb sb))) fun _=>eC (kB (.mk kp np sp) (.mk kd nd sd))))=some r):=aD hs;clear hve;obtain ⟨bp,op,Ap,cp,rfl,i1,i2,i3,hlp,rp0⟩:=kZ hr;simp only [Nat.zero_mul,Nat.add_zero,Nat.one_mul,Nat.reduceMul] at i1 i2 i3
 go_enter func113,ntmps113;go_upto_region 4 with (go_at_call 107;refine (fA C m cc k n _ 3 c fc ev 1 (by omega) 10 ni [.mk ka na sa,.mk kb nb sb,.mk kd nd sd] _ _ h1.out (hT.ok.below bw2)).mono ?_;rintro e w1 ⟨A3,ci,rfl,hl3,r3,hb1⟩;have hZ1:=bH hb1;have hJ1:=((aC w 95 #[.slice C m cc,.int .i64 k,.int .i64 n,.slice (some ⟨bp,op,none⟩) 3 c,.func (.func fc) #[] ev] rfl).alloc (.cells Zr 25)).keep hb1;have g1:Bw w w1:=bQ bw2 hb1)
 refine aN ?_;intro wx hwx;have hJx:=(show Blk wx w.heap.size _ by rw [hwx];exact hJ1.alloc _);have hZx:=(show Blk wx (w.heap.size+1) _ by rw [hwx];exact hZ1.alloc _);have hIx0:Blk wx w1.heap.size (Ro 10 ni A3 3 ci):=by rw [hwx];exact aC _ 25 _ rfl
 have gx:Bw w wx:=by rw [hwx];exact g1.alloc g1.size _
 have r3x:Rd wx A3 0 [.mk ka na sa,.mk kb nb sb,.mk kd nd sd]:=by rw [hwx];exact r3.alloc _
 clear hwx;obtain ⟨bi,oi,Aa,ca,rfl,a1,a2,a3,hla,ra0⟩:=kZ r3x;obtain ⟨Ab,cb,c1,c2,c3,hlb,rb0⟩:=tI r3x;obtain ⟨Ad,cd,d1,d2,d3,hld,rd0⟩:=kd2 r3x;simp only [Nat.zero_mul,Nat.add_zero,Nat.one_mul,Nat.reduceMul] at a1 a2 a3 c1 c2 c3 d1 d2 d3
 have hIx:Blk wx w1.heap.size (Ro 10 ni (some ⟨bi,oi,none⟩) 3 ci):=hIx0;have u2':=aF hIx.three.2.2;have y0':=aF a1;have y1':=aF a2;have y2':=aF a3;have uj0:=aF (hJx.at_ (i:=0) rfl);have uj1:=aF (hJx.at_ (i:=1) rfl);have uj2:=aF (hJx.at_ (i:=2) rfl);have uj3:=aF (hJx.at_ (i:=3) rfl);have uj4:=aF (hJx.at_ (i:=4) rfl);refine dX wx [6] [0,1,2,3,4] 7 2 (lT:=[_,_,_,_,_]) ?_;intro q0 bq0;refine bV (aD ?_);refine bG 5 ?_
 ·rcases aO hs.out with ⟨b,hf,rfl⟩|⟨u,hf,hs⟩
  ·have qb:=eN b;replace hf:=aD hf;go_wp2_with (go_at_call 134;refine (uF C m cc k n _ 3 c fc ev 0 (by omega) ka na sa Aa ca _ ty _ hf.out ((hT.below gx).below bq0) hv hva.out (ra0.below bq0)).mono ?_;rintro e q1 ⟨he,hbq1⟩;obtain rfl:e = .returned (.int .i64 (dL b)):=he)
   refine aY bq0 hbq1 ?_;intro bq1 lq1;refine cD [6] (lB:=[_]) ?_;have hZ3:=hZx.keep bq1;have g3:=gx.trans (bq1.mono gx.size);obtain ⟨f0,f1,f2,e0,e1,e2⟩:=bW hZ3;go_wp2_with fail
   refine bodyPost_ret (v:=.tuple #[.agg Zr,.int .i64 (dL b)]) (by simp [results,results113,go_sem,f0,f1,f2]) rfl ⟨rfl,?_⟩;exact bT g3
  ·obtain ⟨hvb,hs⟩:=gM hs;replace hvb:=aD (show aE (.mk 5 0 [.mk kp np sp,.mk kb nb sb])=true from hvb);replace hf:=aD (aMn hf);replace hs:=aD hs;go_wp2_with (go_at_call 134;refine (lD C m cc k n _ 3 c fc ev 0 (by omega) ka na sa Aa ca _ _ hf.out ((hT.ok.below gx).below bq0) (ra0.below bq0)).mono ?_;rintro e q1 ⟨rfl,hbq1⟩)
   refine aY bq0 hbq1 ?_;intro bq1 lq1;refine cD [6] (lB:=[_]) ?_;have hJ3:=hJx.keep bq1;have hZ3:=hZx.keep bq1;have hI3:=hIx.keep bq1;have g3:=gx.trans (bq1.mono gx.size);have j3:=hJ3.at_ (i:=3) rfl;have p0:=(bU g3) _ _ i1;have p1:=(bU g3) _ _ i2;have p2:=(bU g3) _ _ i3;go_upto_region 8 with fail
   refine aN ?_;intro wu hwu;have hJu:=(show Blk wu w.heap.size _ by rw [hwu];exact hJ3.alloc _);have hZu:=(show Blk wu (w.heap.size+1) _ by rw [hwu];exact hZ3.alloc _);have hIu:=(show Blk wu w1.heap.size _ by rw [hwu];exact hI3.alloc _);have hPu:Blk wu q1.heap.size (Ro kp np Ap sp.length cp):=by rw [hwu];exact aC _ 25 _ rfl
   have gu:Bw w wu:=by rw [hwu];exact g3.alloc g3.size _
   have kxu:Bw wx wu:=by rw [hwu];exact bq1.alloc bq1.size _
   clear hwu j3 p0 p1 p2;have rpu:=rp0.below gu;have rbu:=rb0.below kxu;obtain ⟨v0,v1,v2⟩:=iD hPu;have u2:=aF hIu.three.2.2;have y0:=aF ((bU kxu) _ _ c1);have y1:=aF ((bU kxu) _ _ c2);have y2:=aF ((bU kxu) _ _ c3);go_cut [5,8] (fun vc vp wy=>∃(gz:Nat) (Az:Option Addr) (cz:Nat),vp = .pointer (some ⟨gz,0,none⟩)∧vc = .int .i64 0∧Blk wy gz (Ro 5 0 Az 2 cz)∧Rd wy Az 0 [.mk kp np sp,.mk kb nb sb]∧Bw wu wy∧wu.heap.size≤gz)
   case first=>
    refine dX wu [8,9,10,12,13] [0,1,2,3,4] 14 9 (lT:=[_,_,_,_,_]) ?_;intro q0 bq0;refine bV (aD ?_);refine kX 5 11 ?_ ?_
    ·go_wp2_with fail
     refine dO ?_;intro q1 hbq1 zq1 seq1;have rq1:Rd q1 (some ⟨q0.heap.size,0,none⟩) 0 [.mk kp np sp,.mk kb nb sb]:=cT (s0:=sp) (s1:=sb) zq1 hlp hlb ((rpu.below bq0).below hbq1) ((rbu.below bq0).below hbq1);refine aY bq0 hbq1 ?_;intro bq1 lq1;refine kX 6 11 ?_ ?_
     ·go_wp2_with (go_at_call 18;refine (aS 5 _ ⟨_,_,_,rfl⟩ _).mono ?_;rintro e q2 ⟨rfl,hbq2⟩)
      have Pq2:=rq1.below hbq2;refine aY bq1 hbq2 ?_;intro bq2 lq2;refine kX 7 11 ?_ ?_
      ·go_wp2_with (go_at_call 101;refine (bC 5 0 [.mk kp np sp,.mk kb nb sb] _ 2 _ hvb.out Pq2).mono ?_;rintro e q3 ⟨rfl,hbq3⟩)
       have Pq3:=Pq2.below hbq3;refine aY bq2 hbq3 ?_;intro bq3 lq3;refine eS [8,9,10] 3 (lT:=[_,_,_]) ?_;refine bV (aD ?_);refine bG 11 ?_
       ·go_wp2_with fail
        refine dO ?_;intro q4 hbq4 zq4 seq4;have Pq4:=Pq3.below hbq4;refine aY bq3 hbq4 ?_;intro bq4 lq4;refine cD [12,13] (lB:=[_,_]) ?_;obtain ⟨d0,d1,d2,e0,e1,e2⟩:=bW zq4;have szb:wu.heap.size≤q3.heap.size:=by first|exact bq0.size|exact bq3.size
        go_wp2_with fail
        go_meet
        exact ⟨q3.heap.size,some ⟨q0.heap.size,0,none⟩,2,rfl,rfl,((zq4.set_ 0 _).set_ 1 _).set_ 2 _,aZ zq4 hvb.out Pq4 _ _ _,((bq4.setCell szb _).setCell szb _).setCell szb _,szb⟩
      ·go_wp2_with fail
       refine dO ?_;intro q5 hbq5 zq5 seq5;have Pq5:=Pq2.below hbq5;refine aY bq2 hbq5 ?_;intro bq5 lq5;refine bG 7 ?_
       ·go_wp2_with (go_at_call 101;refine (bC 5 0 [.mk kp np sp,.mk kb nb sb] _ 2 _ hvb.out Pq5).mono ?_;rintro e q6 ⟨rfl,hbq6⟩)
        have Pq6:=Pq5.below hbq6;have Zq6:=zq5.keep hbq6;refine aY bq5 hbq6 ?_;intro bq6 lq6;refine eS [8,9,10] 2 (lT:=[_,_,_]) ?_;refine bV (aD ?_);refine cD [12,13] (lB:=[_,_]) ?_;obtain ⟨d0,d1,d2,e0,e1,e2⟩:=bW Zq6;have szb:wu.heap.size≤q2.heap.size:=by first|exact bq0.size|exact bq2.size
        go_wp2_with fail
        go_meet
        exact ⟨q2.heap.size,some ⟨q0.heap.size,0,none⟩,2,rfl,rfl,((Zq6.set_ 0 _).set_ 1 _).set_ 2 _,aZ Zq6 hvb.out Pq6 _ _ _,((bq6.setCell szb _).setCell szb _).setCell szb _,szb⟩
     ·go_wp2_with fail
      refine dO ?_;intro q7 hbq7 zq7 seq7;have Pq7:=rq1.below hbq7;refine aY bq1 hbq7 ?_;intro bq7 lq7;refine bG 6 ?_
      ·go_wp2_with (go_at_call 18;refine (aS 5 _ ⟨_,_,_,rfl⟩ _).mono ?_;rintro e q8 ⟨rfl,hbq8⟩)
       have Pq8:=Pq7.below hbq8;have Zq8:=zq7.keep hbq8;refine aY bq7 hbq8 ?_;intro bq8 lq8;refine bG 7 ?_
       ·go_wp2_with (go_at_call 101;refine (bC 5 0 [.mk kp np sp,.mk kb nb sb] _ 2 _ hvb.out Pq8).mono ?_;rintro e q9 ⟨rfl,hbq9⟩)
        have Pq9:=Pq8.below hbq9;have Zq9:=Zq8.keep hbq9;refine aY bq8 hbq9 ?_;intro bq9 lq9;refine eS [8,9,10] 2 (lT:=[_,_,_]) ?_;refine bV (aD ?_);refine cD [12,13] (lB:=[_,_]) ?_;obtain ⟨d0,d1,d2,e0,e1,e2⟩:=bW Zq9;have szb:wu.heap.size≤q1.heap.size:=by first|exact bq0.size|exact bq1.size
        go_wp2_with fail
        go_meet
        exact ⟨q1.heap.size,some ⟨q0.heap.size,0,none⟩,2,rfl,rfl,((Zq9.set_ 0 _).set_ 1 _).set_ 2 _,aZ Zq9 hvb.out Pq9 _ _ _,((bq9.setCell szb _).setCell szb _).setCell szb _,szb⟩
    ·go_wp2_with fail
     refine dO ?_;intro q10 hbq10 zq10 seq10;refine aY bq0 hbq10 ?_;intro bq10 lq10;refine bG 5 ?_
     ·go_wp2_with fail
      refine dO ?_;intro q11 hbq11 zq11 seq11;have rq11:Rd q11 (some ⟨q10.heap.size,0,none⟩) 0 [.mk kp np sp,.mk kb nb sb]:=cT (s0:=sp) (s1:=sb) zq11 hlp hlb ((rpu.below bq10).below hbq11) ((rbu.below bq10).below hbq11);have Zq11:=zq10.keep hbq11;refine aY bq10 hbq11 ?_;intro bq11 lq11;refine bG 6 ?_
      ·go_wp2_with (go_at_call 18;refine (aS 5 _ ⟨_,_,_,rfl⟩ _).mono ?_;rintro e q12 ⟨rfl,hbq12⟩)
       have Zq12:=Zq11.keep hbq12;have Pq12:=rq11.below hbq12;refine aY bq11 hbq12 ?_;intro bq12 lq12;refine bG 7 ?_
       ·go_wp2_with (go_at_call 101;refine (bC 5 0 [.mk kp np sp,.mk kb nb sb] _ 2 _ hvb.out Pq12).mono ?_;rintro e q13 ⟨rfl,hbq13⟩)
        have Zq13:=Zq12.keep hbq13;have Pq13:=Pq12.below hbq13;refine aY bq12 hbq13 ?_;intro bq13 lq13;refine eS [8,9,10] 2 (lT:=[_,_,_]) ?_;refine bV (aD ?_);refine cD [12,13] (lB:=[_,_]) ?_;obtain ⟨d0,d1,d2,e0,e1,e2⟩:=bW Zq13;have szb:wu.heap.size≤q0.heap.size:=by first|exact bq0.size|exact bq0.size
        go_wp2_with fail
        go_meet
        exact ⟨q0.heap.size,some ⟨q10.heap.size,0,none⟩,2,rfl,rfl,((Zq13.set_ 0 _).set_ 1 _).set_ 2 _,aZ Zq13 hvb.out Pq13 _ _ _,((bq13.setCell szb _).setCell szb _).setCell szb _,szb⟩
   case rest=>
    obtain ⟨gz,Az,cz,rfl,rfl,hTz,rz,hxy,hgz⟩:=hcut;have gy:=gu.trans (hxy.mono gu.size);have hJy:=hJu.keep hxy;have hZy:=hZu.keep hxy;have hPy:=hPu.keep hxy;have hIy:=hIu.keep hxy;obtain ⟨t0,t1,t2⟩:=hTz.three;have j0:=hJy.at_ (i:=0) rfl;have j1:=hJy.at_ (i:=1) rfl;have j2:=hJy.at_ (i:=2) rfl;have j3:=hJy.at_ (i:=3) rfl;have j4:=hJy.at_ (i:=4) rfl;rcases aO hs.out with ⟨b,h2c,rfl⟩|⟨u,h2c,hs⟩
    ·have qb:=eN b;replace h2c:=aD h2c;go_wp2_with (go_at_call 108;refine (mN C m cc k n _ 3 c fc ev 2 (by omega) 5 0 [.mk kp np sp,.mk kb nb sb] Az cz _ ty _ h2c.out (hT.below gy) hv hvb.out rz).mono ?_;rintro e w5 ⟨he,hb5⟩;obtain rfl:e = .returned (.int .i64 (dL b)):=he;have hZ5:=hZy.keep hb5;have g5:=gy.trans (hb5.mono gy.size);obtain ⟨f0,f1,f2,e0,e1,e2⟩:=bW hZ5)
     refine bodyPost_ret (v:=.tuple #[.agg Zr,.int .i64 (dL b)]) (by simp [results,results113,go_sem,f0,f1,f2]) rfl ⟨rfl,?_⟩;exact bT g5
    replace h2c:=aD (oY h2c);replace hs:=aD (mR hs);go_upto_region 12 with (go_at_call 108;refine (fC C m cc k n _ 3 c fc ev 2 (by omega) 5 0 [.mk kp np sp,.mk kb nb sb] Az cz _ _ h2c.out (hT.ok.below gy) rz).mono ?_;rintro e w5 ⟨rfl,hb5⟩)
    refine aN ?_;intro ws hws;have hZs:=(show Blk ws (w.heap.size+1) _ by rw [hws];exact hZy.keep hb5);have hPs:=(show Blk ws q1.heap.size _ by rw [hws];exact hPy.keep hb5);have hIs:=(show Blk ws w1.heap.size _ by rw [hws];exact hIy.keep hb5);have gs:Bw w ws:=by rw [hws];exact gy.trans (hb5.mono gy.size)
    have kxs:Bw wx ws:=by rw [hws];exact (kxu.trans (hxy.mono kxu.size)).trans (hb5.mono (kxu.trans (hxy.mono kxu.size)).size)
    clear hws;have rps:=rp0.below gs;have rds:=rd0.below kxs;obtain ⟨v0,v1,v2⟩:=iD hPs;have u2:=aF hIs.three.2.2;have y0:=aF ((bU kxs) _ _ d1);have y1:=aF ((bU kxs) _ _ d2);have y2:=aF ((bU kxs) _ _ d3);refine dX ws [8,9,10,11] [0,1,2,3,4] 12 7 (lT:=[_,_,_,_,_]) ?_;intro q0 bq0;refine bV (aD ?_);refine bG 5 ?_
    ·go_wp2_with fail
     refine dO ?_;intro q1 hbq1 zq1 seq1;have rq1:Rd q1 (some ⟨q0.heap.size,0,none⟩) 0 [.mk kp np sp,.mk kd nd sd]:=cT (s0:=sp) (s1:=sd) zq1 hlp hld ((rps.below bq0).below hbq1) ((rds.below bq0).below hbq1);refine aY bq0 hbq1 ?_;intro bq1 lq1;refine bG 6 ?_
     ·go_wp2_with (go_at_call 18;refine (aS 5 _ ⟨_,_,_,rfl⟩ _).mono ?_;rintro e q2 ⟨rfl,hbq2⟩)
      have Pq2:=rq1.below hbq2;refine aY bq1 hbq2 ?_;intro bq2 lq2;refine bG 7 ?_
      ·rcases hs.out with ⟨hvd,rfl⟩|⟨hvd,rfl⟩
       ·replace hvd:=aD (show aE (.mk 5 0 [.mk kp np sp,.mk kd nd sd])=true from hvd);go_wp2_with (go_at_call 101;refine (bC 5 0 [.mk kp np sp,.mk kd nd sd] _ 2 _ hvd.out Pq2).mono ?_;rintro e q3 ⟨rfl,hbq3⟩)
        have Pq3:=Pq2.below hbq3;refine aY bq2 hbq3 ?_;intro bq3 lq3;refine eS [8,9] 2 (lT:=[_,_]) ?_;refine bV (aD ?_);refine cD [10,11] (lB:=[_,_]) ?_;have hZ2:=hZs.keep bq3;obtain ⟨d0,d1,d2,e0,e1,e2⟩:=bW hZ2;have gf:=gs.trans (bq3.mono gs.size);have rP:=Pq3;go_wp2_with fail
        refine bodyPost_ret (v:=.tuple #[.agg (Ro 5 0 (some ⟨q0.heap.size,0,none⟩) 2 2),.int .i64 0]) (by simp [results,results113,go_sem,d0,d1,d2]) rfl ⟨some ⟨q0.heap.size,0,none⟩,2,rfl,by simp,aZ hZ2 hvd.out rP _ _ _,?_⟩;exact ((gf.setCell (by simp) _).setCell (by simp) _).setCell (by simp) _
       ·replace hvd:=aD (show aE (.mk 5 0 [.mk kp np sp,.mk kd nd sd])=false from hvd);go_wp2_with (go_at_call 101;refine (jD 5 0 [.mk kp np sp,.mk kd nd sd] _ 2 _ hszf.out hvd.out Pq2).mono ?_;rintro e q3 ⟨rfl,hbq3⟩)
        have Pq3:=Pq2.below hbq3;refine aY bq2 hbq3 ?_;intro bq3 lq3;refine eS [8,9] 2 (lT:=[_,_]) ?_;refine bV (aD ?_);refine cD [10,11] (lB:=[_,_]) ?_;have hZ2:=hZs.keep bq3;obtain ⟨d0,d1,d2,e0,e1,e2⟩:=bW hZ2;have gf:=gs.trans (bq3.mono gs.size);have rP:=Pq3;go_wp2_with fail
        refine bodyPost_ret (v:=.tuple #[.agg Zr,.int .i64 2]) (by simp [results,results113,go_sem,d0,d1,d2]) rfl ⟨rfl,?_⟩;exact bT gf
end Go.Proofs.YtajjhldcjikkpaaGreat
