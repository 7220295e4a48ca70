/- Parts of the proof. No condition. -/
import Derived.Test.YtajjhldcjikkpaaGreatK18
open Go.Proofs.Tryz
namespace Go.Proofs.YtajjhldcjikkpaaGreat
open Go.RowKit
set_option maxHeartbeats 16000000
set_option maxRecDepth 100000
set_option linter.unusedSimpArgs false
set_option linter.unusedVariables false
theorem aFp (C:Option Addr)(m cc:Nat)(k n:Int)(A:Option Addr)(c fc:Nat)(ev:Array Value)(kp np:Int)(sp:List Tm)(t1' t2':Tm)(ni ka na:Int)(sa:List Tm)(kb nb:Int)(sb:List Tm)(kd nd:Int)(sd:List Tm)(ty:Nat→Option Tm)(w:World)(h1:fmS (ty 1) 10=some (.mk 10 ni [.mk ka na sa,.mk kb nb sb,.mk kd nd sd]))(hf:wK (ty 0) (.mk ka na sa)=true)(hvb:aE (.mk 5 0 [.mk kp np sp,.mk kb nb sb])=true)(h2c:jC (ty 2) (.mk 5 0 [.mk kp np sp,.mk kb nb sb])=true)(hvd:aE (.mk 5 0 [.mk kp np sp,.mk kd nd sd])=true)(hT:TyOk fc ev w ty)(hr:Rd w A 0 [.mk kp np sp,t1',t2']) :
  Calls prog 113 #[.agg #[.slice C m cc,.int .i64 k,.int .i64 n,.slice A 3 c,.func (.func fc) #[] ev]] w (fD w 5 0 [.mk kp np sp,.mk kd nd sd]):=by
 replace h1:=aD h1;replace hf:=aD hf;replace hvb:=aD hvb;replace h2c:=aD h2c;replace hvd:=aD hvd;obtain ⟨bp,op,Ap,cp,rfl,i1,i2,i3,hlp,rp0⟩:=kZ hr;simp only [Nat.zero_mul,Nat.add_zero,Nat.one_mul,Nat.reduceMul] at i1 i2 i3
 go_enter func113,ntmps113;go_upto_region 4 with (go_at_call 107;refine (fA C m cc k n _ 3 c fc ev 1 (by omega) 10 ni [.mk ka na sa,.mk kb nb sb,.mk kd nd sd] ty _ h1.out (hT.below bw2)).mono ?_;rintro e w1 ⟨A3,ci,rfl,hl3,r3,hb1⟩;have hZ1:=bH hb1;have hJ1:=((aC w 95 #[.slice C m cc,.int .i64 k,.int .i64 n,.slice (some ⟨bp,op,none⟩) 3 c,.func (.func fc) #[] ev] rfl).alloc (.cells Zr 25)).keep hb1;have g1:Bw w w1:=bQ bw2 hb1)
 refine aN ?_;intro wx hwx;have hJx:=(show Blk wx w.heap.size _ by rw [hwx];exact hJ1.alloc _);have hZx:=(show Blk wx (w.heap.size+1) _ by rw [hwx];exact hZ1.alloc _);have hIx0:Blk wx w1.heap.size (Ro 10 ni A3 3 ci):=by rw [hwx];exact aC _ 25 _ rfl
 have gx:Bw w wx:=by rw [hwx];exact g1.alloc g1.size _
 have r3x:Rd wx A3 0 [.mk ka na sa,.mk kb nb sb,.mk kd nd sd]:=by rw [hwx];exact r3.alloc _
 clear hwx;obtain ⟨bi,oi,Aa,ca,rfl,a1,a2,a3,hla,ra0⟩:=kZ r3x;obtain ⟨Ab,cb,c1,c2,c3,hlb,rb0⟩:=tI r3x;obtain ⟨Ad,cd,d1,d2,d3,hld,rd0⟩:=kd2 r3x;simp only [Nat.zero_mul,Nat.add_zero,Nat.one_mul,Nat.reduceMul] at a1 a2 a3 c1 c2 c3 d1 d2 d3
 have hIx:Blk wx w1.heap.size (Ro 10 ni (some ⟨bi,oi,none⟩) 3 ci):=hIx0;have u2':=aF hIx.three.2.2;have y0':=aF a1;have y1':=aF a2;have y2':=aF a3;have uj0:=aF (hJx.at_ (i:=0) rfl);have uj1:=aF (hJx.at_ (i:=1) rfl);have uj2:=aF (hJx.at_ (i:=2) rfl);have uj3:=aF (hJx.at_ (i:=3) rfl);have uj4:=aF (hJx.at_ (i:=4) rfl);refine dX wx [6] [0,1,2,3,4] 7 2 (lT:=[_,_,_,_,_]) ?_;intro q0 bq0;refine bV (aD ?_);refine bG 5 ?_
 ·go_wp2_with (go_at_call 134;refine (lD C m cc k n _ 3 c fc ev 0 (by omega) ka na sa Aa ca ty _ hf.out ((hT.below gx).below bq0) (ra0.below bq0)).mono ?_;rintro e q1 ⟨rfl,hbq1⟩)
  refine aY bq0 hbq1 ?_;intro bq1 lq1;refine cD [6] (lB:=[_]) ?_;have hJ3:=hJx.keep bq1;have hZ3:=hZx.keep bq1;have hI3:=hIx.keep bq1;have g3:=gx.trans (bq1.mono gx.size);have j3:=hJ3.at_ (i:=3) rfl;have p0:=(bU g3) _ _ i1;have p1:=(bU g3) _ _ i2;have p2:=(bU g3) _ _ i3;go_upto_region 8 with fail
  refine aN ?_;intro wu hwu;have hJu:=(show Blk wu w.heap.size _ by rw [hwu];exact hJ3.alloc _);have hZu:=(show Blk wu (w.heap.size+1) _ by rw [hwu];exact hZ3.alloc _);have hIu:=(show Blk wu w1.heap.size _ by rw [hwu];exact hI3.alloc _);have hPu:Blk wu q1.heap.size (Ro kp np Ap sp.length cp):=by rw [hwu];exact aC _ 25 _ rfl
  have gu:Bw w wu:=by rw [hwu];exact g3.alloc g3.size _
  have kxu:Bw wx wu:=by rw [hwu];exact bq1.alloc bq1.size _
  clear hwu j3 p0 p1 p2;have rpu:=rp0.below gu;have rbu:=rb0.below kxu;obtain ⟨v0,v1,v2⟩:=iD hPu;have u2:=aF hIu.three.2.2;have y0:=aF ((bU kxu) _ _ c1);have y1:=aF ((bU kxu) _ _ c2);have y2:=aF ((bU kxu) _ _ c3);go_cut [5,8] (fun vc vp wy=>∃(gz:Nat) (Az:Option Addr) (cz:Nat),vp = .pointer (some ⟨gz,0,none⟩)∧vc = .int .i64 0∧Blk wy gz (Ro 5 0 Az 2 cz)∧Rd wy Az 0 [.mk kp np sp,.mk kb nb sb]∧Bw wu wy∧wu.heap.size≤gz)
  case first=>
   refine dX wu [8,9,10,12,13] [0,1,2,3,4] 14 9 (lT:=[_,_,_,_,_]) ?_;intro q0 bq0;refine bV (aD ?_);refine kX 5 11 ?_ ?_
   ·go_wp2_with fail
    refine dO ?_;intro q1 hbq1 zq1 seq1;have rq1:Rd q1 (some ⟨q0.heap.size,0,none⟩) 0 [.mk kp np sp,.mk kb nb sb]:=cT (s0:=sp) (s1:=sb) zq1 hlp hlb ((rpu.below bq0).below hbq1) ((rbu.below bq0).below hbq1);refine aY bq0 hbq1 ?_;intro bq1 lq1;refine kX 6 11 ?_ ?_
    ·go_wp2_with (go_at_call 18;refine (aS 5 _ ⟨_,_,_,rfl⟩ _).mono ?_;rintro e q2 ⟨rfl,hbq2⟩)
     have Pq2:=rq1.below hbq2;refine aY bq1 hbq2 ?_;intro bq2 lq2;refine kX 7 11 ?_ ?_
     ·go_wp2_with (go_at_call 101;refine (bC 5 0 [.mk kp np sp,.mk kb nb sb] _ 2 _ hvb.out Pq2).mono ?_;rintro e q3 ⟨rfl,hbq3⟩)
      have Pq3:=Pq2.below hbq3;refine aY bq2 hbq3 ?_;intro bq3 lq3;refine eS [8,9,10] 3 (lT:=[_,_,_]) ?_;refine bV (aD ?_);refine bG 11 ?_
      ·go_wp2_with fail
       refine dO ?_;intro q4 hbq4 zq4 seq4;have Pq4:=Pq3.below hbq4;refine aY bq3 hbq4 ?_;intro bq4 lq4;refine cD [12,13] (lB:=[_,_]) ?_;obtain ⟨d0,d1,d2,e0,e1,e2⟩:=bW zq4;have szb:wu.heap.size≤q3.heap.size:=by first|exact bq0.size|exact bq3.size
       go_wp2_with fail
       go_meet
       exact ⟨q3.heap.size,some ⟨q0.heap.size,0,none⟩,2,rfl,rfl,((zq4.set_ 0 _).set_ 1 _).set_ 2 _,aZ zq4 hvb.out Pq4 _ _ _,((bq4.setCell szb _).setCell szb _).setCell szb _,szb⟩
     ·go_wp2_with fail
      refine dO ?_;intro q5 hbq5 zq5 seq5;have Pq5:=Pq2.below hbq5;refine aY bq2 hbq5 ?_;intro bq5 lq5;refine bG 7 ?_
      ·go_wp2_with (go_at_call 101;refine (bC 5 0 [.mk kp np sp,.mk kb nb sb] _ 2 _ hvb.out Pq5).mono ?_;rintro e q6 ⟨rfl,hbq6⟩)
       have Pq6:=Pq5.below hbq6;have Zq6:=zq5.keep hbq6;refine aY bq5 hbq6 ?_;intro bq6 lq6;refine eS [8,9,10] 2 (lT:=[_,_,_]) ?_;refine bV (aD ?_);refine cD [12,13] (lB:=[_,_]) ?_;obtain ⟨d0,d1,d2,e0,e1,e2⟩:=bW Zq6;have szb:wu.heap.size≤q2.heap.size:=by first|exact bq0.size|exact bq2.size
       go_wp2_with fail
       go_meet
       exact ⟨q2.heap.size,some ⟨q0.heap.size,0,none⟩,2,rfl,rfl,((Zq6.set_ 0 _).set_ 1 _).set_ 2 _,aZ Zq6 hvb.out Pq6 _ _ _,((bq6.setCell szb _).setCell szb _).setCell szb _,szb⟩
    ·go_wp2_with fail
     refine dO ?_;intro q7 hbq7 zq7 seq7;have Pq7:=rq1.below hbq7;refine aY bq1 hbq7 ?_;intro bq7 lq7;refine bG 6 ?_
     ·go_wp2_with (go_at_call 18;refine (aS 5 _ ⟨_,_,_,rfl⟩ _).mono ?_;rintro e q8 ⟨rfl,hbq8⟩)
      have Pq8:=Pq7.below hbq8;have Zq8:=zq7.keep hbq8;refine aY bq7 hbq8 ?_;intro bq8 lq8;refine bG 7 ?_
      ·go_wp2_with (go_at_call 101;refine (bC 5 0 [.mk kp np sp,.mk kb nb sb] _ 2 _ hvb.out Pq8).mono ?_;rintro e q9 ⟨rfl,hbq9⟩)
       have Pq9:=Pq8.below hbq9;have Zq9:=Zq8.keep hbq9;refine aY bq8 hbq9 ?_;intro bq9 lq9;refine eS [8,9,10] 2 (lT:=[_,_,_]) ?_;refine bV (aD ?_);refine cD [12,13] (lB:=[_,_]) ?_;obtain ⟨d0,d1,d2,e0,e1,e2⟩:=bW Zq9;have szb:wu.heap.size≤q1.heap.size:=by first|exact bq0.size|exact bq1.size
       go_wp2_with fail
       go_meet
       exact ⟨q1.heap.size,some ⟨q0.heap.size,0,none⟩,2,rfl,rfl,((Zq9.set_ 0 _).set_ 1 _).set_ 2 _,aZ Zq9 hvb.out Pq9 _ _ _,((bq9.setCell szb _).setCell szb _).setCell szb _,szb⟩
   ·go_wp2_with fail
    refine dO ?_;intro q10 hbq10 zq10 seq10;refine aY bq0 hbq10 ?_;intro bq10 lq10;refine bG 5 ?_
    ·go_wp2_with fail
     refine dO ?_;intro q11 hbq11 zq11 seq11;have rq11:Rd q11 (some ⟨q10.heap.size,0,none⟩) 0 [.mk kp np sp,.mk kb nb sb]:=cT (s0:=sp) (s1:=sb) zq11 hlp hlb ((rpu.below bq10).below hbq11) ((rbu.below bq10).below hbq11);have Zq11:=zq10.keep hbq11;refine aY bq10 hbq11 ?_;intro bq11 lq11;refine bG 6 ?_
     ·go_wp2_with (go_at_call 18;refine (aS 5 _ ⟨_,_,_,rfl⟩ _).mono ?_;rintro e q12 ⟨rfl,hbq12⟩)
      have Zq12:=Zq11.keep hbq12;have Pq12:=rq11.below hbq12;refine aY bq11 hbq12 ?_;intro bq12 lq12;refine bG 7 ?_
      ·go_wp2_with (go_at_call 101;refine (bC 5 0 [.mk kp np sp,.mk kb nb sb] _ 2 _ hvb.out Pq12).mono ?_;rintro e q13 ⟨rfl,hbq13⟩)
       have Zq13:=Zq12.keep hbq13;have Pq13:=Pq12.below hbq13;refine aY bq12 hbq13 ?_;intro bq13 lq13;refine eS [8,9,10] 2 (lT:=[_,_,_]) ?_;refine bV (aD ?_);refine cD [12,13] (lB:=[_,_]) ?_;obtain ⟨d0,d1,d2,e0,e1,e2⟩:=bW Zq13;have szb:wu.heap.size≤q0.heap.size:=by first|exact bq0.size|exact bq0.size
       go_wp2_with fail
       go_meet
       exact ⟨q0.heap.size,some ⟨q10.heap.size,0,none⟩,2,rfl,rfl,((Zq13.set_ 0 _).set_ 1 _).set_ 2 _,aZ Zq13 hvb.out Pq13 _ _ _,((bq13.setCell szb _).setCell szb _).setCell szb _,szb⟩
  case rest=>
   obtain ⟨gz,Az,cz,rfl,rfl,hTz,rz,hxy,hgz⟩:=hcut;have gy:=gu.trans (hxy.mono gu.size);have hJy:=hJu.keep hxy;have hZy:=hZu.keep hxy;have hPy:=hPu.keep hxy;have hIy:=hIu.keep hxy;obtain ⟨t0,t1,t2⟩:=hTz.three;have j0:=hJy.at_ (i:=0) rfl;have j1:=hJy.at_ (i:=1) rfl;have j2:=hJy.at_ (i:=2) rfl;have j3:=hJy.at_ (i:=3) rfl;have j4:=hJy.at_ (i:=4) rfl;go_upto_region 12 with (go_at_call 108;refine (fC C m cc k n _ 3 c fc ev 2 (by omega) 5 0 [.mk kp np sp,.mk kb nb sb] Az cz ty _ h2c.out (hT.below gy) rz).mono ?_;rintro e w5 ⟨rfl,hb5⟩)
   refine aN ?_;intro ws hws;have hZs:=(show Blk ws (w.heap.size+1) _ by rw [hws];exact hZy.keep hb5);have hPs:=(show Blk ws q1.heap.size _ by rw [hws];exact hPy.keep hb5);have hIs:=(show Blk ws w1.heap.size _ by rw [hws];exact hIy.keep hb5);have gs:Bw w ws:=by rw [hws];exact gy.trans (hb5.mono gy.size)
   have kxs:Bw wx ws:=by rw [hws];exact (kxu.trans (hxy.mono kxu.size)).trans (hb5.mono (kxu.trans (hxy.mono kxu.size)).size)
   clear hws;have rps:=rp0.below gs;have rds:=rd0.below kxs;obtain ⟨v0,v1,v2⟩:=iD hPs;have u2:=aF hIs.three.2.2;have y0:=aF ((bU kxs) _ _ d1);have y1:=aF ((bU kxs) _ _ d2);have y2:=aF ((bU kxs) _ _ d3);refine dX ws [8,9,10,11] [0,1,2,3,4] 12 7 (lT:=[_,_,_,_,_]) ?_;intro q0 bq0;refine bV (aD ?_);refine bG 5 ?_
   ·go_wp2_with fail
    refine dO ?_;intro q1 hbq1 zq1 seq1;have rq1:Rd q1 (some ⟨q0.heap.size,0,none⟩) 0 [.mk kp np sp,.mk kd nd sd]:=cT (s0:=sp) (s1:=sd) zq1 hlp hld ((rps.below bq0).below hbq1) ((rds.below bq0).below hbq1);refine aY bq0 hbq1 ?_;intro bq1 lq1;refine bG 6 ?_
    ·go_wp2_with (go_at_call 18;refine (aS 5 _ ⟨_,_,_,rfl⟩ _).mono ?_;rintro e q2 ⟨rfl,hbq2⟩)
     have Pq2:=rq1.below hbq2;refine aY bq1 hbq2 ?_;intro bq2 lq2;refine bG 7 ?_
     ·go_wp2_with (go_at_call 101;refine (bC 5 0 [.mk kp np sp,.mk kd nd sd] _ 2 _ hvd.out Pq2).mono ?_;rintro e q3 ⟨rfl,hbq3⟩)
      have Pq3:=Pq2.below hbq3;refine aY bq2 hbq3 ?_;intro bq3 lq3;refine eS [8,9] 2 (lT:=[_,_]) ?_;refine bV (aD ?_);refine cD [10,11] (lB:=[_,_]) ?_;have hZ2:=hZs.keep bq3;obtain ⟨d0,d1,d2,e0,e1,e2⟩:=bW hZ2;have gf:=gs.trans (bq3.mono gs.size);have rP:=Pq3;go_wp2_with fail
      refine bodyPost_ret (v:=.tuple #[.agg (Ro 5 0 (some ⟨q0.heap.size,0,none⟩) 2 2),.int .i64 0]) (by simp [results,results113,go_sem,d0,d1,d2]) rfl ⟨some ⟨q0.heap.size,0,none⟩,2,rfl,by simp,aZ hZ2 hvd.out rP _ _ _,?_⟩;exact ((gf.setCell (by simp) _).setCell (by simp) _).setCell (by simp) _
theorem PartR.ownBY {lo:Nat→Prop}{B:Nat}{w:World}{v:Value}{ts:List Tm}(h:PartR lo B w v ts):∀g,v.ownBlock=some g→B≤g:=fun g hg=>by
 obtain ⟨xs,h1,_⟩:=h;exact (h1.lt g hg).1
def aXr (p:Nat→Prop)(w:World)(ctx:List Tm)(e:Ending)(w':World):Prop:=
 ∃D d,e = .returned (.tuple #[.slice D ctx.length d,.int .i64 0])∧RdP (fun b=>p b∨w.heap.size≤b) w' D 0 ctx∧Bw w w'
theorem aNi (p:Nat→Prop)(ctx:List Tm)(C:Option Addr)(cc:Nat)(k n:Int)(ks:List Tm)(A:Option Addr)(c:Nat)(w:World)(hm:ctx.length<20)(hl:ks.length≤9223372036854775807)(hrc:RdP p w C 0 ctx)(hra:RdP p w A 0 ks)(hp:∀b,p b→b<w.heap.size) :
  Calls prog 100 #[.slice C ctx.length cc,.agg (Ro k n A ks.length c)] w (aXr p w (ctx++[.mk k n ks])):=by
 have hq:decide ((20:Int)≤(ctx.length:Int))=false:=decide_eq_false (by omega);go_enter func100,ntmps100;go_upto_region 3 with fail
 refine aWq (show Blk _ w.heap.size (Ro k n A ks.length c) from (aC _ 25 _ rfl)) bw1 ?_;intro wx hT gx;have rcx:=hrc.below gx;have rax:=hra.below gx;have hpx:∀b,p b→b<wx.heap.size:=fun b hb=>by have:=hp b hb;have:=gx.size;omega
 obtain ⟨v0,v1,v2⟩:=iD hT;refine dX wx [4,5,6] [0,2] 7 5 (lT:=[_,_]) ?_;intro q0 bq0;refine bV (aD ?_);refine kX 1 3 ?_ ?_
 ·go_wp2_with (go_at_call 116;refine (nM p ctx _ cc _ (by omega) (rcx.below bq0) (fun b hb=>rO (hpx b hb) bq0.size)).mono ?_;rintro e q1 ⟨C2,c2,rfl,hPq1,hbq1⟩)
  refine aY bq0 hbq1 ?_;intro bq1 lq1;refine bG 3 ?_
  ·go_wp2_with fail
   refine dO ?_;intro q2 hbq2 zq2 seq2;have Pq2:=hPq1.below hbq2;refine aY bq1 hbq2 ?_;intro bq2 lq2;refine cD [4,5,6] (lB:=[_,_,_]) ?_;have hB0:wx.heap.size≤q0.heap.size:=bq0.size;have hsz:wx.heap.size≤q2.heap.size:=bq2.size;have hBw:q0.heap.size≤q2.heap.size:=by first|exact pS _|omega
   refine eT (lo:=p) (B:=q0.heap.size) (q:=p) Pq2 hBw (rax.below bq2) (fun b hb=>⟨.inl hb,by have:=hpx b hb;omega,fun e=>by have:=hpx b hb;have:=Pq2.ownBY b e;omega⟩) hl rfl (by omega) q1.heap.size 1 zq2 rfl _ _ rfl rfl rfl ?_;intro A9 c9 w9 hp9 hb9 hg9 hn9;obtain ⟨A8,c8,e8,r8⟩:=hp9.rd;injection e8 with e81 e82 e83;subst e81 e83;have hlen9:(ctx++[Tm.mk k n ks]).length=ctx.length+1:=by simp
   refine gS (aD ?_);go_wp2_with fail
   go_ret2
   exact ⟨A9,c9,by rw [hlen9];rfl,r8.mono (fun b hb=>hb.imp id fun h=>by have:=gx.size;omega),(gx.trans (bq2.mono gx.size)).trans (hb9.mono (by have:=gx.size;omega))⟩
 ·go_wp2_with fail
  refine dO ?_;intro q3 hbq3 zq3 seq3;refine aY bq0 hbq3 ?_;intro bq3 lq3;refine bG 1 ?_
  ·go_wp2_with (go_at_call 116;refine (nM p ctx _ cc _ (by omega) (rcx.below bq3) (fun b hb=>rO (hpx b hb) bq3.size)).mono ?_;rintro e q4 ⟨C2,c2,rfl,hPq4,hbq4⟩)
   have Zq4:=zq3.keep hbq4;refine aY bq3 hbq4 ?_;intro bq4 lq4;refine cD [4,5,6] (lB:=[_,_,_]) ?_;have hB0:wx.heap.size≤q3.heap.size:=bq3.size;have hsz:wx.heap.size≤q4.heap.size:=bq4.size;have hBw:q3.heap.size≤q4.heap.size:=by first|exact pS _|omega
   refine eT (lo:=p) (B:=q3.heap.size) (q:=p) hPq4 hBw (rax.below bq4) (fun b hb=>⟨.inl hb,by have:=hpx b hb;omega,fun e=>by have:=hpx b hb;have:=hPq4.ownBY b e;omega⟩) hl rfl (by omega) q0.heap.size 1 Zq4 rfl _ _ rfl rfl rfl ?_;intro A9 c9 w9 hp9 hb9 hg9 hn9;obtain ⟨A8,c8,e8,r8⟩:=hp9.rd;injection e8 with e81 e82 e83;subst e81 e83;have hlen9:(ctx++[Tm.mk k n ks]).length=ctx.length+1:=by simp
   refine gS (aD ?_);go_wp2_with fail
   go_ret2
   exact ⟨A9,c9,by rw [hlen9];rfl,r8.mono (fun b hb=>hb.imp id fun h=>by have:=gx.size;omega),(gx.trans (bq4.mono gx.size)).trans (hb9.mono (by have:=gx.size;omega))⟩
theorem aAs (C:Option Addr)(m cc:Nat)(k n:Int)(A:Option Addr)(la c:Nat)(i:Nat)(w:World)(hu:aR k i=0) :
  Calls prog 82 #[.slice C m cc,.agg (Ro k n A la c),.int .i64 i] w fun e w'=>e = .returned (.tuple #[.slice C m cc,.int .i64 0])∧Bw w w':=by
 have hu':=aD hu;clear hu;go_enter func82,ntmps82;go_wp2_with (go_at_call 73;refine (kS _ _ _).mono ?_;rw [hu'.out];rintro e w1 ⟨rfl,rfl⟩)
 go_ret2
 exact ⟨rfl,bw1⟩
theorem aJd (p:Nat→Prop)(ctx:List Tm)(C:Option Addr)(cc:Nat)(k n:Int)(ka na:Int)(sa:List Tm)(ts:List Tm)(A:Option Addr)(c:Nat)(i:Nat)(w:World)(hu:aR k i=1)(hm:ctx.length<20)(hlt:ts.length≤1000)(hrc:RdP p w C 0 ctx)(hra:RdP p w A 0 (.mk ka na sa::ts))(hp:∀b,p b→b<w.heap.size) :
  Calls prog 82 #[.slice C ctx.length cc,.agg #[.int .i64 k,.int .i64 n,.slice A (ts.length+1) c],.int .i64 i] w (aXr p w (ctx++[.mk ka na sa])):=by
 have hu':=aD hu;clear hu;obtain ⟨ba,oa,x1,x2,x3,Aa,ca,rfl,hk1,i1,i2,i3,hla,ra⟩:=hra.at_ (j:=0) (by simp);injection hk1 with e1 e2 e3;subst e1 e2 e3;simp only [Nat.zero_mul,Nat.add_zero] at i1 i2 i3
 have lb:=kY _ _ i1;have q2:(0:Int)<((ts.length:Nat):Int)+1:=by omega
 go_enter func82,ntmps82;go_wp2_with (first
  | (go_at_call 100;refine (aNi p ctx C cc ka na sa Aa ca _ hm hla (hrc.alloc _) (ra.alloc _) (fun b hb=>by have:=hp b hb;simp;omega)).mono ?_;rintro e w2 ⟨D,d,rfl,hrD,hb2⟩)
  | (go_at_call 73;refine (kS _ _ _).mono ?_;rw [hu'.out];rintro e w1 ⟨rfl,rfl⟩))
 have hlen9:(ctx++[Tm.mk ka na sa]).length=ctx.length+1:=by simp
 go_ret2
 exact ⟨D,d,by rw [hlen9];rfl,hrD.mono (fun b hb=>hb.imp id fun h=>by simp at h;omega),bw1.trans (hb2.mono (by simp))⟩
def aYa (w:World)(ctx:List Tm)(e:Ending)(w':World):Prop:=
 ∃D d,e = .returned (.tuple #[.slice D ctx.length d,.int .i64 0])∧Rd w' D 0 ctx∧Bw w w'
theorem aEo (ctx:List Tm)(C:Option Addr)(cc:Nat)(k n:Int)(ka na:Int)(sa:List Tm)(ts:List Tm)(A:Option Addr)(c:Nat)(i:Nat)(w:World)(hu:aR k i=1)(hm:ctx.length<20)(hlt:ts.length≤1000)(hrc:Rd w C 0 ctx)(hra:Rd w A 0 (.mk ka na sa::ts)) :
  Calls prog 82 #[.slice C ctx.length cc,.agg (Ro k n A (ts.length+1) c),.int .i64 i] w (aYa w (ctx++[.mk ka na sa])):=
 (aJd (·<w.heap.size) ctx C cc k n ka na sa ts A c i w hu hm hlt hrc.rdp hra.rdp (fun _ h=>h)).mono fun e w' ⟨D,d,he,hr,hb⟩=>⟨D,d,he,hr.rd,hb⟩
theorem eD {x:Int}(h0:0≤x)(h3:x≤3):aE (.mk 2 x [])=true:=by
 rcases (show x=0∨x=1∨x=2∨x=3 by omega) with rfl|rfl|rfl|rfl<;>decide +kernel
theorem pF:aE aCk=true:=by decide +kernel
theorem nK {b c:Int}{t u:Tm}(h:cG b c t=some u):aE u=true:=by
 unfold cG at h
 split at h
 ·split at h
  ·injection h with h;subst h;assumption
  ·cases h
 ·cases h
theorem mH {o:Option Tm}{l:Int}(h:wT o=some l):0≤l∧l≤3:=by
 obtain ⟨s3,h1⟩:=aBw h;obtain ⟨n3,s3',he,hv⟩:=fJ h1;injection he with _ e2 _;subst e2;have:=(aX hv).2;have h3:dN 2=3:=rfl;omega
theorem aXf {l:List Tm}(h:l.length=2):∃a b,l=[a,b]:=by
 match l,h with
 | [a,b],_=>exact ⟨a,b,rfl⟩
theorem aWm {l:List Tm}(h:l.length=3):∃a b c,l=[a,b,c]:=by
 match l,h with
 | [a,b,c],_=>exact ⟨a,b,c,rfl⟩
theorem vS {rec_:Tm→Option Tm}{ctx:List Tm}{t s:Tm}{ty:Nat→Option Tm}(h:aKm rec_ ctx t ty=some s)(hv:aE t=true):aE s=true:=by
 obtain ⟨k,n,ks⟩:=t;have har:=aX hv;unfold aKm at h
 by_cases e1:k=1
 ·rw [if_pos (show (Tm.mk k n ks).k=1 from e1)] at h;split at h
  ·exact nK h
  ·cases h
 rw [if_neg (show ¬(Tm.mk k n ks).k=1 from e1)] at h;by_cases e2:k=2
 ·rw [if_pos (show (Tm.mk k n ks).k=2 from e2)] at h;subst e2;have h3:dN 2=3:=rfl;split at h
  ·cases h
  ·rename_i hn
   have hn3:n≠3:=hn;injection h with h;subst h;exact eD (x:=n+1) (by omega) (by omega)
 rw [if_neg (show ¬(Tm.mk k n ks).k=2 from e2)] at h;by_cases e6:k=6
 ·rw [if_pos (show (Tm.mk k n ks).k=6 from e6)] at h;injection h with h;subst h;exact eD (by omega) (by omega)
 rw [if_neg (show ¬(Tm.mk k n ks).k=6 from e6)] at h;by_cases e7:k=7
 ·rw [if_pos (show (Tm.mk k n ks).k=7 from e7)] at h;injection h with h;subst h;exact pF
 rw [if_neg (show ¬(Tm.mk k n ks).k=7 from e7)] at h;by_cases e8:k=8
 ·rw [if_pos (show (Tm.mk k n ks).k=8 from e8)] at h;split at h
  ·injection h with h;subst h;exact pF
  ·cases h
 rw [if_neg (show ¬(Tm.mk k n ks).k=8 from e8)] at h;by_cases e3:k=3
 ·rw [if_pos (show (Tm.mk k n ks).k=3 from e3)] at h;split at h
  ·cases h
  ·rename_i i hi
   split at h
   ·cases h
   ·rename_i j hj
    have h1:=mH hi;have h2:=mH hj;injection h with h;subst h;split
    ·exact eD h2.1 h2.2
    ·exact eD h1.1 h1.2
 rw [if_neg (show ¬(Tm.mk k n ks).k=3 from e3)] at h;by_cases e4:k=4
 ·rw [if_pos (show (Tm.mk k n ks).k=4 from e4)] at h;split at h
  ·cases h
  ·split at h
   ·cases h
   ·split at h
    ·cases h
    ·rename_i o ho
     split at h
     ·injection h with h;subst h;exact kW ho
     ·cases h
 rw [if_neg (show ¬(Tm.mk k n ks).k=4 from e4)] at h;by_cases e5:k=5
 ·rw [if_pos (show (Tm.mk k n ks).k=5 from e5)] at h;split at h
  ·cases h
  ·split at h
   ·exact gI h
   ·cases h
 rw [if_neg (show ¬(Tm.mk k n ks).k=5 from e5)] at h;by_cases e9:k=9
 ·rw [if_pos (show (Tm.mk k n ks).k=9 from e9)] at h;split at h
  ·exact kW h
  ·cases h
 rw [if_neg (show ¬(Tm.mk k n ks).k=9 from e9)] at h;by_cases e10:k=10
 ·rw [if_pos (show (Tm.mk k n ks).k=10 from e10)] at h;split at h
  ·cases h
  ·rename_i i hi
   have h1:=mH hi;split at h
   ·injection h with h;subst h;exact eD h1.1 h1.2
   ·cases h
 rw [if_neg (show ¬(Tm.mk k n ks).k=10 from e10)] at h;by_cases e11:k=11
 ·rw [if_pos (show (Tm.mk k n ks).k=11 from e11)] at h;split at h
  ·cases h
  ·split at h
   ·exact kW h
   ·cases h
 rw [if_neg (show ¬(Tm.mk k n ks).k=11 from e11)] at h;by_cases e12:k=12
 ·rw [if_pos (show (Tm.mk k n ks).k=12 from e12)] at h;split at h
  ·cases h
  ·split at h
   ·exact kW h
   ·cases h
 rw [if_neg (show ¬(Tm.mk k n ks).k=12 from e12)] at h;by_cases e13:k=13
 ·rw [if_pos (show (Tm.mk k n ks).k=13 from e13)] at h;split at h
  ·cases h
  ·rename_i i hi
   split at h
   ·cases h
   ·rename_i j hj
    have h1:=mH hi;have h2:=mH hj;injection h with h;subst h;split
    ·exact eD h2.1 h2.2
    ·exact eD h1.1 h1.2
 rw [if_neg (show ¬(Tm.mk k n ks).k=13 from e13)] at h;by_cases e14:k=14
 ·rw [if_pos (show (Tm.mk k n ks).k=14 from e14)] at h;subst e14;obtain ⟨a,b,d,rfl⟩:=aWm (l:=ks) (by have:=har.1;have h3:aK 14=3:=rfl;omega);split at h
  ·cases h
  ·split at h
   ·cases h
   ·split at h
    ·injection h with h;rw [← h];exact aL hv (t:=a) (by simp)
    ·cases h
 rw [if_neg (show ¬(Tm.mk k n ks).k=14 from e14)] at h;by_cases e15:k=15
 ·rw [if_pos (show (Tm.mk k n ks).k=15 from e15)] at h;split at h
  ·cases h
  ·rename_i s hs
   obtain ⟨n3,s3,rfl,hv3⟩:=fJ hs;obtain ⟨a,b,rfl⟩:=aXf (l:=s3) (by have:=(aX hv3).1;have h3:aK 13=2:=rfl;omega);injection h with h;rw [← h];exact aL hv3 (t:=a) (by simp)
 rw [if_neg (show ¬(Tm.mk k n ks).k=15 from e15)] at h;by_cases e16:k=16
 ·rw [if_pos (show (Tm.mk k n ks).k=16 from e16)] at h;split at h
  ·cases h
  ·exact gI h
 rw [if_neg (show ¬(Tm.mk k n ks).k=16 from e16)] at h;cases h
theorem kL {N:Nat}{ctx:List Tm}{t s:Tm}(h:oS N ctx t=some s)(hv:aE t=true):aE s=true:=by
 cases N with
 | zero=>cases h
 | succ N=>exact vS h hv
theorem aBj (N:Nat)(ctx:List Tm):oS N ctx default=none:=by
 cases N with
 | zero=>rfl
 | succ N=>rfl
theorem wZ {ks:List Tm}{i:Nat}(h:i<ks.length):aI ks i=ks[i]:=by simp [aI,List.getD,oE h]
theorem aMi {N:Nat}{ctx:List Tm}{k n:Int}{ks:List Tm}{i:Nat}{s:Tm}(h:tyS (oS N) ctx (.mk k n ks) i=some s):i<ks.length:=by
 by_cases hi:i<ks.length
 ·exact hi
 ·have hk:aI ks i=default:=by simp [aI,List.getD,List.getElem?_eq_none (Nat.le_of_not_lt hi)]
  unfold tyS at h
  simp only [Tm.k,Tm.ks,hk,aBj] at h
  split at h
  ·cases h
  ·split at h<;>cases h
def aGa (N:Nat):Prop:=∀(ctx:List Tm) (k n:Int) (ks:List Tm) (kr nr:Int) (sr:List Tm),oS N ctx (.mk k n ks)=some (.mk kr nr sr)→aE (.mk k n ks)=true→(∀u,u∈ctx→aE u=true)→ctx.length≤20→
 ∀(C:Option Addr) (cc:Nat) (A:Option Addr) (c:Nat) (w:World),Rd w C 0 ctx→Rd w A 0 ks→Calls prog 59 #[.slice C ctx.length cc,.agg (Ro k n A ks.length c)] w (fD w kr nr sr)
theorem aDm {N:Nat}(ih:aGa N)(ctx:List Tm)(C:Option Addr)(cc:Nat)(k n:Int)(ks:List Tm)(A:Option Addr)(c b2 b3:Nat)(w:World)(hv:aE (.mk k n ks)=true)(hvc:∀u,u∈ctx→aE u=true)(hm:ctx.length≤20)(hB2:Blk w b2 #[.slice C ctx.length cc])(hB3:Blk w b3 (Ro k n A ks.length c))(hrc:Rd w C 0 ctx)(hra:Rd w A 0 ks) :
  TyOk 81 #[.pointer (some ⟨b2,0,none⟩),.pointer (some ⟨b3,0,none⟩)] w (tyS (oS N) ctx (.mk k n ks)):=by
 refine ⟨⟨b2,b3,rfl,rfl⟩,?_⟩;intro i kr nr sr hi ht w' hw' args ha;subst ha;show Calls prog 81 #[.int .i64 i,.pointer (some ⟨b2,0,none⟩),.pointer (some ⟨b3,0,none⟩)] w' _
 have hi2:=aMi ht;have hrc':=hrc.below hw';have hra':=hra.below hw';have hB2':=hB2.keep hw';have hB3':=hB3.keep hw';have lb2:=hB2'.lt;have lb3:=hB3'.lt;have z0:=hB2'.at_ (i:=0) rfl;obtain ⟨b,off,k1,n1,ks1,A1,c1,rfl,hkj,i1,i2,i3,hl1,hr1⟩:=hra'.at_ hi2;obtain ⟨x0,x1,x2⟩:=hB3'.three;have lb:=kY _ _ i1;have hv1:=aL hv (iS hi2);rw [hkj] at hv1;have hil:(i:Int)<(ks.length:Int):=by omega
 unfold tyS at ht
 simp only [Tm.k,Tm.ks,wZ hi2,hkj] at ht
 by_cases hu0:aR k i=0
 ·rw [if_pos hu0] at ht;have hvr:=aD (kL ht hv1);have hih:=aD (fun (w:World) (h1:Rd w C 0 ctx) (h2:Rd w A1 0 ks1)=>ih ctx k1 n1 ks1 kr nr sr ht hv1 hvc hm C cc A1 c1 w h1 h2);have hu:=aD hu0;clear hu0 ht hkj;go_enter func81,ntmps81;go_wp2_with (first
   | (go_at_call 59;have _t:=tok1;refine (hih.out _ (hrc'.below g1) (hr1.below g1)).mono ?_;rintro e w2 ⟨A9,c9,rfl,hl9,r9,hb2⟩;have hZ2:=hZ1.keep hb2;have g2:=g1.trans (hb2.mono g1.size);obtain ⟨d0,d1,d2,e0,e1,e2⟩:=bW hZ2)
   | (go_at_call 82;refine (aAs C ctx.length cc k n _ ks.length c i _ hu.out).mono ?_;rintro e w1 ⟨rfl,hb1⟩;have hZ1:Blk w1 w'.heap.size Zr:=(aC _ 25 _ rfl).keep hb1;have g1:Below w'.heap.size w' w1:=bw1.trans (hb1.mono (by simp));have y2:=(bU g1) _ _ x2;have y0:=(bU g1) _ _ i1;have y1:=(bU g1) _ _ i2;have y3:=(bU g1) _ _ i3;have tok1:=trivial))
  refine bodyPost_ret (v:=.tuple #[.agg (Ro kr nr A9 sr.length c9),.int .i64 0]) (by simp [results,results81,go_sem,d0,d1,d2]) rfl ⟨A9,c9,rfl,hl9,aZ hZ2 hvr.out r9 _ _ _,?_⟩;exact bT g2
 ·rw [if_neg hu0] at ht;have hu1:aR k i=1:=by have:=dH k i;omega
  have hun:(i:Int)=1∧binds k=true:=by unfold aR at hu1;split at hu1<;>simp_all
  obtain rfl:i=1:=by omega
  split at ht
  ·cases ht
  rename_i hm20
  obtain ⟨a0,ts,rfl⟩:∃a0 ts,ks=a0::ts:=by cases ks with|nil=>simp at hi2|cons a ts=>exact ⟨a,ts,rfl⟩
  obtain ⟨ka,na,sa⟩:=a0;have hk0:aI (Tm.mk ka na sa::ts) 0 = .mk ka na sa:=rfl;rw [hk0] at ht;have hvr:=aD (kL ht hv1);have hv0:=aL hv (t:=.mk ka na sa) (by simp);have hlt:ts.length≤1000:=by have:=aJ hv;have:=aQ (Tm.mk ka na sa::ts);simp at this;omega
  have hih:=aD (fun (D:Option Addr) (d:Nat) (w:World) (h1:Rd w D 0 (ctx++[.mk ka na sa])) (h2:Rd w A1 0 ks1)=>by
   have:=ih (ctx++[.mk ka na sa]) k1 n1 ks1 kr nr sr ht hv1 (fun u hu=>by rcases List.mem_append.1 hu with h|h;exact hvc u h;(rw [List.mem_singleton.1 h];exact hv0)) (by simp;omega) D d A1 c1 w h1 h2;rw [show (ctx++[Tm.mk ka na sa]).length=ctx.length+1 from by simp] at this;exact this)
  have hop:=aD (fun (w:World) (h1:Rd w C 0 ctx) (h2:Rd w (some ⟨b,off,none⟩) 0 (.mk ka na sa::ts))=>aEo ctx C cc k n ka na sa ts (some ⟨b,off,none⟩) c 1 w hu1 (by omega) hlt h1 h2);simp only [List.length_cons] at x2
  clear ht hkj hu0 hu1 hun;rw [List.length_cons] at *;go_enter func81,ntmps81;go_wp2_with (first
   | (go_at_call 59;have _t:=tok1;refine (hih.out D d _ hrD (hr1.below g1)).mono ?_;rintro e w2 ⟨A9,c9,rfl,hl9,r9,hb2⟩;have hZ2:=hZ1.keep hb2;have g2:=g1.trans (hb2.mono g1.size);obtain ⟨d0,d1,d2,e0,e1,e2⟩:=bW hZ2)
   | (go_at_call 82;refine (hop.out _ (hrc'.alloc _) (hra'.alloc _)).mono ?_;rintro e w1 ⟨D,d,rfl,hrD,hb1⟩;simp only [List.length_append,List.length_cons,List.length_nil,Nat.zero_add];have hZ1:Blk w1 w'.heap.size Zr:=(aC _ 25 _ rfl).keep hb1;have g1:Below w'.heap.size w' w1:=bw1.trans (hb1.mono (by simp));have y2:=(bU g1) _ _ x2;have y0:=(bU g1) _ _ i1;have y1:=(bU g1) _ _ i2;have y3:=(bU g1) _ _ i3;have tok1:=trivial))
  refine bodyPost_ret (v:=.tuple #[.agg (Ro kr nr A9 sr.length c9),.int .i64 0]) (by simp [results,results81,go_sem,d0,d1,d2]) rfl ⟨A9,c9,rfl,hl9,aZ hZ2 hvr.out r9 _ _ _,?_⟩;exact bT g2
theorem yS (C:Option Addr)(m cc:Nat)(n:Int)(A:Option Addr)(la c fc:Nat)(ev:Array Value)(kr nr:Int)(sr:List Tm)(w:World)(hvr:aE (.mk kr nr sr)=true)(hc:Hid (∀w',Bw w w'→Calls prog 105 #[.agg #[.slice C m cc,.int .i64 3,.int .i64 n,.slice A la c,.func (.func fc) #[] ev]] w' (fD w' kr nr sr))) :
  Calls prog 83 #[.agg #[.slice C m cc,.int .i64 3,.int .i64 n,.slice A la c,.func (.func fc) #[] ev]] w (fD w kr nr sr):=by
 replace hvr:=aD hvr;go_enter func83,ntmps83;go_wp2_with (go_at_call 105;refine (hc.out _ bw3).mono ?_;rintro e w1 ⟨A1,c1,rfl,hl1,r1,hb1⟩;have hZ1:Blk w1 (w.heap.size+1) Zr:=((aC (n:=w.heap.size+1) (w.alloc (.cells #[.slice C m cc,.int .i64 3,.int .i64 n,.slice A la c,.func (.func fc) #[] ev] 95)) 25 Zr (by simp)).alloc (.cells (Ro 3 n A la c) 25)).keep hb1;have g1:Bw w w1:=bQ bw3 hb1;obtain ⟨d0,d1,d2,e0,e1,e2⟩:=bW hZ1)
 refine bodyPost_ret (v:=.tuple #[.agg (Ro kr nr A1 sr.length c1),.int .i64 0]) (by simp [results,results83,go_sem,d0,d1,d2]) rfl ⟨A1,c1,rfl,hl1,aZ hZ1 hvr.out r1 _ _ _,?_⟩;exact bT g1
theorem yR (C:Option Addr)(m cc:Nat)(n:Int)(A:Option Addr)(la c fc:Nat)(ev:Array Value)(kr nr:Int)(sr:List Tm)(w:World)(hvr:aE (.mk kr nr sr)=true)(hc:Hid (∀w',Bw w w'→Calls prog 106 #[.agg #[.slice C m cc,.int .i64 4,.int .i64 n,.slice A la c,.func (.func fc) #[] ev]] w' (fD w' kr nr sr))) :
  Calls prog 83 #[.agg #[.slice C m cc,.int .i64 4,.int .i64 n,.slice A la c,.func (.func fc) #[] ev]] w (fD w kr nr sr):=by
 replace hvr:=aD hvr;go_enter func83,ntmps83;go_wp2_with (go_at_call 106;refine (hc.out _ bw3).mono ?_;rintro e w1 ⟨A1,c1,rfl,hl1,r1,hb1⟩;have hZ1:Blk w1 (w.heap.size+1) Zr:=((aC (n:=w.heap.size+1) (w.alloc (.cells #[.slice C m cc,.int .i64 4,.int .i64 n,.slice A la c,.func (.func fc) #[] ev] 95)) 25 Zr (by simp)).alloc (.cells (Ro 4 n A la c) 25)).keep hb1;have g1:Bw w w1:=bQ bw3 hb1;obtain ⟨d0,d1,d2,e0,e1,e2⟩:=bW hZ1)
 refine bodyPost_ret (v:=.tuple #[.agg (Ro kr nr A1 sr.length c1),.int .i64 0]) (by simp [results,results83,go_sem,d0,d1,d2]) rfl ⟨A1,c1,rfl,hl1,aZ hZ1 hvr.out r1 _ _ _,?_⟩;exact bT g1
theorem zG (C:Option Addr)(m cc:Nat)(n:Int)(A:Option Addr)(la c fc:Nat)(ev:Array Value)(kr nr:Int)(sr:List Tm)(w:World)(hvr:aE (.mk kr nr sr)=true)(hc:Hid (∀w',Bw w w'→Calls prog 111 #[.agg #[.slice C m cc,.int .i64 9,.int .i64 n,.slice A la c,.func (.func fc) #[] ev]] w' (fD w' kr nr sr))) :
  Calls prog 83 #[.agg #[.slice C m cc,.int .i64 9,.int .i64 n,.slice A la c,.func (.func fc) #[] ev]] w (fD w kr nr sr):=by
 replace hvr:=aD hvr;go_enter func83,ntmps83;go_wp2_with (go_at_call 111;refine (hc.out _ bw3).mono ?_;rintro e w1 ⟨A1,c1,rfl,hl1,r1,hb1⟩;have hZ1:Blk w1 (w.heap.size+1) Zr:=((aC (n:=w.heap.size+1) (w.alloc (.cells #[.slice C m cc,.int .i64 9,.int .i64 n,.slice A la c,.func (.func fc) #[] ev] 95)) 25 Zr (by simp)).alloc (.cells (Ro 9 n A la c) 25)).keep hb1;have g1:Bw w w1:=bQ bw3 hb1;obtain ⟨d0,d1,d2,e0,e1,e2⟩:=bW hZ1)
 refine bodyPost_ret (v:=.tuple #[.agg (Ro kr nr A1 sr.length c1),.int .i64 0]) (by simp [results,results83,go_sem,d0,d1,d2]) rfl ⟨A1,c1,rfl,hl1,aZ hZ1 hvr.out r1 _ _ _,?_⟩;exact bT g1
theorem wU (C:Option Addr)(m cc:Nat)(n:Int)(A:Option Addr)(la c fc:Nat)(ev:Array Value)(kr nr:Int)(sr:List Tm)(w:World)(hvr:aE (.mk kr nr sr)=true)(hc:Hid (∀w',Bw w w'→Calls prog 112 #[.agg #[.slice C m cc,.int .i64 10,.int .i64 n,.slice A la c,.func (.func fc) #[] ev]] w' (fD w' kr nr sr))) :
  Calls prog 83 #[.agg #[.slice C m cc,.int .i64 10,.int .i64 n,.slice A la c,.func (.func fc) #[] ev]] w (fD w kr nr sr):=by
 replace hvr:=aD hvr;go_enter func83,ntmps83;go_wp2_with (go_at_call 112;refine (hc.out _ bw3).mono ?_;rintro e w1 ⟨A1,c1,rfl,hl1,r1,hb1⟩;have hZ1:Blk w1 (w.heap.size+1) Zr:=((aC (n:=w.heap.size+1) (w.alloc (.cells #[.slice C m cc,.int .i64 10,.int .i64 n,.slice A la c,.func (.func fc) #[] ev] 95)) 25 Zr (by simp)).alloc (.cells (Ro 10 n A la c) 25)).keep hb1;have g1:Bw w w1:=bQ bw3 hb1;obtain ⟨d0,d1,d2,e0,e1,e2⟩:=bW hZ1)
 refine bodyPost_ret (v:=.tuple #[.agg (Ro kr nr A1 sr.length c1),.int .i64 0]) (by simp [results,results83,go_sem,d0,d1,d2]) rfl ⟨A1,c1,rfl,hl1,aZ hZ1 hvr.out r1 _ _ _,?_⟩;exact bT g1
theorem xA (C:Option Addr)(m cc:Nat)(n:Int)(A:Option Addr)(la c fc:Nat)(ev:Array Value)(kr nr:Int)(sr:List Tm)(w:World)(hvr:aE (.mk kr nr sr)=true)(hc:Hid (∀w',Bw w w'→Calls prog 113 #[.agg #[.slice C m cc,.int .i64 12,.int .i64 n,.slice A la c,.func (.func fc) #[] ev]] w' (fD w' kr nr sr))) :
  Calls prog 83 #[.agg #[.slice C m cc,.int .i64 12,.int .i64 n,.slice A la c,.func (.func fc) #[] ev]] w (fD w kr nr sr):=by
 replace hvr:=aD hvr;go_enter func83,ntmps83;go_wp2_with (go_at_call 113;refine (hc.out _ bw3).mono ?_;rintro e w1 ⟨A1,c1,rfl,hl1,r1,hb1⟩;have hZ1:Blk w1 (w.heap.size+1) Zr:=((aC (n:=w.heap.size+1) (w.alloc (.cells #[.slice C m cc,.int .i64 12,.int .i64 n,.slice A la c,.func (.func fc) #[] ev] 95)) 25 Zr (by simp)).alloc (.cells (Ro 12 n A la c) 25)).keep hb1;have g1:Bw w w1:=bQ bw3 hb1;obtain ⟨d0,d1,d2,e0,e1,e2⟩:=bW hZ1)
 refine bodyPost_ret (v:=.tuple #[.agg (Ro kr nr A1 sr.length c1),.int .i64 0]) (by simp [results,results83,go_sem,d0,d1,d2]) rfl ⟨A1,c1,rfl,hl1,aZ hZ1 hvr.out r1 _ _ _,?_⟩;exact bT g1
theorem zW (C:Option Addr)(m cc:Nat)(n:Int)(A:Option Addr)(la c fc:Nat)(ev:Array Value)(w:World)(hn:n≠3)(h0:0≤n∧n≤3) :
  Calls prog 83 #[.agg #[.slice C m cc,.int .i64 2,.int .i64 n,.slice A la c,.func (.func fc) #[] ev]] w (fD w 2 (n+1) []):=by
 have hq:(n==3)=false:=by simpa using hn
 clear hn;go_enter func83,ntmps83;go_wp2_with (go_at_call 103;refine (mE _ _).mono ?_;rintro e w1 ⟨rfl,hb1⟩;have hZ1:Blk w1 (w.heap.size+1) Zr:=((aC (n:=w.heap.size+1) (w.alloc (.cells #[.slice C m cc,.int .i64 2,.int .i64 n,.slice A la c,.func (.func fc) #[] ev] 95)) 25 Zr (by simp)).alloc (.cells (Ro 2 n A la c) 25)).keep hb1;have g1:Bw w w1:=bQ bw3 hb1;obtain ⟨d0,d1,d2,e0,e1,e2⟩:=bW hZ1)
 refine bodyPost_ret (v:=.tuple #[.agg (Ro 2 ((n+1)) none 0 0),.int .i64 0]) (by simp [results,results83,go_sem,d0,d1,d2]) rfl ⟨none,0,rfl,by simp,Rd.nil,?_⟩;exact bT g1
theorem zL (C:Option Addr)(m cc:Nat)(n:Int)(A:Option Addr)(la c fc:Nat)(ev:Array Value)(w:World) :
  Calls prog 83 #[.agg #[.slice C m cc,.int .i64 6,.int .i64 n,.slice A la c,.func (.func fc) #[] ev]] w (fD w 2 0 []):=by
 go_enter func83,ntmps83;go_wp2_with (go_at_call 103;refine (mE _ _).mono ?_;rintro e w1 ⟨rfl,hb1⟩;have hZ1:Blk w1 (w.heap.size+1) Zr:=((aC (n:=w.heap.size+1) (w.alloc (.cells #[.slice C m cc,.int .i64 6,.int .i64 n,.slice A la c,.func (.func fc) #[] ev] 95)) 25 Zr (by simp)).alloc (.cells (Ro 6 n A la c) 25)).keep hb1;have g1:Bw w w1:=bQ bw3 hb1;obtain ⟨d0,d1,d2,e0,e1,e2⟩:=bW hZ1)
 refine bodyPost_ret (v:=.tuple #[.agg (Ro 2 (0) none 0 0),.int .i64 0]) (by simp [results,results83,go_sem,d0,d1,d2]) rfl ⟨none,0,rfl,by simp,Rd.nil,?_⟩;exact bT g1
theorem zR (C:Option Addr)(m cc:Nat)(n:Int)(A:Option Addr)(la c fc:Nat)(ev:Array Value)(w:World) :
  Calls prog 83 #[.agg #[.slice C m cc,.int .i64 7,.int .i64 n,.slice A la c,.func (.func fc) #[] ev]] w (fD w 6 0 []):=by
 go_enter func83,ntmps83;go_wp2_with (go_at_call 18;refine (aS 6 _ ⟨_,_,_,rfl⟩ _).mono ?_;rintro e w1 ⟨rfl,hb1⟩;have hZ1:Blk w1 (w.heap.size+1) Zr:=((aC (n:=w.heap.size+1) (w.alloc (.cells #[.slice C m cc,.int .i64 7,.int .i64 n,.slice A la c,.func (.func fc) #[] ev] 95)) 25 Zr (by simp)).alloc (.cells (Ro 7 n A la c) 25)).keep hb1;have g1:Bw w w1:=bQ bw3 hb1;obtain ⟨d0,d1,d2,e0,e1,e2⟩:=bW hZ1)
 refine bodyPost_ret (v:=.tuple #[.agg (Ro 6 (0) none 0 0),.int .i64 0]) (by simp [results,results83,go_sem,d0,d1,d2]) rfl ⟨none,0,rfl,by simp,Rd.nil,?_⟩;exact bT g1
theorem zF (C:Option Addr)(m cc:Nat)(n:Int)(A:Option Addr)(la c fc:Nat)(ev:Array Value)(ty:Nat→Option Tm)(w:World)(hs:jC (ty 0) aCk=true)(hT:TyOk fc ev w ty) :
  Calls prog 83 #[.agg #[.slice C m cc,.int .i64 8,.int .i64 n,.slice A la c,.func (.func fc) #[] ev]] w (fD w 6 0 []):=by
 have hs':=aD (show jC (ty 0) (.mk 6 0 [])=true from hs);clear hs;go_enter func83,ntmps83;go_upto_region 16 with fail
 refine sT (show Blk _ w.heap.size #[.slice C m cc,.int .i64 8,.int .i64 n,.slice A la c,.func (.func fc) #[] ev] from (((aC _ 95 _ rfl).alloc _).alloc _)) (show Blk _ (w.heap.size+1) Zr from ((aC _ 25 _ (by simp)).alloc _)) bw3 ?_;intro wx hJx hZx gx;have u0:=aF (hJx.at_ (i:=0) rfl);have u1:=aF (hJx.at_ (i:=1) rfl);have u2:=aF (hJx.at_ (i:=2) rfl);have u3:=aF (hJx.at_ (i:=3) rfl);have u4:=aF (hJx.at_ (i:=4) rfl);refine dX wx [3] [0] 4 3 (lT:=[_]) ?_;intro q0 bq0;refine bV (aD ?_);refine bG 1 ?_
 ·go_wp2_with (go_at_call 18;refine (aS 6 _ ⟨_,_,_,rfl⟩ _).mono ?_;rintro e q1 ⟨rfl,hbq1⟩)
  refine aY bq0 hbq1 ?_;intro bq1 lq1;refine bG 2 ?_
  ·go_wp2_with (go_at_call 104;refine (jB C m cc 8 n A la c fc ev 0 (by omega) 6 0 [] none 0 ty _ hs'.out ((hT.below gx).below bq1) Rd.nil).mono ?_;rintro e q2 ⟨rfl,hbq2⟩)
   refine aY bq1 hbq2 ?_;intro bq2 lq2;refine cD [3] (lB:=[_]) ?_;have hZ3:=hZx.keep bq2;have g3:=gx.trans (bq2.mono gx.size);go_wp2_with (go_at_call 18;refine (aS 6 _ ⟨_,_,_,rfl⟩ _).mono ?_;rintro e w4 ⟨rfl,hb4⟩;have hZ4:=hZ3.keep hb4;have g4:=g3.trans (hb4.mono g3.size);obtain ⟨d0,d1,d2,e0,e1,e2⟩:=bW hZ4)
   refine bodyPost_ret (v:=.tuple #[.agg (Ro 6 0 none 0 0),.int .i64 0]) (by simp [results,results83,go_sem,d0,d1,d2]) rfl ⟨none,0,rfl,by simp,Rd.nil,?_⟩;exact bT g4
theorem aJn (C:Option Addr)(m cc:Nat)(n:Int)(A:Option Addr)(c fc:Nat)(ev:Array Value)(t0:Tm)(kx nx:Int)(sx:List Tm)(n3 ka na:Int)(sa:List Tm)(kb nb:Int)(sb:List Tm)(kr nr:Int)(sr:List Tm)(ty:Nat→Option Tm)(w:World)(h1:fmS (ty 0) 3=some (.mk 3 n3 [.mk ka na sa,.mk kb nb sb]))(h2:jC (ty 1) (.mk ka na sa)=true)(hvx:aE (.mk kx nx sx)=true)(hsu0:eI 0 (.mk kx nx sx) (.mk kb nb sb)=some (.mk kr nr sr))(hT:TyOk fc ev w ty)(hr:Rd w A 0 [t0,.mk kx nx sx]) :
  Calls prog 83 #[.agg #[.slice C m cc,.int .i64 5,.int .i64 n,.slice A 2 c,.func (.func fc) #[] ev]] w (fD w kr nr sr):=by
 obtain ⟨_,_,he,hv3⟩:=fJ h1;injection he with e1 e2 e3;subst e2 e3;have hvb:=aL hv3 (t:=.mk kb nb sb) (by simp);have hzx:=aJ hvx;have hzb:=aJ hvb;have hshx:=aD (bD hvx);have hshb:=aD (bD hvb);have hvr:=aD (gI hsu0);have hsu:=aD hsu0;have h1':=aD h1;have h2c:=aD h2;clear h1 h2 hsu0 hv3 hvb hvx;obtain ⟨bf,of_,x1,x2,x3,Ax,cx,rfl,hk1,i1,i2,i3,hlx,rx0⟩:=hr.at_ (j:=1) (by simp);injection hk1 with e1 e2 e3;subst e1 e2 e3;simp only [Nat.one_mul] at i1 i2 i3
 go_enter func83,ntmps83;go_upto_region 27 with (go_at_call 107;refine (fA C m cc 5 n _ 2 c fc ev 0 (by omega) 3 n3 [.mk ka na sa,.mk kb nb sb] ty _ h1'.out (hT.below bw3)).mono ?_;rintro e w1 ⟨A3,c3,rfl,hl3,r3,hb1⟩;have hJ1:=(((aC w 95 #[.slice C m cc,.int .i64 5,.int .i64 n,.slice (some ⟨bf,of_,none⟩) 2 c,.func (.func fc) #[] ev] rfl).alloc (.cells Zr 25)).alloc (.cells (Ro 5 n (some ⟨bf,of_,none⟩) 2 c) 25)).keep hb1;have hZ1:Blk w1 (w.heap.size+1) Zr:=((aC (n:=w.heap.size+1) (w.alloc (.cells #[.slice C m cc,.int .i64 5,.int .i64 n,.slice (some ⟨bf,of_,none⟩) 2 c,.func (.func fc) #[] ev] 95)) 25 Zr (by simp)).alloc (.cells (Ro 5 n (some ⟨bf,of_,none⟩) 2 c) 25)).keep hb1;have hT1:=pW hb1;have g1:Bw w w1:=bQ bw3 hb1)
 refine aN ?_;intro wx hwx;have hJx:=(show Blk wx w.heap.size _ by rw [hwx];exact hJ1.alloc _);have hZx:=(show Blk wx (w.heap.size+1) _ by rw [hwx];exact hZ1.alloc _);have hTx:=(show Blk wx (w.heap.size+1+1) _ by rw [hwx];exact hT1.alloc _);have h6x0:Blk wx w1.heap.size (Ro 3 n3 A3 2 c3):=by rw [hwx];exact aC _ 25 _ rfl
 have gx:Bw w wx:=by rw [hwx];exact g1.alloc g1.size _
 have r3x:Rd wx A3 0 [.mk ka na sa,.mk kb nb sb]:=by rw [hwx];exact r3.alloc _
 clear hwx;obtain ⟨bb,ob,x1,x2,x3,Ab,cb,rfl,hk2,p1,p2,p3,hlb,rb⟩:=r3x.at_ (j:=1) (by simp);injection hk2 with e1 e2 e3;subst e1 e2 e3;simp only [Nat.one_mul] at p1 p2 p3
 have h6x:=h6x0;have u0:=aF (hJx.at_ (i:=0) rfl);have u1:=aF (hJx.at_ (i:=1) rfl);have u2:=aF (hJx.at_ (i:=2) rfl);have u3:=aF (hJx.at_ (i:=3) rfl);have u4:=aF (hJx.at_ (i:=4) rfl);obtain ⟨v0,v1,v2⟩:=iD h6x;refine dX wx [5] [0,1,3] 6 3 (lT:=[_,_,_]) ?_;intro q0 bq0;refine bV (aD ?_);refine bG 2 ?_
 ·go_wp2_with (go_at_call 109;refine (jU 3 n3 ka na sa [.mk kb nb sb] _ c3 _ (r3x.below bq0) (by simp)).mono ?_;rintro e q1 ⟨Ak,ck,rfl,hlk,rkq1,hbq1⟩)
  refine aY bq0 hbq1 ?_;intro bq1 lq1;refine bG 4 ?_
  ·go_wp2_with (go_at_call 108;refine (fC C m cc 5 n _ 2 c fc ev 1 (by omega) ka na sa Ak ck ty _ h2c.out ((hT.below gx).below bq1) rkq1).mono ?_;rintro e q2 ⟨rfl,hbq2⟩)
   have Kq2:=rkq1.below hbq2;refine aY bq1 hbq2 ?_;intro bq2 lq2;refine cD [5] (lB:=[_]) ?_;go_upto_region 30 with fail
   refine aN ?_;intro ws hws;have hZs:=(show Blk ws (w.heap.size+1) _ by rw [hws];exact hZx.keep bq2);have hTs:=(show Blk ws (w.heap.size+1+1) _ by rw [hws];exact hTx.keep bq2);have h6s:=(show Blk ws w1.heap.size _ by rw [hws];exact h6x.keep bq2);have gs:Bw w ws:=by rw [hws];exact gx.trans (bq2.mono gx.size)
   have kxs:Bw wx ws:=by rw [hws];exact bq2
   clear hws u0 u1 u2 u3 u4 v0 v1 v2;have rbs:=rb.below kxs;have rxs:=rx0.below gs;have t2':=aF hTs.three.2.2;have s2':=aF h6s.three.2.2;have y0:=aF ((bU kxs) _ _ p1);have y1:=aF ((bU kxs) _ _ p2);have y2:=aF ((bU kxs) _ _ p3);have z0:=aF ((bU gs) _ _ i1);have z1:=aF ((bU gs) _ _ i2);have z2:=aF ((bU gs) _ _ i3);refine dX ws [9,10,12,13,14,15] [0,1,2,3,4,5,6,7] 16 8 (lT:=[_,_,_,_,_,_,_,_]) ?_;intro q0 bq0;refine bV (aD ?_);refine bG 8 ?_
   ·go_wp2_with (go_at_call 110;refine (eQ kb nb sb Ab cb 0 kx nx sx Ax cx _ (by omega) hshx.out (by omega) (rxs.below bq0) (by omega) hshb.out (rbs.below bq0)).mono ?_;rw [hsu.out];intro e q1 hgo;obtain ⟨A7,c7,rfl,hl7,hfq1,hbq1⟩:=cS hgo;clear hgo)
    have rdq1:=hfq1.rd;refine aY bq0 hbq1 ?_;intro bq1 lq1;refine eS [9,10] 5 (lT:=[_,_]) ?_;refine bV (aD ?_);refine bG 11 ?_
    ·go_wp2_with (go_at_call 101;refine (bC kr nr sr A7 c7 _ hvr.out rdq1).mono ?_;rintro e q2 ⟨rfl,hbq2⟩)
     have Oq2:=rdq1.below hbq2;refine aY bq1 hbq2 ?_;intro bq2 lq2;refine eS [12,13] 2 (lT:=[_,_]) ?_;refine bV (aD ?_);refine cD [14,15] (lB:=[_,_]) ?_;have hZ2:=hZs.keep bq2;obtain ⟨d0,d1,d2,e0,e1,e2⟩:=bW hZ2;have gf:=gs.trans (bq2.mono gs.size);have rP:=Oq2;go_wp2_with fail
     refine bodyPost_ret (v:=.tuple #[.agg (Ro kr nr A7 sr.length c7),.int .i64 0]) (by simp [results,results83,go_sem,d0,d1,d2]) rfl ⟨A7,c7,rfl,hl7,aZ hZ2 hvr.out rP _ _ _,?_⟩;exact ((gf.setCell (by simp) _).setCell (by simp) _).setCell (by simp) _
theorem xT {N:Nat}(ih:aGa N)(ctx:List Tm)(C:Option Addr)(cc:Nat)(k n:Int)(ks:List Tm)(A:Option Addr)(c:Nat)(kind n3:Int)(s3:List Tm)(w:World)(hs:fmS (oS N ctx (.mk k n ks)) kind=some (.mk kind n3 s3))(hv:aE (.mk k n ks)=true)(hvc:∀u,u∈ctx→aE u=true)(hm:ctx.length≤20)(hrc:Rd w C 0 ctx)(hra:Rd w A 0 ks) :
  Calls prog 58 #[.slice C ctx.length cc,.agg (Ro k n A ks.length c),.int .i64 kind] w (fD w kind n3 s3):=by
 obtain ⟨k1,n1,s1,h1,h2⟩:∃k1 n1 s1,oS N ctx (.mk k n ks)=some (.mk k1 n1 s1)∧oD (.mk k1 n1 s1) kind=some (.mk kind n3 s3):=by
  cases h:oS N ctx (.mk k n ks) with
  | none=>rw [h] at hs;cases hs
  | some s=>rw [h] at hs;obtain ⟨a,b,l⟩:=s;exact ⟨a,b,l,rfl,hs⟩
 have hv3:=aD (mK h2).2.2.2.2;have h2':=aD h2;have hI:=aD (fun (w:World) (hrc:Rd w C 0 ctx) (hra:Rd w A 0 ks)=>ih ctx k n ks k1 n1 s1 h1 hv hvc hm C cc A c w hrc hra);clear hs h1 h2 hv hvc ih;go_enter func58,ntmps58;go_wp2_with (first
  | (go_at_call 80;have _t:=tok1;refine (gZ k1 n1 s1 A1 c1 kind n3 s3 _ h2'.out (r1.alloc _)).mono ?_;rintro e w2 ⟨A3,c3,rfl,hl3,r3,hb2⟩;have hZ2:=(hZ.alloc (.cells (Ro k1 n1 A1 s1.length c1) 25)).keep hb2;have g2:=(g1.alloc g1.size (.cells (Ro k1 n1 A1 s1.length c1) 25)).trans (hb2.mono (by have:=g1.size;simp;omega));obtain ⟨d0,d1,d2,e0,e1,e2⟩:=bW hZ2)
  | (go_at_call 59;refine (hI.out _ ((hrc.alloc _).alloc _) ((hra.alloc _).alloc _)).mono ?_;rintro e w1 ⟨A1,c1,rfl,hl1,r1,hb1⟩;have hZ:=bH hb1;have g1:Bw w w1:=bQ bw2 hb1;have lz:=hZ.lt;have tok1:=trivial))
 refine bodyPost_ret (v:=.tuple #[.agg (Ro kind n3 A3 s3.length c3),.int .i64 0]) (by simp [results,results58,go_sem,d0,d1,d2]) rfl ⟨A3,c3,rfl,hl3,?_,?_⟩
 ·exact aZ hZ2 hv3.out r3 _ _ _
 ·exact bT g2
theorem tX {N:Nat}(ih:aGa N)(ctx:List Tm)(C:Option Addr)(cc:Nat)(k n:Int)(ks:List Tm)(A:Option Addr)(c:Nat)(l:Int)(w:World)(hs:wT (oS N ctx (.mk k n ks))=some l)(hv:aE (.mk k n ks)=true)(hvc:∀u,u∈ctx→aE u=true)(hm:ctx.length≤20)(hrc:Rd w C 0 ctx)(hra:Rd w A 0 ks) :
  Calls prog 38 #[.slice C ctx.length cc,.agg (Ro k n A ks.length c)] w fun e w'=>e = .returned (.tuple #[.int .i64 l,.int .i64 0])∧Bw w w':=by
 obtain ⟨s3,h1⟩:=aBw hs;have hI:=aD (fun (w:World) (hrc:Rd w C 0 ctx) (hra:Rd w A 0 ks)=>xT ih ctx C cc k n ks A c 2 l s3 w h1 hv hvc hm hrc hra);clear hs h1 hv hvc ih;go_enter func38,ntmps38;go_wp2_with (go_at_call 58;refine (hI.out _ (hrc.alloc _) (hra.alloc _)).mono ?_;rintro e w1 ⟨A3,c3,rfl,hl3,r3,hb1⟩;have g1:Bw w w1:=bQ bw1 hb1)
 go_ret2
 exact ⟨rfl,g1.alloc g1.size _⟩
theorem aGk (C:Option Addr)(m cc:Nat)(n:Int)(A:Option Addr)(c fc:Nat)(ev:Array Value)(ka na:Int)(sa:List Tm)(kt nt:Int)(st:List Tm)(l:Int)(ty:Nat→Option Tm)(w:World)(h1:ty 0=some (.mk kt nt st))(hv:aE (.mk 10 0 [.mk kt nt st,.mk ka na sa,.mk ka na sa])=true)(hT:TyOk fc ev w ty)(hr:Rd w A 0 [.mk ka na sa])
  (hL : Hid (∀ (Ao : Option Addr) (co : Nat) (w' : World), Bw w w' → Rd w' Ao 0 st → Calls prog 38 #[.slice C m cc, .agg (Ro kt nt Ao st.length co)] w' fun e w'' => e = .returned (.tuple #[.int .i64 l, .int .i64 0]) ∧ Below w'.heap.size w' w'')) :
  Calls prog 83 #[.agg #[.slice C m cc,.int .i64 11,.int .i64 n,.slice A 1 c,.func (.func fc) #[] ev]] w (fD w 10 0 [.mk kt nt st,.mk ka na sa,.mk ka na sa]):=by
 obtain ⟨b2,b3,rfl,rfl⟩:=hT.1;all_goals
  have hv':=aD hv;have h1':=aD h1;clear hv h1;obtain ⟨ba,oa,Aa,ca,rfl,i1,i2,i3,hla,ra0⟩:=kZ hr;simp only [Nat.zero_mul,Nat.add_zero,Nat.one_mul,Nat.reduceMul] at i1 i2 i3
  go_enter func83,ntmps83;go_upto_region 42 with (first
   | (go_at_call 38;have _t:=tok1;refine (hL.out A1 c1 _ (g1.alloc g1.size _) (r1.alloc _)).mono ?_;rintro e w2 ⟨rfl,hb2⟩;have hJ2:=(hJ1.alloc (.cells (Ro kt nt A1 st.length c1) 25)).keep hb2;have hZ2:=(hZ1.alloc (.cells (Ro kt nt A1 st.length c1) 25)).keep hb2;have hT2:=(hT1.alloc (.cells (Ro kt nt A1 st.length c1) 25)).keep hb2;have h92:=nQ hb2;have r12:=(r1.alloc (.cells (Ro kt nt A1 st.length c1) 25)).below hb2;have g2:=(g1.alloc g1.size (.cells (Ro kt nt A1 st.length c1) 25)).trans (hb2.mono (by have:=g1.size;simp;omega)))
   | (go_at_call 81;refine (hT.2 0 kt nt st (by omega) h1'.out _ bw3 _ (by rfl)).mono ?_;rintro e w1 ⟨A1,c1,rfl,hl1,r1,hb1⟩;have hJ1:=(((aC w 95 #[.slice C m cc,.int .i64 11,.int .i64 n,.slice (some ⟨ba,oa,none⟩) 1 c,.func (.func 81) #[] #[.pointer (some ⟨b2,0,none⟩),.pointer (some ⟨b3,0,none⟩)]] rfl).alloc (.cells Zr 25)).alloc (.cells (Ro 11 n (some ⟨ba,oa,none⟩) 1 c) 25)).keep hb1;have hZ1:Blk w1 (w.heap.size+1) Zr:=((aC (n:=w.heap.size+1) (w.alloc (.cells #[.slice C m cc,.int .i64 11,.int .i64 n,.slice (some ⟨ba,oa,none⟩) 1 c,.func (.func 81) #[] #[.pointer (some ⟨b2,0,none⟩),.pointer (some ⟨b3,0,none⟩)]] 95)) 25 Zr (by simp)).alloc (.cells (Ro 11 n (some ⟨ba,oa,none⟩) 1 c) 25)).keep hb1;have hT1:=pW hb1;have g1:Bw w w1:=bQ bw3 hb1;have lJ:=hJ1.lt;have lZ:=hZ1.lt;have lT:=hT1.lt;have j0:=hJ1.at_ (i:=0) rfl;have j1:=hJ1.at_ (i:=1) rfl;have j2:=hJ1.at_ (i:=2) rfl;have j3:=hJ1.at_ (i:=3) rfl;have j4:=hJ1.at_ (i:=4) rfl;have tok1:=trivial))
  refine aN ?_;intro ws hws;have hZs:=(show Blk ws (w.heap.size+1) _ by rw [hws];exact hZ2);have hTs:=(show Blk ws (w.heap.size+1+1) _ by rw [hws];exact hT2);have h9s:=(show Blk ws w1.heap.size _ by rw [hws];exact h92);have r1s:=(show Rd ws A1 0 st by rw [hws];exact r12);have gs:Bw w ws:=by rw [hws];exact g2
  clear hws j0 j1 j2 j3 j4;have ras:=ra0.below gs;have t2':=aF hTs.three.2.2;obtain ⟨v0,v1,v2⟩:=iD h9s;have z0:=aF ((bU gs) _ _ i1);have z1:=aF ((bU gs) _ _ i2);have z2:=aF ((bU gs) _ _ i3);refine dX ws [12,13,14,15] [0,1,2,3,4,5,6,7,8] 16 7 (lT:=[_,_,_,_,_,_,_,_,_]) ?_;intro q0 bq0;refine bV (aD ?_);refine bG 9 ?_
  ·go_wp2_with fail
   refine dO ?_;intro q1 hbq1 zq1 seq1;have rq1:Rd q1 (some ⟨q0.heap.size,0,none⟩) 0 [.mk kt nt st,.mk ka na sa,.mk ka na sa]:=aIq (s0:=st) (s1:=sa) (s2:=sa) zq1 hl1 hla hla ((r1s.below bq0).below hbq1) ((ras.below bq0).below hbq1) ((ras.below bq0).below hbq1);refine aY bq0 hbq1 ?_;intro bq1 lq1;refine bG 10 ?_
   ·go_wp2_with (go_at_call 18;refine (aS 10 _ ⟨_,_,_,rfl⟩ _).mono ?_;rintro e q2 ⟨rfl,hbq2⟩)
    have Pq2:=rq1.below hbq2;refine aY bq1 hbq2 ?_;intro bq2 lq2;refine bG 11 ?_
    ·go_wp2_with (go_at_call 101;refine (bC 10 0 [.mk kt nt st,.mk ka na sa,.mk ka na sa] _ 3 _ hv'.out Pq2).mono ?_;rintro e q3 ⟨rfl,hbq3⟩)
     have Pq3:=Pq2.below hbq3;refine aY bq2 hbq3 ?_;intro bq3 lq3;refine eS [12,13] 2 (lT:=[_,_]) ?_;refine bV (aD ?_);refine cD [14,15] (lB:=[_,_]) ?_;have hZ2:=hZs.keep bq3;obtain ⟨d0,d1,d2,e0,e1,e2⟩:=bW hZ2;have gf:=gs.trans (bq3.mono gs.size);have rP:=Pq3;go_wp2_with fail
     refine bodyPost_ret (v:=.tuple #[.agg (Ro 10 0 (some ⟨q0.heap.size,0,none⟩) 3 3),.int .i64 0]) (by simp [results,results83,go_sem,d0,d1,d2]) rfl ⟨some ⟨q0.heap.size,0,none⟩,3,rfl,by simp,aZ hZ2 hv'.out rP _ _ _,?_⟩;exact ((gf.setCell (by simp) _).setCell (by simp) _).setCell (by simp) _
theorem aJt (ctx:List Tm)(C:Option Addr)(cc nn p:Nat)(A:Option Addr)(la c fc:Nat)(ev:Array Value)(ku nu:Int)(su:List Tm)(kr nr:Int)(sr:List Tm)(w:World)(hm:ctx.length≤20)(hp:p+1+nn=ctx.length)(hpl:p<ctx.length)(hg:ctx[p] = .mk ku nu su)(hvu:aE (.mk ku nu su)=true)(hs:cG ((nn:Int)+1) 0 (.mk ku nu su)=some (.mk kr nr sr))(hr:Rd w C 0 ctx) :
  Calls prog 83 #[.agg #[.slice C ctx.length cc,.int .i64 1,.int .i64 nn,.slice A la c,.func (.func fc) #[] ev]] w (fD w kr nr sr):=by
 have hz:=aJ hvu;have hsh:=bD hvu;have hvr':=aD (nK hs);obtain ⟨bc,oc,x1,x2,x3,Au,cu,rfl,hk1,i1,i2,i3,hlu,ru⟩:=hr.at_ hpl;rw [hg] at hk1;injection hk1 with e1 e2 e3;subst e1 e2 e3;have hS:=aD (fun (w:World) (hr:Rd w Au 0 su)=>by have:=iV ku nu su Au cu ((nn:Int)+1) 0 w (by omega) (by omega) (by omega) hsh hr;rw [hs] at this;exact this);clear hs hvu hsh hg;go_enter func83,ntmps83;go_upto_region 6 with fail
 refine aMa (show Blk _ w.heap.size #[.slice (some ⟨bc,oc,none⟩) ctx.length cc,.int .i64 1,.int .i64 nn,.slice A la c,.func (.func fc) #[] ev] from (((aC _ 95 _ rfl).alloc _).alloc _)) (show Blk _ (w.heap.size+1) Zr from ((aC _ 25 _ (by simp)).alloc _)) (show Blk _ (w.heap.size+1+1) (Ro 1 nn A la c) from (aC _ 25 _ (by simp))) bw3 ?_;intro ws hJs hZs hTs gs;have rus:=ru.below gs;have wq1:IntKind.i64.wrap ((ctx.length:Int) - 1)=(ctx.length:Int) - 1:=IntWalk.i64_in _ (by omega);have wq2:IntKind.i64.wrap ((ctx.length:Int) - 1 - (nn:Int))=(p:Int):=by rw [show (ctx.length:Int) - 1 - (nn:Int)=(p:Int) from by omega];exact IntWalk.i64_in _ (by omega)
 have wq3:IntKind.i64.wrap ((nn:Int)+1)=(nn:Int)+1:=IntWalk.i64_in _ (by omega);have wq4:(0:Int)≤(p:Int):=by omega
 have wq5:(p:Int)<(ctx.length:Int):=by omega
 have u0:=aF (hJs.at_ (i:=0) rfl);have t1':=aF hTs.three.2.1;have z0:=aF ((bU gs) _ _ i1);have z1:=aF ((bU gs) _ _ i2);have z2:=aF ((bU gs) _ _ i3);refine dX ws [15,16,18,19,20,21] [0,1,2,3,4,5,6,7,8,9,10,11,12,13] 22 8 (lT:=[_,_,_,_,_,_,_,_,_,_,_,_,_,_]) ?_;intro q0 bq0;refine bV (aD ?_);refine bG 14 ?_
 ·go_wp2_with (go_at_call 102;refine (hS.out _ (rus.below bq0)).mono ?_;intro e q1 hgo;obtain ⟨A7,c7,rfl,hl7,hfq1,hbq1⟩:=cS hgo;clear hgo)
  have rdq1:=hfq1.rd;refine aY bq0 hbq1 ?_;intro bq1 lq1;refine eS [15,16] 5 (lT:=[_,_]) ?_;refine bV (aD ?_);refine bG 17 ?_
  ·go_wp2_with (go_at_call 101;refine (bC kr nr sr A7 c7 _ hvr'.out rdq1).mono ?_;rintro e q2 ⟨rfl,hbq2⟩)
   have Oq2:=rdq1.below hbq2;refine aY bq1 hbq2 ?_;intro bq2 lq2;refine eS [18,19] 2 (lT:=[_,_]) ?_;refine bV (aD ?_);refine cD [20,21] (lB:=[_,_]) ?_;have hZ2:=hZs.keep bq2;obtain ⟨d0,d1,d2,e0,e1,e2⟩:=bW hZ2;have gf:=gs.trans (bq2.mono gs.size);have rP:=Oq2;go_wp2_with fail
   refine bodyPost_ret (v:=.tuple #[.agg (Ro kr nr A7 sr.length c7),.int .i64 0]) (by simp [results,results83,go_sem,d0,d1,d2]) rfl ⟨A7,c7,rfl,hl7,aZ hZ2 hvr'.out rP _ _ _,?_⟩;exact ((gf.setCell (by simp) _).setCell (by simp) _).setCell (by simp) _
end Go.Proofs.YtajjhldcjikkpaaGreat
