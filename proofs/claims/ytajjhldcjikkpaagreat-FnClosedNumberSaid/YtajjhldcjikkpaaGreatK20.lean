/- Parts of the proof. No condition. -/
import Derived.Test.YtajjhldcjikkpaaGreatK19
open Go.Proofs.Tryz
namespace Go.Proofs.YtajjhldcjikkpaaGreat
open Go.RowKit
set_option maxHeartbeats 16000000
set_option maxRecDepth 100000
set_option linter.unusedSimpArgs false
set_option linter.unusedVariables false
theorem aFd (C:Option Addr)(m cc:Nat)(k n:Int)(A:Option Addr)(c fc:Nat)(ev:Array Value)(kp np:Int)(sp:List Tm)(ka na:Int)(sa:List Tm)(t2':Tm)(n3 kd nd:Int)(sd:List Tm)(ke ne:Int)(se:List Tm)(l kz nz:Int)(sz:List Tm)(ty:Nat→Option Tm)(w:World)(h1:wT (ty 0)=some l)(hsh:oD (.mk kp np sp) 13=some (.mk 13 n3 [.mk kd nd sd,.mk ke ne se]))(hvx:aE (.mk ka na sa)=true)(hsu0:eI 0 (.mk ka na sa) (.mk ke ne se)=some (.mk kz nz sz))(h2:jC (ty 1) (.mk kd nd sd)=true)(h3:jC (ty 2) (.mk kz nz sz)=true)(hvp:aE (.mk kp np sp)=true)(hT:TyOk fc ev w ty)(hr:Rd w A 0 [.mk kp np sp,.mk ka na sa,t2']) :
  Calls prog 114 #[.agg #[.slice C m cc,.int .i64 k,.int .i64 n,.slice A 3 c,.func (.func fc) #[] ev]] w (fD w kp np sp):=by
 have hv3:=(mK hsh).2.2.2.2;have hvb:=aL hv3 (t:=.mk ke ne se) (by simp);have hzx:=aJ hvx;have hzb:=aJ hvb;have hshx:=aD (bD hvx);have hshb:=aD (bD hvb);have hvz:=aD (gI hsu0);have hsu:=aD hsu0;replace h1:=aD h1;replace hsh:=aD hsh;have h2c:=aD h2;have h3c:=aD h3;replace hvp:=aD hvp;clear h2 h3 hsu0 hv3 hvb hvx;obtain ⟨bp,op,Ap,cp,rfl,i1,i2,i3,hlp,rp0⟩:=kZ hr;obtain ⟨Aa,ca,a1,a2,a3,hla,ra0⟩:=tI hr;simp only [Nat.zero_mul,Nat.add_zero,Nat.one_mul,Nat.reduceMul] at i1 i2 i3 a1 a2 a3
 go_enter func114,ntmps114;go_upto_region 5 with (first
  | (go_at_call 80;have _t:=tok1;refine (gZ kp np sp Ap cp 13 n3 [.mk kd nd sd,.mk ke ne se] _ hsh.out (rp0.below g1)).mono ?_;rintro e w2 ⟨A3,c3,rfl,hl3,r3,hb2⟩;have hZ2:=hZ1.keep hb2;have hJ2:=hJ1.keep hb2;have g2:=g1.trans (hb2.mono g1.size);clear j3 p0 p1 p2)
  | (go_at_call 132;refine (fK C m cc k n _ 3 c fc ev 0 (by omega) l ty _ h1.out (hT.below bw2)).mono ?_;rintro e w1 ⟨rfl,hb1⟩;have hZ1:=bH hb1;have hJ1:=((aC w 95 #[.slice C m cc,.int .i64 k,.int .i64 n,.slice (some ⟨bp,op,none⟩) 3 c,.func (.func fc) #[] ev] rfl).alloc (.cells Zr 25)).keep hb1;have g1:Bw w w1:=bQ bw2 hb1;have j3:=hJ1.at_ (i:=3) rfl;have p0:=(bU g1) _ _ i1;have p1:=(bU g1) _ _ i2;have p2:=(bU g1) _ _ i3;have tok1:=trivial))
 refine aN ?_;intro wx hwx;have hJx:=(show Blk wx w.heap.size _ by rw [hwx];exact hJ2.alloc _);have hZx:=(show Blk wx (w.heap.size+1) _ by rw [hwx];exact hZ2.alloc _);have h6x0:Blk wx w2.heap.size (Ro 13 n3 A3 2 c3):=by rw [hwx];exact aC _ 25 _ rfl
 have gx:Bw w wx:=by rw [hwx];exact g2.alloc g2.size _
 have r3x:Rd wx A3 0 [.mk kd nd sd,.mk ke ne se]:=by rw [hwx];exact r3.alloc _
 clear hwx;obtain ⟨be,oe,x1,x2,x3,Ae,ce,rfl,hk2,c1,c2,c3',hle,re0⟩:=r3x.at_ (j:=1) (by simp);injection hk2 with e1 e2 e3;subst e1 e2 e3;simp only [Nat.one_mul] at c1 c2 c3'
 have h6x:=h6x0;have u0:=aF (hJx.at_ (i:=0) rfl);have u1:=aF (hJx.at_ (i:=1) rfl);have u2:=aF (hJx.at_ (i:=2) rfl);have u3:=aF (hJx.at_ (i:=3) rfl);have u4:=aF (hJx.at_ (i:=4) rfl);obtain ⟨v0,v1,v2⟩:=iD h6x;refine dX wx [5] [0,1,3] 6 3 (lT:=[_,_,_]) ?_;intro q0 bq0;refine bV (aD ?_);refine bG 2 ?_
 ·go_wp2_with (go_at_call 109;refine (jU 13 n3 kd nd sd [.mk ke ne se] _ c3 _ (r3x.below bq0) (by simp)).mono ?_;rintro e q1 ⟨Ak,ck,rfl,hlk,rkq1,hbq1⟩)
  refine aY bq0 hbq1 ?_;intro bq1 lq1;refine bG 4 ?_
  ·go_wp2_with (go_at_call 108;refine (fC C m cc k n _ 3 c fc ev 1 (by omega) kd nd sd Ak ck ty _ h2c.out ((hT.below gx).below bq1) rkq1).mono ?_;rintro e q2 ⟨rfl,hbq2⟩)
   have Kq2:=rkq1.below hbq2;refine aY bq1 hbq2 ?_;intro bq2 lq2;refine cD [5] (lB:=[_]) ?_;go_upto_region 8 with fail
   refine aN ?_;intro wu hwu;have hJu:=(show Blk wu w.heap.size _ by rw [hwu];exact hJx.keep bq2);have hZu:=(show Blk wu (w.heap.size+1) _ by rw [hwu];exact hZx.keep bq2);have h6u:=(show Blk wu w2.heap.size _ by rw [hwu];exact h6x.keep bq2);have gu:Bw w wu:=by rw [hwu];exact gx.trans (bq2.mono gx.size)
   have kxu:Bw wx wu:=by rw [hwu];exact bq2
   clear hwu u0 u1 u2 u3 u4 v0 v1 v2;have reu:=re0.below kxu;have rau:=ra0.below gu;have v2:=aF h6u.three.2.2;have u3:=aF (hJu.at_ (i:=3) rfl);have y0:=aF ((bU kxu) _ _ c1);have y1:=aF ((bU kxu) _ _ c2);have y2:=aF ((bU kxu) _ _ c3');have z0:=aF ((bU gu) _ _ a1);have z1:=aF ((bU gu) _ _ a2);have z2:=aF ((bU gu) _ _ a3);go_cut [7,9] (fun vc vp wy=>∃(gz:Nat) (Az:Option Addr) (cz:Nat),vp = .pointer (some ⟨gz,0,none⟩)∧vc = .int .i64 0∧Blk wy gz (Ro kz nz Az sz.length cz)∧Rd wy Az 0 sz∧Bw wu wy∧wu.heap.size≤gz)
   case first=>
    refine dX wu [10,11,13,14,15,17,18] [0,1,2,3,4,5,6,7,8] 19 10 (lT:=[_,_,_,_,_,_,_,_,_]) ?_;intro q0 bq0;refine bV (aD ?_);refine kX 9 16 ?_ ?_
    ·go_wp2_with (go_at_call 110;refine (eQ ke ne se Ae ce 0 ka na sa Aa ca _ (by omega) hshx.out (by omega) (rau.below bq0) (by omega) hshb.out (reu.below bq0)).mono ?_;rw [hsu.out];intro e q1 hgo;obtain ⟨A7,c7,rfl,hl7,hfq1,hbq1⟩:=cS hgo;clear hgo)
     have rdq1:=hfq1.rd;refine aY bq0 hbq1 ?_;intro bq1 lq1;refine eS [10,11] 7 (lT:=[_,_]) ?_;refine bV (aD ?_);refine kX 12 16 ?_ ?_
     ·go_wp2_with (go_at_call 101;refine (bC kz nz sz A7 c7 _ hvz.out rdq1).mono ?_;rintro e q2 ⟨rfl,hbq2⟩)
      have Oq2:=rdq1.below hbq2;refine aY bq1 hbq2 ?_;intro bq2 lq2;refine eS [13,14,15] 3 (lT:=[_,_,_]) ?_;refine bV (aD ?_);refine bG 16 ?_
      ·go_wp2_with fail
       refine dO ?_;intro q3 hbq3 zq3 seq3;have Oq3:=Oq2.below hbq3;refine aY bq2 hbq3 ?_;intro bq3 lq3;refine cD [17,18] (lB:=[_,_]) ?_;obtain ⟨d0,d1,d2,e0,e1,e2⟩:=bW zq3;have szb:wu.heap.size≤q2.heap.size:=by first|exact bq0.size|exact bq2.size
       go_wp2_with fail
       go_meet
       exact ⟨q2.heap.size,A7,c7,rfl,rfl,((zq3.set_ 0 _).set_ 1 _).set_ 2 _,aZ zq3 hvz.out Oq3 _ _ _,((bq3.setCell szb _).setCell szb _).setCell szb _,szb⟩
     ·go_wp2_with fail
      refine dO ?_;intro q4 hbq4 zq4 seq4;have Oq4:=rdq1.below hbq4;refine aY bq1 hbq4 ?_;intro bq4 lq4;refine bG 12 ?_
      ·go_wp2_with (go_at_call 101;refine (bC kz nz sz A7 c7 _ hvz.out Oq4).mono ?_;rintro e q5 ⟨rfl,hbq5⟩)
       have Oq5:=Oq4.below hbq5;have Zq5:=zq4.keep hbq5;refine aY bq4 hbq5 ?_;intro bq5 lq5;refine eS [13,14,15] 2 (lT:=[_,_,_]) ?_;refine bV (aD ?_);refine cD [17,18] (lB:=[_,_]) ?_;obtain ⟨d0,d1,d2,e0,e1,e2⟩:=bW Zq5;have szb:wu.heap.size≤q1.heap.size:=by first|exact bq0.size|exact bq1.size
       go_wp2_with fail
       go_meet
       exact ⟨q1.heap.size,A7,c7,rfl,rfl,((Zq5.set_ 0 _).set_ 1 _).set_ 2 _,aZ Zq5 hvz.out Oq5 _ _ _,((bq5.setCell szb _).setCell szb _).setCell szb _,szb⟩
    ·go_wp2_with fail
     refine dO ?_;intro q6 hbq6 zq6 seq6;refine aY bq0 hbq6 ?_;intro bq6 lq6;refine bG 9 ?_
     ·go_wp2_with (go_at_call 110;refine (eQ ke ne se Ae ce 0 ka na sa Aa ca _ (by omega) hshx.out (by omega) (rau.below bq6) (by omega) hshb.out (reu.below bq6)).mono ?_;rw [hsu.out];intro e q7 hgo;obtain ⟨A7,c7,rfl,hl7,hfq7,hbq7⟩:=cS hgo;clear hgo)
      have rdq7:=hfq7.rd;have Zq7:=zq6.keep hbq7;refine aY bq6 hbq7 ?_;intro bq7 lq7;refine eS [10,11] 6 (lT:=[_,_]) ?_;refine bV (aD ?_);refine bG 12 ?_
      ·go_wp2_with (go_at_call 101;refine (bC kz nz sz A7 c7 _ hvz.out rdq7).mono ?_;rintro e q8 ⟨rfl,hbq8⟩)
       have Zq8:=Zq7.keep hbq8;have Oq8:=rdq7.below hbq8;refine aY bq7 hbq8 ?_;intro bq8 lq8;refine eS [13,14,15] 2 (lT:=[_,_,_]) ?_;refine bV (aD ?_);refine cD [17,18] (lB:=[_,_]) ?_;obtain ⟨d0,d1,d2,e0,e1,e2⟩:=bW Zq8;have szb:wu.heap.size≤q0.heap.size:=by first|exact bq0.size|exact bq0.size
       go_wp2_with fail
       go_meet
       exact ⟨q0.heap.size,A7,c7,rfl,rfl,((Zq8.set_ 0 _).set_ 1 _).set_ 2 _,aZ Zq8 hvz.out Oq8 _ _ _,((bq8.setCell szb _).setCell szb _).setCell szb _,szb⟩
   case rest=>
    obtain ⟨gz,Az,cz,rfl,rfl,hTz,rz,hxy,hgz⟩:=hcut;have gy:=gu.trans (hxy.mono gu.size);have hJy:=hJu.keep hxy;have hZy:=hZu.keep hxy;obtain ⟨t0,t1,t2⟩:=hTz.three;have j0:=hJy.at_ (i:=0) rfl;have j1:=hJy.at_ (i:=1) rfl;have j2:=hJy.at_ (i:=2) rfl;have j3:=hJy.at_ (i:=3) rfl;have j4:=hJy.at_ (i:=4) rfl;go_upto_region 12 with (go_at_call 108;refine (fC C m cc k n _ 3 c fc ev 2 (by omega) kz nz sz Az cz ty _ h3c.out (hT.below gy) rz).mono ?_;rintro e w5 ⟨rfl,hb5⟩)
    refine aN ?_;intro ws hws;have hZs:=(show Blk ws (w.heap.size+1) _ by rw [hws];exact hZy.keep hb5);have hJs:=(show Blk ws w.heap.size _ by rw [hws];exact hJy.keep hb5);have gs:Bw w ws:=by rw [hws];exact gy.trans (hb5.mono gy.size)
    clear hws j0 j1 j2 j3 j4 t0 t1 t2;have rps:=rp0.below gs;have v3:=hJs.at_ (i:=3) rfl;have p0:=(bU gs) _ _ i1;have p1:=(bU gs) _ _ i2;have p2:=(bU gs) _ _ i3;obtain ⟨d0,d1,d2,e0,e1,e2⟩:=bW hZs;go_wp2_with fail
    refine bodyPost_ret (v:=.tuple #[.agg (Ro kp np Ap sp.length cp),.int .i64 0]) (by simp [results,results114,go_sem,d0,d1,d2]) rfl ⟨Ap,cp,rfl,hlp,aZ hZs hvp.out rps _ _ _,?_⟩;exact ((gs.setCell (by simp) _).setCell (by simp) _).setCell (by simp) _
theorem uE (C:Option Addr)(m cc:Nat)(n:Int)(A:Option Addr)(la c fc:Nat)(ev:Array Value)(n3 kd nd:Int)(sd:List Tm)(ke ne:Int)(se:List Tm)(ty:Nat→Option Tm)(w:World)(h1:fmS (ty 0) 13=some (.mk 13 n3 [.mk kd nd sd,.mk ke ne se]))(hT:TyOk fc ev w ty) :
  Calls prog 115 #[.agg #[.slice C m cc,.int .i64 15,.int .i64 n,.slice A la c,.func (.func fc) #[] ev]] w (fD w kd nd sd):=by
 obtain ⟨_,_,he,hv3⟩:=fJ h1;injection he with e1 e2 e3;subst e2 e3;have hvd:=aD (aL hv3 (t:=.mk kd nd sd) (by simp));replace h1:=aD h1;clear hv3;go_enter func115,ntmps115;go_upto_region 2 with (go_at_call 107;refine (fA C m cc 15 n _ la c fc ev 0 (by omega) 13 n3 [.mk kd nd sd,.mk ke ne se] ty _ h1.out (hT.below bw2)).mono ?_;rintro e w1 ⟨A3,c3,rfl,hl3,r3,hb1⟩;have hZ1:=bH hb1;have hJ1:=((aC w 95 #[.slice C m cc,.int .i64 15,.int .i64 n,.slice A la c,.func (.func fc) #[] ev] rfl).alloc (.cells Zr 25)).keep hb1;have g1:Bw w w1:=bQ bw2 hb1)
 refine aN ?_;intro wx hwx;have hJx:=(show Blk wx w.heap.size _ by rw [hwx];exact hJ1.alloc _);have hZx:=(show Blk wx (w.heap.size+1) _ by rw [hwx];exact hZ1.alloc _);have h6x0:Blk wx w1.heap.size (Ro 13 n3 A3 2 c3):=by rw [hwx];exact aC _ 25 _ rfl
 have gx:Bw w wx:=by rw [hwx];exact g1.alloc g1.size _
 have r3x:Rd wx A3 0 [.mk kd nd sd,.mk ke ne se]:=by rw [hwx];exact r3.alloc _
 clear hwx;obtain ⟨be,oe,x1,x2,x3,Ad,cd,rfl,hk2,c1,c2,c3',hld,rd0⟩:=r3x.at_ (j:=0) (by simp);injection hk2 with e1 e2 e3;subst e1 e2 e3;simp only [Nat.zero_mul,Nat.add_zero] at c1 c2 c3'
 have h6x:=h6x0;have u1:=hJx.at_ (i:=1) rfl;have v2:=h6x.three.2.2;obtain ⟨d0,d1,d2,e0,e1,e2⟩:=bW hZx;go_wp2_with fail
 refine bodyPost_ret (v:=.tuple #[.agg (Ro kd nd Ad sd.length cd),.int .i64 0]) (by simp [results,results115,go_sem,d0,d1,d2]) rfl ⟨Ad,cd,rfl,hld,aZ hZx hvd.out rd0 _ _ _,?_⟩;exact ((gx.setCell (by simp) _).setCell (by simp) _).setCell (by simp) _
theorem aDc (C:Option Addr)(m cc:Nat)(n:Int)(A:Option Addr)(c fc:Nat)(ev:Array Value)(kp np:Int)(sp:List Tm)(n3 kd nd:Int)(sd:List Tm)(ke ne:Int)(se:List Tm)(kr nr:Int)(sr:List Tm)(ty:Nat→Option Tm)(w:World)(h1:fmS (ty 0) 13=some (.mk 13 n3 [.mk kd nd sd,.mk ke ne se]))(hvx:aE (.mk 15 0 [.mk kp np sp])=true)(hsu0:eI 0 (.mk 15 0 [.mk kp np sp]) (.mk ke ne se)=some (.mk kr nr sr))(hT:TyOk fc ev w ty)(hr:Rd w A 0 [.mk kp np sp]) :
  Calls prog 115 #[.agg #[.slice C m cc,.int .i64 16,.int .i64 n,.slice A 1 c,.func (.func fc) #[] ev]] w (fD w kr nr sr):=by
 obtain ⟨_,_,he,hv3⟩:=fJ h1;injection he with e1 e2 e3;subst e2 e3;have hvb:=aL hv3 (t:=.mk ke ne se) (by simp);have hzx:=aJ hvx;have hzb:=aJ hvb;have hshx:=aD (bD hvx);have hshb:=aD (bD hvb);have hvr:=aD (gI hsu0);have hsu:=aD hsu0;replace h1:=aD h1;clear hsu0 hv3 hvb hvx;obtain ⟨bp,op,Ap,cp,rfl,i1,i2,i3,hlp,rp0⟩:=kZ hr;simp only [Nat.zero_mul,Nat.add_zero] at i1 i2 i3
 go_enter func115,ntmps115;go_upto_region 2 with (go_at_call 107;refine (fA C m cc 16 n _ 1 c fc ev 0 (by omega) 13 n3 [.mk kd nd sd,.mk ke ne se] ty _ h1.out (hT.below bw2)).mono ?_;rintro e w1 ⟨A3,c3,rfl,hl3,r3,hb1⟩;have hZ1:=bH hb1;have hJ1:=((aC w 95 #[.slice C m cc,.int .i64 16,.int .i64 n,.slice (some ⟨bp,op,none⟩) 1 c,.func (.func fc) #[] ev] rfl).alloc (.cells Zr 25)).keep hb1;have g1:Bw w w1:=bQ bw2 hb1)
 refine aN ?_;intro wx hwx;have hJx:=(show Blk wx w.heap.size _ by rw [hwx];exact hJ1.alloc _);have hZx:=(show Blk wx (w.heap.size+1) _ by rw [hwx];exact hZ1.alloc _);have h6x0:Blk wx w1.heap.size (Ro 13 n3 A3 2 c3):=by rw [hwx];exact aC _ 25 _ rfl
 have gx:Bw w wx:=by rw [hwx];exact g1.alloc g1.size _
 have r3x:Rd wx A3 0 [.mk kd nd sd,.mk ke ne se]:=by rw [hwx];exact r3.alloc _
 clear hwx;have u1:=hJx.at_ (i:=1) rfl;go_upto_region 6 with fail
 refine aN ?_;intro ws hws;have hJs:=(show Blk ws w.heap.size _ by rw [hws];exact hJx);have hZs:=(show Blk ws (w.heap.size+1) _ by rw [hws];exact hZx);have h6s0:Blk ws w1.heap.size (Ro 13 n3 A3 2 c3):=by rw [hws];exact h6x0
 have gs:Bw w ws:=by rw [hws];exact gx
 have r3s:Rd ws A3 0 [.mk kd nd sd,.mk ke ne se]:=by rw [hws];exact r3x
 clear hws u1;obtain ⟨be,oe,x1,x2,x3,Ae,ce,rfl,hk2,c1,c2,c3',hle,res⟩:=r3s.at_ (j:=1) (by simp);injection hk2 with e1 e2 e3;subst e1 e2 e3;simp only [Nat.one_mul] at c1 c2 c3'
 have h6s:=h6s0;have rps:=rp0.below gs;have v2:=aF h6s.three.2.2;have u3:=aF (hJs.at_ (i:=3) rfl);obtain ⟨y0,y1,y2⟩:=rN c1 c2 c3';have z0:=aF ((bU gs) _ _ i1);have z1:=aF ((bU gs) _ _ i2);have z2:=aF ((bU gs) _ _ i3);refine dX ws [12,13,15,16,17,18] [0,1,2,3,4,5,6,7,8] 19 10 (lT:=[_,_,_,_,_,_,_,_,_]) ?_;intro q0 bq0;refine bV (aD ?_);refine bG 9 ?_
 ·go_wp2_with fail
  refine dO ?_;intro q1 hbq1 zq1 seq1;have rq1:Rd q1 (some ⟨q0.heap.size,0,none⟩) 0 [.mk kp np sp]:=aHp (s0:=sp) zq1 hlp ((rps.below bq0).below hbq1);refine aY bq0 hbq1 ?_;intro bq1 lq1;refine bG 10 ?_
  ·go_wp2_with (go_at_call 18;refine (aS 15 _ ⟨_,_,_,rfl⟩ _).mono ?_;rintro e q2 ⟨rfl,hbq2⟩)
   have Pq2:=rq1.below hbq2;refine aY bq1 hbq2 ?_;intro bq2 lq2;refine bG 11 ?_
   ·go_wp2_with (go_at_call 110;refine (eQ ke ne se Ae ce 0 15 0 [.mk kp np sp] (some ⟨q0.heap.size,0,none⟩) 1 _ (by omega) hshx.out (by omega) Pq2 (by omega) hshb.out (res.below bq2)).mono ?_;rw [hsu.out];intro e q3 hgo;obtain ⟨A7,c7,rfl,hl7,hfq3,hbq3⟩:=cS hgo;clear hgo)
    have rdq3:=hfq3.rd;have Pq3:=Pq2.below hbq3;refine aY bq2 hbq3 ?_;intro bq3 lq3;refine eS [12,13] 5 (lT:=[_,_]) ?_;refine bV (aD ?_);refine bG 14 ?_
    ·go_wp2_with (go_at_call 101;refine (bC kr nr sr A7 c7 _ hvr.out rdq3).mono ?_;rintro e q4 ⟨rfl,hbq4⟩)
     have Pq4:=Pq3.below hbq4;have Oq4:=rdq3.below hbq4;refine aY bq3 hbq4 ?_;intro bq4 lq4;refine eS [15,16] 2 (lT:=[_,_]) ?_;refine bV (aD ?_);refine cD [17,18] (lB:=[_,_]) ?_;have hZ2:=hZs.keep bq4;obtain ⟨d0,d1,d2,e0,e1,e2⟩:=bW hZ2;have gf:=gs.trans (bq4.mono gs.size);have rP:=Oq4;go_wp2_with fail
     refine bodyPost_ret (v:=.tuple #[.agg (Ro kr nr A7 sr.length c7),.int .i64 0]) (by simp [results,results115,go_sem,d0,d1,d2]) rfl ⟨A7,c7,rfl,hl7,aZ hZ2 hvr.out rP _ _ _,?_⟩;exact ((gf.setCell (by simp) _).setCell (by simp) _).setCell (by simp) _
theorem vU (C:Option Addr)(m cc:Nat)(n:Int)(A:Option Addr)(la c fc:Nat)(ev:Array Value)(kr nr:Int)(sr:List Tm)(w:World)(hvr:aE (.mk kr nr sr)=true)(hc:Hid (∀w',Bw w w'→Calls prog 105 #[.agg #[.slice C m cc,.int .i64 13,.int .i64 n,.slice A la c,.func (.func fc) #[] ev]] w' (fD w' kr nr sr))) :
  Calls prog 83 #[.agg #[.slice C m cc,.int .i64 13,.int .i64 n,.slice A la c,.func (.func fc) #[] ev]] w (fD w kr nr sr):=by
 replace hvr:=aD hvr;go_enter func83,ntmps83;go_wp2_with (go_at_call 105;refine (hc.out _ bw3).mono ?_;rintro e w1 ⟨A1,c1,rfl,hl1,r1,hb1⟩;have hZ1:Blk w1 (w.heap.size+1) Zr:=((aC (n:=w.heap.size+1) (w.alloc (.cells #[.slice C m cc,.int .i64 13,.int .i64 n,.slice A la c,.func (.func fc) #[] ev] 95)) 25 Zr (by simp)).alloc (.cells (Ro 13 n A la c) 25)).keep hb1;have g1:Bw w w1:=bQ bw3 hb1;obtain ⟨d0,d1,d2,e0,e1,e2⟩:=bW hZ1)
 refine bodyPost_ret (v:=.tuple #[.agg (Ro kr nr A1 sr.length c1),.int .i64 0]) (by simp [results,results83,go_sem,d0,d1,d2]) rfl ⟨A1,c1,rfl,hl1,aZ hZ1 hvr.out r1 _ _ _,?_⟩;exact bT g1
theorem xD (C:Option Addr)(m cc:Nat)(n:Int)(A:Option Addr)(la c fc:Nat)(ev:Array Value)(kr nr:Int)(sr:List Tm)(w:World)(hvr:aE (.mk kr nr sr)=true)(hc:Hid (∀w',Bw w w'→Calls prog 114 #[.agg #[.slice C m cc,.int .i64 14,.int .i64 n,.slice A la c,.func (.func fc) #[] ev]] w' (fD w' kr nr sr))) :
  Calls prog 83 #[.agg #[.slice C m cc,.int .i64 14,.int .i64 n,.slice A la c,.func (.func fc) #[] ev]] w (fD w kr nr sr):=by
 replace hvr:=aD hvr;go_enter func83,ntmps83;go_wp2_with (go_at_call 114;refine (hc.out _ bw3).mono ?_;rintro e w1 ⟨A1,c1,rfl,hl1,r1,hb1⟩;have hZ1:Blk w1 (w.heap.size+1) Zr:=((aC (n:=w.heap.size+1) (w.alloc (.cells #[.slice C m cc,.int .i64 14,.int .i64 n,.slice A la c,.func (.func fc) #[] ev] 95)) 25 Zr (by simp)).alloc (.cells (Ro 14 n A la c) 25)).keep hb1;have g1:Bw w w1:=bQ bw3 hb1;obtain ⟨d0,d1,d2,e0,e1,e2⟩:=bW hZ1)
 refine bodyPost_ret (v:=.tuple #[.agg (Ro kr nr A1 sr.length c1),.int .i64 0]) (by simp [results,results83,go_sem,d0,d1,d2]) rfl ⟨A1,c1,rfl,hl1,aZ hZ1 hvr.out r1 _ _ _,?_⟩;exact bT g1
theorem xM (C:Option Addr)(m cc:Nat)(n:Int)(A:Option Addr)(la c fc:Nat)(ev:Array Value)(kr nr:Int)(sr:List Tm)(w:World)(hvr:aE (.mk kr nr sr)=true)(hc:Hid (∀w',Bw w w'→Calls prog 115 #[.agg #[.slice C m cc,.int .i64 15,.int .i64 n,.slice A la c,.func (.func fc) #[] ev]] w' (fD w' kr nr sr))) :
  Calls prog 83 #[.agg #[.slice C m cc,.int .i64 15,.int .i64 n,.slice A la c,.func (.func fc) #[] ev]] w (fD w kr nr sr):=by
 replace hvr:=aD hvr;go_enter func83,ntmps83;go_wp2_with (go_at_call 115;refine (hc.out _ bw3).mono ?_;rintro e w1 ⟨A1,c1,rfl,hl1,r1,hb1⟩;have hZ1:Blk w1 (w.heap.size+1) Zr:=((aC (n:=w.heap.size+1) (w.alloc (.cells #[.slice C m cc,.int .i64 15,.int .i64 n,.slice A la c,.func (.func fc) #[] ev] 95)) 25 Zr (by simp)).alloc (.cells (Ro 15 n A la c) 25)).keep hb1;have g1:Bw w w1:=bQ bw3 hb1;obtain ⟨d0,d1,d2,e0,e1,e2⟩:=bW hZ1)
 refine bodyPost_ret (v:=.tuple #[.agg (Ro kr nr A1 sr.length c1),.int .i64 0]) (by simp [results,results83,go_sem,d0,d1,d2]) rfl ⟨A1,c1,rfl,hl1,aZ hZ1 hvr.out r1 _ _ _,?_⟩;exact bT g1
theorem xR (C:Option Addr)(m cc:Nat)(n:Int)(A:Option Addr)(la c fc:Nat)(ev:Array Value)(kr nr:Int)(sr:List Tm)(w:World)(hvr:aE (.mk kr nr sr)=true)(hc:Hid (∀w',Bw w w'→Calls prog 115 #[.agg #[.slice C m cc,.int .i64 16,.int .i64 n,.slice A la c,.func (.func fc) #[] ev]] w' (fD w' kr nr sr))) :
  Calls prog 83 #[.agg #[.slice C m cc,.int .i64 16,.int .i64 n,.slice A la c,.func (.func fc) #[] ev]] w (fD w kr nr sr):=by
 replace hvr:=aD hvr;go_enter func83,ntmps83;go_wp2_with (go_at_call 115;refine (hc.out _ bw3).mono ?_;rintro e w1 ⟨A1,c1,rfl,hl1,r1,hb1⟩;have hZ1:Blk w1 (w.heap.size+1) Zr:=((aC (n:=w.heap.size+1) (w.alloc (.cells #[.slice C m cc,.int .i64 16,.int .i64 n,.slice A la c,.func (.func fc) #[] ev] 95)) 25 Zr (by simp)).alloc (.cells (Ro 16 n A la c) 25)).keep hb1;have g1:Bw w w1:=bQ bw3 hb1;obtain ⟨d0,d1,d2,e0,e1,e2⟩:=bW hZ1)
 refine bodyPost_ret (v:=.tuple #[.agg (Ro kr nr A1 sr.length c1),.int .i64 0]) (by simp [results,results83,go_sem,d0,d1,d2]) rfl ⟨A1,c1,rfl,hl1,aZ hZ1 hvr.out r1 _ _ _,?_⟩;exact bT g1
end Go.Proofs.YtajjhldcjikkpaaGreat
