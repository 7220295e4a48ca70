/- Parts of the proof. No condition. -/
import Derived.Test.YtajjhldcjikkpaaGreatK13
open Go.Proofs.Tryz
namespace Go.Proofs.YtajjhldcjikkpaaGreat
open Go.RowKit
set_option maxHeartbeats 8000000
set_option maxRecDepth 100000
set_option linter.unusedSimpArgs false
set_option linter.unusedVariables false
theorem rC (C:Option Addr)(m cc:Nat)(k n:Int)(A:Option Addr)(c fc:Nat)(ev:Array Value)(la:Nat)(i j:Int)(ty:Nat→Option Tm)(w:World)(h1:wT (ty 0)=some i)(h2:wT (ty 1)=some j)(hT:TyOk fc ev w ty) :
  Calls prog 105 #[.agg #[.slice C m cc,.int .i64 k,.int .i64 n,.slice A la c,.func (.func fc) #[] ev]] w (fD w 2 (if i<j then j else i) []):=by
 obtain ⟨q,hq⟩:∃q,q=(if i<j then j else i):=⟨_,rfl⟩;have hmax:∀w',(Builtin.max_ #[3,3] 3 #[.int .i64 i,.int .i64 j]).run prog w' = .ok (.int .i64 q) w':=fun w'=>by rw [hq];first|(simp [go_sem];done)|(simp [go_sem];split<;>omega)
 rw [← hq];replace h1:=aD h1;replace h2:=aD h2;clear hq;go_enter func105,ntmps105;go_wp2_with (first
  | (go_at_call 103;have _t:=tok2;refine (mE _ _).mono ?_;rintro e w3 ⟨rfl,hb3⟩;have hZ3:=hZ2.keep hb3;have g3:=g2.trans (hb3.mono g2.size);obtain ⟨d0,d1,d2,e0,e1,e2⟩:=bW hZ3)
  | (go_at_call 132;have _t:=tok1;refine (fK C m cc k n A la c fc ev 1 (by omega) j ty _ h2.out (hT.below g1)).mono ?_;rintro e w2 ⟨rfl,hb2⟩;have hZ2:=hZ1.keep hb2;have g2:=g1.trans (hb2.mono g1.size);have tok2:=trivial)
  | (go_at_call 132;refine (fK C m cc k n A la c fc ev 0 (by omega) i ty _ h1.out (hT.below bw2)).mono ?_;rintro e w1 ⟨rfl,hb1⟩;have hZ1:=bH hb1;have hJ1:=((aC w 95 #[.slice C m cc,.int .i64 k,.int .i64 n,.slice A la c,.func (.func fc) #[] ev] rfl).alloc (.cells Zr 25)).keep hb1;have g1:Bw w w1:=bQ bw2 hb1;have j0:=hJ1.at_ (i:=0) rfl;have j1:=hJ1.at_ (i:=1) rfl;have j2:=hJ1.at_ (i:=2) rfl;have j3:=hJ1.at_ (i:=3) rfl;have j4:=hJ1.at_ (i:=4) rfl;have tok1:=trivial))
 refine bodyPost_ret (v:=.tuple #[.agg (Ro 2 q none 0 0),.int .i64 0]) (by simp [results,results105,go_sem,d0,d1,d2]) rfl ⟨none,0,rfl,by simp,Rd.nil,?_⟩;exact bT g3
theorem yN (C:Option Addr)(m cc:Nat)(k n:Int)(A:Option Addr)(c fc:Nat)(ev:Array Value)(l ka na:Int)(sa:List Tm)(a1:Tm)(kb nb:Int)(sb:List Tm)(kr nr:Int)(sr:List Tm)(ty:Nat→Option Tm)(w:World)(h1:wT (ty 0)=some l)(h2:ty 1=some (.mk kb nb sb))(hv:aE (.mk 3 0 [.mk ka na sa,.mk kb nb sb])=true)(hT:TyOk fc ev w ty)(hr:Rd w A 0 [.mk ka na sa,a1])
  (hRec : Hid (∀ (Ao : Option Addr) (co : Nat) (w' : World), Bw w w' → Rd w' Ao 0 [.mk ka na sa, .mk kb nb sb] → Calls prog 59 #[.slice C m cc, .agg (Ro 3 0 Ao 2 co)] w' (fD w' kr nr sr))) :
  Calls prog 106 #[.agg #[.slice C m cc,.int .i64 k,.int .i64 n,.slice A 2 c,.func (.func fc) #[] ev]] w (fD w 3 0 [.mk ka na sa,.mk kb nb sb]):=by
 obtain ⟨b2,b3,rfl,rfl⟩:=hT.1;all_goals
  have hv':=aD hv;replace h1:=aD h1;replace h2:=aD h2;clear hv;obtain ⟨ba,oa,Aa,ca,rfl,i1,i2,i3,hla,ra0⟩:=kZ hr;simp only [Nat.zero_mul,Nat.add_zero,Nat.one_mul,Nat.reduceMul] at i1 i2 i3
  go_enter func106,ntmps106;go_upto_region 7 with (first
   | (go_at_call 81;have _t:=tok1;refine (hT.2 1 kb nb sb (by omega) h2.out _ g1 _ (by rfl)).mono ?_;rintro e w2 ⟨Ab,cb,rfl,hlb,rb1,hb2⟩;have hZ2:=hZ1.keep hb2;have hJ2:=hJ1.keep hb2;have g2:=g1.trans (hb2.mono g1.size))
   | (go_at_call 132;refine (fK C m cc k n _ 2 c 81 #[.pointer (some ⟨b2,0,none⟩),.pointer (some ⟨b3,0,none⟩)] 0 (by omega) l ty _ h1.out (hT.below bw2)).mono ?_;rintro e w1 ⟨rfl,hb1⟩;have hZ1:=bH hb1;have hJ1:=((aC w 95 #[.slice C m cc,.int .i64 k,.int .i64 n,.slice (some ⟨ba,oa,none⟩) 2 c,.func (.func 81) #[] #[.pointer (some ⟨b2,0,none⟩),.pointer (some ⟨b3,0,none⟩)]] rfl).alloc (.cells Zr 25)).keep hb1;have g1:Bw w w1:=bQ bw2 hb1;have j0:=hJ1.at_ (i:=0) rfl;have j1:=hJ1.at_ (i:=1) rfl;have j2:=hJ1.at_ (i:=2) rfl;have j3:=hJ1.at_ (i:=3) rfl;have j4:=hJ1.at_ (i:=4) rfl;have tok1:=trivial))
  refine aN ?_;intro wx hwx;have hT6:Blk wx w2.heap.size (Ro kb nb Ab sb.length cb):=by rw [hwx];exact aC _ 25 _ rfl
  have hZx:=(show Blk wx (w.heap.size+1) _ by rw [hwx];exact hZ2.alloc _);have hJx:=(show Blk wx w.heap.size _ by rw [hwx];exact hJ2.alloc _);have gx:Bw w wx:=by rw [hwx];exact g2.alloc g2.size _
  have rb:Rd wx Ab 0 sb:=by rw [hwx];exact rb1.alloc _
  clear hwx;have ra:=ra0.below gx;have u3:=aF (hJx.at_ (i:=3) rfl);obtain ⟨v0,v1,v2⟩:=iD hT6;have y0:=aF ((bU gx) _ _ i1);have y1:=aF ((bU gx) _ _ i2);have y2:=aF ((bU gx) _ _ i3);go_cut [7,8] (fun vc vp wy=>∃(gz:Nat) (Az:Option Addr) (cz:Nat),vp = .pointer (some ⟨gz,0,none⟩)∧vc = .int .i64 0∧Blk wy gz (Ro 3 0 Az 2 cz)∧Rd wy Az 0 [.mk ka na sa,.mk kb nb sb]∧Bw wx wy∧wx.heap.size≤gz)
  case first=>
   refine dX wx [9,10,11,13,14] [0,1,2,3,4,5] 15 9 (lT:=[_,_,_,_,_,_]) ?_;intro q0 bq0;refine bV (aD ?_);refine kX 6 12 ?_ ?_
   ·go_wp2_with fail
    refine dO ?_;intro q1 hbq1 zq1 seq1;have rq1:Rd q1 (some ⟨q0.heap.size,0,none⟩) 0 [.mk ka na sa,.mk kb nb sb]:=cT (s0:=sa) (s1:=sb) zq1 hla hlb ((ra.below bq0).below hbq1) ((rb.below bq0).below hbq1);refine aY bq0 hbq1 ?_;intro bq1 lq1;refine kX 7 12 ?_ ?_
    ·go_wp2_with (go_at_call 18;refine (aS 3 _ ⟨_,_,_,rfl⟩ _).mono ?_;rintro e q2 ⟨rfl,hbq2⟩)
     have Pq2:=rq1.below hbq2;refine aY bq1 hbq2 ?_;intro bq2 lq2;refine kX 8 12 ?_ ?_
     ·go_wp2_with (go_at_call 101;refine (bC 3 0 [.mk ka na sa,.mk kb nb sb] _ 2 _ hv'.out Pq2).mono ?_;rintro e q3 ⟨rfl,hbq3⟩)
      have Pq3:=Pq2.below hbq3;refine aY bq2 hbq3 ?_;intro bq3 lq3;refine eS [9,10,11] 3 (lT:=[_,_,_]) ?_;refine bV (aD ?_);refine bG 12 ?_
      ·go_wp2_with fail
       refine dO ?_;intro q4 hbq4 zq4 seq4;have Pq4:=Pq3.below hbq4;refine aY bq3 hbq4 ?_;intro bq4 lq4;refine cD [13,14] (lB:=[_,_]) ?_;obtain ⟨d0,d1,d2,e0,e1,e2⟩:=bW zq4;have szb:wx.heap.size≤q3.heap.size:=by first|exact bq0.size|exact bq3.size
       go_wp2_with fail
       go_meet
       exact ⟨q3.heap.size,some ⟨q0.heap.size,0,none⟩,2,rfl,rfl,((zq4.set_ 0 _).set_ 1 _).set_ 2 _,aZ zq4 hv'.out Pq4 _ _ _,((bq4.setCell szb _).setCell szb _).setCell szb _,szb⟩
     ·go_wp2_with fail
      refine dO ?_;intro q5 hbq5 zq5 seq5;have Pq5:=Pq2.below hbq5;refine aY bq2 hbq5 ?_;intro bq5 lq5;refine bG 8 ?_
      ·go_wp2_with (go_at_call 101;refine (bC 3 0 [.mk ka na sa,.mk kb nb sb] _ 2 _ hv'.out Pq5).mono ?_;rintro e q6 ⟨rfl,hbq6⟩)
       have Pq6:=Pq5.below hbq6;have Zq6:=zq5.keep hbq6;refine aY bq5 hbq6 ?_;intro bq6 lq6;refine eS [9,10,11] 2 (lT:=[_,_,_]) ?_;refine bV (aD ?_);refine cD [13,14] (lB:=[_,_]) ?_;obtain ⟨d0,d1,d2,e0,e1,e2⟩:=bW Zq6;have szb:wx.heap.size≤q2.heap.size:=by first|exact bq0.size|exact bq2.size
       go_wp2_with fail
       go_meet
       exact ⟨q2.heap.size,some ⟨q0.heap.size,0,none⟩,2,rfl,rfl,((Zq6.set_ 0 _).set_ 1 _).set_ 2 _,aZ Zq6 hv'.out Pq6 _ _ _,((bq6.setCell szb _).setCell szb _).setCell szb _,szb⟩
    ·go_wp2_with fail
     refine dO ?_;intro q7 hbq7 zq7 seq7;have Pq7:=rq1.below hbq7;refine aY bq1 hbq7 ?_;intro bq7 lq7;refine bG 7 ?_
     ·go_wp2_with (go_at_call 18;refine (aS 3 _ ⟨_,_,_,rfl⟩ _).mono ?_;rintro e q8 ⟨rfl,hbq8⟩)
      have Pq8:=Pq7.below hbq8;have Zq8:=zq7.keep hbq8;refine aY bq7 hbq8 ?_;intro bq8 lq8;refine bG 8 ?_
      ·go_wp2_with (go_at_call 101;refine (bC 3 0 [.mk ka na sa,.mk kb nb sb] _ 2 _ hv'.out Pq8).mono ?_;rintro e q9 ⟨rfl,hbq9⟩)
       have Pq9:=Pq8.below hbq9;have Zq9:=Zq8.keep hbq9;refine aY bq8 hbq9 ?_;intro bq9 lq9;refine eS [9,10,11] 2 (lT:=[_,_,_]) ?_;refine bV (aD ?_);refine cD [13,14] (lB:=[_,_]) ?_;obtain ⟨d0,d1,d2,e0,e1,e2⟩:=bW Zq9;have szb:wx.heap.size≤q1.heap.size:=by first|exact bq0.size|exact bq1.size
       go_wp2_with fail
       go_meet
       exact ⟨q1.heap.size,some ⟨q0.heap.size,0,none⟩,2,rfl,rfl,((Zq9.set_ 0 _).set_ 1 _).set_ 2 _,aZ Zq9 hv'.out Pq9 _ _ _,((bq9.setCell szb _).setCell szb _).setCell szb _,szb⟩
   ·go_wp2_with fail
    refine dO ?_;intro q10 hbq10 zq10 seq10;refine aY bq0 hbq10 ?_;intro bq10 lq10;refine bG 6 ?_
    ·go_wp2_with fail
     refine dO ?_;intro q11 hbq11 zq11 seq11;have rq11:Rd q11 (some ⟨q10.heap.size,0,none⟩) 0 [.mk ka na sa,.mk kb nb sb]:=cT (s0:=sa) (s1:=sb) zq11 hla hlb ((ra.below bq10).below hbq11) ((rb.below bq10).below hbq11);have Zq11:=zq10.keep hbq11;refine aY bq10 hbq11 ?_;intro bq11 lq11;refine bG 7 ?_
     ·go_wp2_with (go_at_call 18;refine (aS 3 _ ⟨_,_,_,rfl⟩ _).mono ?_;rintro e q12 ⟨rfl,hbq12⟩)
      have Zq12:=Zq11.keep hbq12;have Pq12:=rq11.below hbq12;refine aY bq11 hbq12 ?_;intro bq12 lq12;refine bG 8 ?_
      ·go_wp2_with (go_at_call 101;refine (bC 3 0 [.mk ka na sa,.mk kb nb sb] _ 2 _ hv'.out Pq12).mono ?_;rintro e q13 ⟨rfl,hbq13⟩)
       have Zq13:=Zq12.keep hbq13;have Pq13:=Pq12.below hbq13;refine aY bq12 hbq13 ?_;intro bq13 lq13;refine eS [9,10,11] 2 (lT:=[_,_,_]) ?_;refine bV (aD ?_);refine cD [13,14] (lB:=[_,_]) ?_;obtain ⟨d0,d1,d2,e0,e1,e2⟩:=bW Zq13;have szb:wx.heap.size≤q0.heap.size:=by first|exact bq0.size|exact bq0.size
       go_wp2_with fail
       go_meet
       exact ⟨q0.heap.size,some ⟨q10.heap.size,0,none⟩,2,rfl,rfl,((Zq13.set_ 0 _).set_ 1 _).set_ 2 _,aZ Zq13 hv'.out Pq13 _ _ _,((bq13.setCell szb _).setCell szb _).setCell szb _,szb⟩
  case rest=>
   obtain ⟨gz,Az,cz,rfl,rfl,hTz,rz,hxy,hgz⟩:=hcut;have gy:=gx.trans (hxy.mono gx.size);have hZy:=hZx.keep hxy;have hJy:=hJx.keep hxy;have j0:=hJy.at_ (i:=0) rfl;have j1:=hJy.at_ (i:=1) rfl;have j2:=hJy.at_ (i:=2) rfl;have j3:=hJy.at_ (i:=3) rfl;have j4:=hJy.at_ (i:=4) rfl;obtain ⟨p0,p1,p2⟩:=hTz.three;have lzz:=hTz.lt;go_wp2_with (go_at_call 59;refine (hRec.out Az cz _ gy rz).mono ?_;rintro e w9 ⟨A9,c9,rfl,hl9,r9,hb9⟩;have hZ9:=hZy.keep hb9;have g9:=gy.trans (hb9.mono gy.size);have rz9:=rz.below hb9;have hT9:=hTz.keep hb9;clear p0 p1 p2;obtain ⟨p0,p1,p2⟩:=hT9.three;obtain ⟨d0,d1,d2,e0,e1,e2,lz9⟩:=dA hZ9;have lt9:=hT9.lt)
   have hyy:=fun (o:Obj)=>(((((hZ9.set_ 0 (.int .i64 3)).set_ 1 (.int .i64 0)).set_ 2 (.slice Az 2 cz)).alloc o:Blk _ _ (Ro 3 0 Az 2 cz))).three
   refine bodyPost_ret (v:=.tuple #[.agg (Ro 3 0 Az 2 cz),.int .i64 0]) (by simp [results,results106,go_sem,hyy]) rfl ⟨Az,cz,rfl,by simp,?_,?_⟩
   ·exact (aZ hZ9 hv'.out rz9 _ _ _).alloc _
   ·exact (bT g9).alloc (by simp [World.setCell];exact g9.size) _
theorem yQ (C:Option Addr)(m cc:Nat)(k n:Int)(A:Option Addr)(c fc:Nat)(ev:Array Value)(l ka na:Int)(sa:List Tm)(a1 a2:Tm)(ty:Nat→Option Tm)(w:World)(h1:wT (ty 0)=some l)(h2:jC (ty 1) (.mk ka na sa)=true)(h3:jC (ty 2) (.mk ka na sa)=true)(hT:TyOk fc ev w ty)(hr:Rd w A 0 [.mk ka na sa,a1,a2]) :
  Calls prog 112 #[.agg #[.slice C m cc,.int .i64 k,.int .i64 n,.slice A 3 c,.func (.func fc) #[] ev]] w (fD w 2 l []):=by
 replace h1:=aD h1;have hc1:=aD h2;have hc2:=aD h3;clear h2 h3;obtain ⟨ba,oa,Aa,ca,rfl,i1,i2,i3,hla,ra0⟩:=kZ hr;simp only [Nat.zero_mul,Nat.add_zero,Nat.one_mul,Nat.reduceMul] at i1 i2 i3
 go_enter func112,ntmps112;go_wp2_with (go_at_call 132;refine (fK C m cc k n _ 3 c fc ev 0 (by omega) l ty _ h1.out (hT.below bw2)).mono ?_;rintro e w1 ⟨rfl,hb1⟩;have hZ1:=bH hb1;have hJ1:=((aC w 95 #[.slice C m cc,.int .i64 k,.int .i64 n,.slice (some ⟨ba,oa,none⟩) 3 c,.func (.func fc) #[] ev] rfl).alloc (.cells Zr 25)).keep hb1;have g1:Bw w w1:=bQ bw2 hb1;have j0:=hJ1.at_ (i:=0) rfl;have j1:=hJ1.at_ (i:=1) rfl;have j2:=hJ1.at_ (i:=2) rfl;have j3:=hJ1.at_ (i:=3) rfl;have j4:=hJ1.at_ (i:=4) rfl;have tok1:=trivial)
 go_loopw [5,6] (fun co s wr=>∃j:Nat,1≤j∧j≤3∧s = .int .i64 j∧co = .int .i64 0∧Blk wr w.heap.size #[.slice C m cc,.int .i64 k,.int .i64 n,.slice (some ⟨ba,oa,none⟩) 3 c,.func (.func fc) #[] ev]∧Blk wr (w.heap.size+1) Zr∧Bw w wr)
  (fun co s _ => 3 - (intOf s).toNat)
 case atStart=>exact ⟨1,by omega,by omega,rfl,rfl,hJ1,hZ1,g1⟩
 case round=>
  obtain ⟨j,hj1,hj3,rfl,rfl,hJr,hZr,gr⟩:=hrel;rcases (show j=1∨j=2∨j=3 by omega) with rfl|rfl|rfl
  ·clear hj1 hj3;go_upto_region 5 with fail
   have u0:=aF (hJr.at_ (i:=0) rfl);have u1:=aF (hJr.at_ (i:=1) rfl);have u2:=aF (hJr.at_ (i:=2) rfl);have u3:=aF (hJr.at_ (i:=3) rfl);have u4:=aF (hJr.at_ (i:=4) rfl);have y0:=aF ((bU gr) _ _ i1);have y1:=aF ((bU gr) _ _ i2);have y2:=aF ((bU gr) _ _ i3);refine dX wr [8] [0,1,2,3,4,5,6] 9 2 (lT:=[_,_,_,_,_,_,_]) ?_;intro q0 bq0;refine bV (aD ?_);refine bG 7 ?_
   ·go_wp2_with (go_at_call 104;refine (jB C m cc k n _ 3 c fc ev 1 (by omega) ka na sa Aa ca ty _ hc1.out ((hT.below gr).below bq0) ((ra0.below gr).below bq0)).mono ?_;rintro e q1 ⟨rfl,hbq1⟩)
    refine aY bq0 hbq1 ?_;intro bq1 lq1;refine cD [8] (lB:=[_]) ?_;go_wp2_with fail
    go_roundw
    case rel=>exact ⟨2,by omega,by omega,rfl,rfl,hJr.keep bq1,hZr.keep bq1,gr.trans (bq1.mono gr.size)⟩
    case measure=>simp [intOf]
  ·clear hj1 hj3;go_upto_region 5 with fail
   have u0:=aF (hJr.at_ (i:=0) rfl);have u1:=aF (hJr.at_ (i:=1) rfl);have u2:=aF (hJr.at_ (i:=2) rfl);have u3:=aF (hJr.at_ (i:=3) rfl);have u4:=aF (hJr.at_ (i:=4) rfl);have y0:=aF ((bU gr) _ _ i1);have y1:=aF ((bU gr) _ _ i2);have y2:=aF ((bU gr) _ _ i3);refine dX wr [8] [0,1,2,3,4,5,6] 9 2 (lT:=[_,_,_,_,_,_,_]) ?_;intro q0 bq0;refine bV (aD ?_);refine bG 7 ?_
   ·go_wp2_with (go_at_call 104;refine (jB C m cc k n _ 3 c fc ev 2 (by omega) ka na sa Aa ca ty _ hc2.out ((hT.below gr).below bq0) ((ra0.below gr).below bq0)).mono ?_;rintro e q1 ⟨rfl,hbq1⟩)
    refine aY bq0 hbq1 ?_;intro bq1 lq1;refine cD [8] (lB:=[_]) ?_;go_wp2_with fail
    go_roundw
    case rel=>exact ⟨3,by omega,by omega,rfl,rfl,hJr.keep bq1,hZr.keep bq1,gr.trans (bq1.mono gr.size)⟩
    case measure=>simp [intOf]
  ·clear hj1 hj3;go_wp2_with (go_at_call 103;refine (mE _ _).mono ?_;rintro e w3 ⟨rfl,hb3⟩;have hZ3:=hZr.keep hb3;have g3:=gr.trans (hb3.mono gr.size);obtain ⟨d0,d1,d2,e0,e1,e2⟩:=bW hZ3)
   refine bodyPost_ret (v:=.tuple #[.agg (Ro 2 l none 0 0),.int .i64 0]) (by simp [results,results112,go_sem,d0,d1,d2]) rfl ⟨none,0,rfl,by simp,Rd.nil,?_⟩;exact bT g3
section
variable {p:Nat→Prop}{w:World}{g:Nat}{k0 n0 k1 n1:Int}{s0 s1:List Tm}{A0 A1:Option Addr}{c0 c1:Nat}
theorem aLm (hB:Blk w g (Ro k0 n0 A0 s0.length c0))(hp:p g)(l0:s0.length≤9223372036854775807)(r0:RdP p w A0 0 s0):RdP p w (some ⟨g,0,none⟩) 0 [.mk k0 n0 s0]:=
 RdP.cons_iff.2 ⟨⟨g,0,rfl,RdPC.iff.2 ⟨hp,hB.at_ (i:=0) rfl,hB.at_ (i:=1) rfl,A0,c0,hB.at_ (i:=2) rfl,l0,r0⟩⟩,RdP.nil⟩
theorem rS (hB:Blk w g #[.int .i64 k0,.int .i64 n0,.slice A0 s0.length c0,.int .i64 k1,.int .i64 n1,.slice A1 s1.length c1])(hp:p g)(l0:s0.length≤9223372036854775807)(l1:s1.length≤9223372036854775807)(r0:RdP p w A0 0 s0)(r1:RdP p w A1 0 s1):RdP p w (some ⟨g,0,none⟩) 0 [.mk k0 n0 s0,.mk k1 n1 s1]:=
 RdP.cons_iff.2 ⟨⟨g,0,rfl,RdPC.iff.2 ⟨hp,hB.at_ (i:=0) rfl,hB.at_ (i:=1) rfl,A0,c0,hB.at_ (i:=2) rfl,l0,r0⟩⟩,
  RdP.cons_iff.2 ⟨⟨g,0,rfl,RdPC.iff.2 ⟨hp,hB.at_ (i:=3) rfl,hB.at_ (i:=4) rfl,A1,c1,hB.at_ (i:=5) rfl,l1,r1⟩⟩,RdP.nil⟩⟩
end
def aWk (w:World)(k n:Int)(ks:List Tm)(e:Ending)(w':World):Prop:=
 ∃A c,e = .returned (.tuple #[.agg (Ro k n A ks.length c),.int .i64 0])∧ks.length≤9223372036854775807∧RdP (fun b=>w.heap.size≤b) w' A 0 ks∧Bw w w'
theorem mB (k0 n0:Int)(s0:List Tm)(A0:Option Addr)(c0:Nat)(k1 n1:Int)(s1:List Tm)(k2 n2:Int)(s2:List Tm)(w:World)(hv0:aE (.mk k0 n0 s0)=true)(hs1:cG 1 0 (.mk k0 n0 s0)=some (.mk k1 n1 s1))(hs2:cG 2 0 (.mk k0 n0 s0)=some (.mk k2 n2 s2))(hv:aE (.mk 3 0 [.mk 6 0 [],.mk 3 0 [.mk 5 0 [.mk k1 n1 s1,.mk 1 0 []],.mk 5 0 [.mk k2 n2 s2,.mk 8 0 [.mk 1 1 []]]]])=true)(hr:Rd w A0 0 s0) :
  Calls prog 135 #[.agg (Ro k0 n0 A0 s0.length c0)] w (aWk w 3 0 [.mk 6 0 [],.mk 3 0 [.mk 5 0 [.mk k1 n1 s1,.mk 1 0 []],.mk 5 0 [.mk k2 n2 s2,.mk 8 0 [.mk 1 1 []]]]]):=by
 have hz:=aJ hv0;have hsh:=aD (bD hv0);have hS1:=aD (fun (w:World) (hr:Rd w A0 0 s0)=>by have:=iV k0 n0 s0 A0 c0 1 0 w (by omega) (by omega) (by omega) hsh.out hr;rw [hs1] at this;exact this);have hS2:=aD (fun (w:World) (hr:Rd w A0 0 s0)=>by have:=iV k0 n0 s0 A0 c0 2 0 w (by omega) (by omega) (by omega) hsh.out hr;rw [hs2] at this;exact this);have hv':=aD hv;clear hv hv0 hs1 hs2;go_enter func135,ntmps135;go_upto_region 3 with (first
  | (go_at_call 102;have _t:=tok1;refine (hS2.out _ ((hr.below g1).alloc _)).mono ?_;intro e w2 hgo;obtain ⟨A2,c2,rfl,hl2,hf2,hb2⟩:=cS hgo;clear hgo;have hZ2:=(hZ1.alloc (.cells (Ro k1 n1 A1 s1.length c1) 25)).keep hb2;have hP2:=(aC w1 25 (Ro k1 n1 A1 s1.length c1) rfl).keep hb2;have g2:=(g1.alloc g1.size (.cells (Ro k1 n1 A1 s1.length c1) 25)).trans (hb2.mono (by have:=g1.size;simp;omega));have r12:=(r11.alloc (.cells (Ro k1 n1 A1 s1.length c1) 25)).below hb2;have r22:=hf2.rd'.mono (q:=fun b=>w.heap.size+2≤b) (fun b hb=>Nat.le_trans (by have:=g1.size;have:=hb1.size;simp at this;simp;omega) hb))
  | (go_at_call 102;refine (hS1.out _ ((hr.alloc _).alloc _)).mono ?_;intro e w1 hgo;obtain ⟨A1,c1,rfl,hl1,hf1,hb1⟩:=cS hgo;clear hgo;have hZ1:=bH hb1;have hX1:=((aC w 25 (Ro k0 n0 A0 s0.length c0) rfl).alloc (.cells Zr 25)).keep hb1;have g1:Bw w w1:=bQ bw2 hb1;have r11:=hf1.rd'.mono (q:=fun b=>w.heap.size+2≤b) (fun b hb=>by simp at hb;omega);obtain ⟨x0,x1,x2⟩:=hX1.three;have lx:=hX1.lt;have tok1:=trivial))
 refine aN ?_;intro wx hwx;have hT4:Blk wx w1.heap.size (Ro k1 n1 A1 s1.length c1):=by rw [hwx];exact hP2.alloc _
 have hT6:Blk wx w2.heap.size (Ro k2 n2 A2 s2.length c2):=by rw [hwx];exact aC _ 25 _ rfl
 have hZx:=(show Blk wx (w.heap.size+1) _ by rw [hwx];exact hZ2.alloc _);have gx:Bw w wx:=by rw [hwx];exact g2.alloc g2.size _
 have lzx:=hZx.lt;have r1:RdP (fun b=>w.heap.size+2≤b) wx A1 0 s1:=by rw [hwx];exact r12.alloc _
 have r2:RdP (fun b=>w.heap.size+2≤b) wx A2 0 s2:=by rw [hwx];exact r22.alloc _
 clear hwx;obtain ⟨v0,v1,v2⟩:=iD hT4;obtain ⟨y0,y1,y2⟩:=iD hT6;refine dX wx [16,17,18,20,21,22,23] [1,5,15] 24 21 (lT:=[_,_,_]) ?_;intro q0 bq0;refine bV (aD ?_);refine bG 0 ?_
 ·go_wp2_with (go_at_call 18;refine (aS 6 _ ⟨_,_,_,rfl⟩ _).mono ?_;rintro e q1 ⟨rfl,hbq1⟩)
  refine aY bq0 hbq1 ?_;intro bq1 lq1;refine bG 2 ?_
  ·go_wp2_with (go_at_call 131;refine (eH 0 _).mono ?_;rintro e q2 ⟨rfl,hbq2⟩)
   refine aY bq1 hbq2 ?_;intro bq2 lq2;refine bG 3 ?_
   ·go_wp2_with fail
    refine dO ?_;intro q3 hbq3 zq3 seq3;have hpq3:w.heap.size+2≤q2.heap.size:=by have:=bq2.size;omega
    have rq3:RdP (fun b=>w.heap.size+2≤b) q3 (some ⟨q2.heap.size,0,none⟩) 0 [.mk k1 n1 s1,.mk 1 0 []]:=rS (s0:=s1) (s1:=[]) zq3 hpq3 hl1 (by simp) ((r1.below bq2).below hbq3) RdP.nil;refine aY bq2 hbq3 ?_;intro bq3 lq3;refine bG 4 ?_
    ·go_wp2_with (go_at_call 18;refine (aS 5 _ ⟨_,_,_,rfl⟩ _).mono ?_;rintro e q4 ⟨rfl,hbq4⟩)
     have B1q4:=rq3.below hbq4;refine aY bq3 hbq4 ?_;intro bq4 lq4;refine bG 6 ?_
     ·go_wp2_with (go_at_call 131;refine (eH 1 _).mono ?_;rintro e q5 ⟨rfl,hbq5⟩)
      have B1q5:=B1q4.below hbq5;refine aY bq4 hbq5 ?_;intro bq5 lq5;refine bG 7 ?_
      ·go_wp2_with fail
       refine dO ?_;intro q6 hbq6 zq6 seq6;have hpq6:w.heap.size+2≤q5.heap.size:=by have:=bq5.size;omega
       have rq6:RdP (fun b=>w.heap.size+2≤b) q6 (some ⟨q5.heap.size,0,none⟩) 0 [.mk 1 1 []]:=aLm (s0:=[]) zq6 hpq6 (by simp) RdP.nil;have B1q6:=B1q5.below hbq6;refine aY bq5 hbq6 ?_;intro bq6 lq6;refine bG 8 ?_
       ·go_wp2_with (go_at_call 18;refine (aS 8 _ ⟨_,_,_,rfl⟩ _).mono ?_;rintro e q7 ⟨rfl,hbq7⟩)
        have B1q7:=B1q6.below hbq7;have V1q7:=rq6.below hbq7;refine aY bq6 hbq7 ?_;intro bq7 lq7;refine bG 9 ?_
        ·go_wp2_with fail
         refine dO ?_;intro q8 hbq8 zq8 seq8;have hpq8:w.heap.size+2≤q7.heap.size:=by have:=bq7.size;omega
         have rq8:RdP (fun b=>w.heap.size+2≤b) q8 (some ⟨q7.heap.size,0,none⟩) 0 [.mk k2 n2 s2,.mk 8 0 [.mk 1 1 []]]:=rS (s0:=s2) (s1:=[.mk 1 1 []]) zq8 hpq8 hl2 (by simp) ((r2.below bq7).below hbq8) (V1q7.below hbq8);have B1q8:=B1q7.below hbq8;have V1q8:=V1q7.below hbq8;refine aY bq7 hbq8 ?_;intro bq8 lq8;refine bG 10 ?_
         ·go_wp2_with (go_at_call 18;refine (aS 5 _ ⟨_,_,_,rfl⟩ _).mono ?_;rintro e q9 ⟨rfl,hbq9⟩)
          have B1q9:=B1q8.below hbq9;have V1q9:=V1q8.below hbq9;have B2q9:=rq8.below hbq9;refine aY bq8 hbq9 ?_;intro bq9 lq9;refine bG 11 ?_
          ·go_wp2_with fail
           refine dO ?_;intro q10 hbq10 zq10 seq10;have hpq10:w.heap.size+2≤q9.heap.size:=by have:=bq9.size;omega
           have rq10:RdP (fun b=>w.heap.size+2≤b) q10 (some ⟨q9.heap.size,0,none⟩) 0 [.mk 5 0 [.mk k1 n1 s1,.mk 1 0 []],.mk 5 0 [.mk k2 n2 s2,.mk 8 0 [.mk 1 1 []]]]:=rS (s0:=[.mk k1 n1 s1,.mk 1 0 []]) (s1:=[.mk k2 n2 s2,.mk 8 0 [.mk 1 1 []]]) zq10 hpq10 (by simp) (by simp) (B1q9.below hbq10) (B2q9.below hbq10);have B1q10:=B1q9.below hbq10;have V1q10:=V1q9.below hbq10;have B2q10:=B2q9.below hbq10;refine aY bq9 hbq10 ?_;intro bq10 lq10;refine bG 12 ?_
           ·go_wp2_with (go_at_call 18;refine (aS 3 _ ⟨_,_,_,rfl⟩ _).mono ?_;rintro e q11 ⟨rfl,hbq11⟩)
            have B1q11:=B1q10.below hbq11;have V1q11:=V1q10.below hbq11;have B2q11:=B2q10.below hbq11;have P2q11:=rq10.below hbq11;refine aY bq10 hbq11 ?_;intro bq11 lq11;refine bG 13 ?_
            ·go_wp2_with fail
             refine dO ?_;intro q12 hbq12 zq12 seq12;have hpq12:w.heap.size+2≤q11.heap.size:=by have:=bq11.size;omega
             have rq12:RdP (fun b=>w.heap.size+2≤b) q12 (some ⟨q11.heap.size,0,none⟩) 0 [.mk 6 0 [],.mk 3 0 [.mk 5 0 [.mk k1 n1 s1,.mk 1 0 []],.mk 5 0 [.mk k2 n2 s2,.mk 8 0 [.mk 1 1 []]]]]:=rS (s0:=[]) (s1:=[.mk 5 0 [.mk k1 n1 s1,.mk 1 0 []],.mk 5 0 [.mk k2 n2 s2,.mk 8 0 [.mk 1 1 []]]]) zq12 hpq12 (by simp) (by simp) RdP.nil (P2q11.below hbq12);have B1q12:=B1q11.below hbq12;have V1q12:=V1q11.below hbq12;have B2q12:=B2q11.below hbq12;have P2q12:=P2q11.below hbq12;refine aY bq11 hbq12 ?_;intro bq12 lq12;refine bG 14 ?_
             ·go_wp2_with (go_at_call 18;refine (aS 3 _ ⟨_,_,_,rfl⟩ _).mono ?_;rintro e q13 ⟨rfl,hbq13⟩)
              have B1q13:=B1q12.below hbq13;have V1q13:=V1q12.below hbq13;have B2q13:=B2q12.below hbq13;have P2q13:=P2q12.below hbq13;have P1q13:=rq12.below hbq13;refine aY bq12 hbq13 ?_;intro bq13 lq13;refine eS [16,17,18] 5 (lT:=[_,_,_]) ?_;refine bV (aD ?_);refine bG 19 ?_
              ·go_wp2_with (go_at_call 101;refine (bC 3 0 [.mk 6 0 [],.mk 3 0 [.mk 5 0 [.mk k1 n1 s1,.mk 1 0 []],.mk 5 0 [.mk k2 n2 s2,.mk 8 0 [.mk 1 1 []]]]] _ 2 _ hv'.out P1q13.rd).mono ?_;rintro e q14 ⟨rfl,hbq14⟩)
               have B1q14:=B1q13.below hbq14;have V1q14:=V1q13.below hbq14;have B2q14:=B2q13.below hbq14;have P2q14:=P2q13.below hbq14;have P1q14:=P1q13.below hbq14;refine aY bq13 hbq14 ?_;intro bq14 lq14;refine eS [20,21] 2 (lT:=[_,_]) ?_;refine bV (aD ?_);refine cD [22,23] (lB:=[_,_]) ?_;have hZ2:=hZx.keep bq14;obtain ⟨d0,d1,d2,e0,e1,e2⟩:=bW hZ2;have gf:=gx.trans (bq14.mono gx.size);have rP:=P1q14;go_wp2_with fail
               refine bodyPost_ret (v:=.tuple #[.agg (Ro 3 0 (some ⟨q11.heap.size,0,none⟩) 2 2),.int .i64 0]) (by simp [results,results135,go_sem,d0,d1,d2]) rfl ⟨some ⟨q11.heap.size,0,none⟩,2,rfl,by simp,?_,?_⟩
               ·exact (((rP.setCell (by simp) _).setCell (by simp) _).setCell (by simp) _).mono (fun b hb=>by omega)
               ·exact ((gf.setCell (by simp) _).setCell (by simp) _).setCell (by simp) _
end Go.Proofs.YtajjhldcjikkpaaGreat
