/- Parts of the proof. No condition. -/
import Derived.Test.YtddkehjdjfmhmaaGreatK19
open Go.Proofs.Tryz
namespace Go.Proofs.YtddkehjdjfmhmaaGreat
open Go.RowKit
set_option maxHeartbeats 16000000
set_option maxRecDepth 100000
set_option linter.unusedSimpArgs false
set_option linter.unusedVariables false
theorem wI (C:Option Addr)(m cc:Nat)(k n:Int)(A:Option Addr)(c fc:Nat)(ev:Array Value)(l ka na:Int)(sa:List Tm)(a1 a2:Tm)(ty:Nat→Option Tm)(w:World)(h1:jX (ty 0)=some l)(h2:fW (ty 1) (.mk ka na sa)=true)(h3:fW (ty 2) (.mk ka na sa)=true)(hT:TyOk fc ev w ty)(hr:Rd w A 0 [.mk ka na sa,a1,a2]) :
  Calls prog 101 #[.agg #[.slice C m cc,.int .i64 k,.int .i64 n,.slice A 3 c,.func (.func fc) #[] ev]] w (eO w 2 l []):=by
 replace h1:=aD h1;have hc1:=aD h2;have hc2:=aD h3;clear h2 h3;obtain ⟨ba,oa,Aa,ca,rfl,i1,i2,i3,hla,ra0⟩:=oF hr;simp only [Nat.zero_mul,Nat.add_zero,Nat.one_mul,Nat.reduceMul] at i1 i2 i3
 go_enter func101,ntmps101;go_wp2_with (go_at_call 120;refine (iV C m cc k n _ 3 c fc ev 0 (by omega) l ty _ h1.out (hT.below bw2)).mono ?_;rintro e w1 ⟨rfl,hb1⟩;have hZ1:=bA hb1;have hJ1:=((aC w 90 #[.slice C m cc,.int .i64 k,.int .i64 n,.slice (some ⟨ba,oa,none⟩) 3 c,.func (.func fc) #[] ev] rfl).alloc (.cells Zr 25)).keep hb1;have g1:Bw w w1:=bW bw2 hb1;have j0:=hJ1.at_ (i:=0) rfl;have j1:=hJ1.at_ (i:=1) rfl;have j2:=hJ1.at_ (i:=2) rfl;have j3:=hJ1.at_ (i:=3) rfl;have j4:=hJ1.at_ (i:=4) rfl;have tok1:=trivial)
 go_loopw [5,6] (fun co s wr=>∃j:Nat,1≤j∧j≤3∧s = .int .i64 j∧co = .int .i64 0∧Blk wr w.heap.size #[.slice C m cc,.int .i64 k,.int .i64 n,.slice (some ⟨ba,oa,none⟩) 3 c,.func (.func fc) #[] ev]∧Blk wr (w.heap.size+1) Zr∧Bw w wr)
  (fun co s _ => 3 - (intOf s).toNat)
 case atStart=>exact ⟨1,by omega,by omega,rfl,rfl,hJ1,hZ1,g1⟩
 case round=>
  obtain ⟨j,hj1,hj3,rfl,rfl,hJr,hZr,gr⟩:=hrel;rcases (show j=1∨j=2∨j=3 by omega) with rfl|rfl|rfl
  ·clear hj1 hj3;go_upto_region 5 with fail
   have u0:=aF (hJr.at_ (i:=0) rfl);have u1:=aF (hJr.at_ (i:=1) rfl);have u2:=aF (hJr.at_ (i:=2) rfl);have u3:=aF (hJr.at_ (i:=3) rfl);have u4:=aF (hJr.at_ (i:=4) rfl);have y0:=aF ((bR gr) _ _ i1);have y1:=aF ((bR gr) _ _ i2);have y2:=aF ((bR gr) _ _ i3);refine fE wr [8] [0,1,2,3,4,5,6] 9 2 (lT:=[_,_,_,_,_,_,_]) ?_;intro q0 bq0;refine cL (aD ?_);refine bG 7 ?_
   ·go_wp2_with (go_at_call 93;refine (kQ C m cc k n _ 3 c fc ev 1 (by omega) ka na sa Aa ca ty _ hc1.out ((hT.below gr).below bq0) ((ra0.below gr).below bq0)).mono ?_;rintro e q1 ⟨rfl,hbq1⟩)
    refine bJ bq0 hbq1 ?_;intro bq1 lq1;refine cY [8] (lB:=[_]) ?_;go_wp2_with fail
    go_roundw
    case rel=>exact ⟨2,by omega,by omega,rfl,rfl,hJr.keep bq1,hZr.keep bq1,gr.trans (bq1.mono gr.size)⟩
    case measure=>simp [intOf]
  ·clear hj1 hj3;go_upto_region 5 with fail
   have u0:=aF (hJr.at_ (i:=0) rfl);have u1:=aF (hJr.at_ (i:=1) rfl);have u2:=aF (hJr.at_ (i:=2) rfl);have u3:=aF (hJr.at_ (i:=3) rfl);have u4:=aF (hJr.at_ (i:=4) rfl);have y0:=aF ((bR gr) _ _ i1);have y1:=aF ((bR gr) _ _ i2);have y2:=aF ((bR gr) _ _ i3);refine fE wr [8] [0,1,2,3,4,5,6] 9 2 (lT:=[_,_,_,_,_,_,_]) ?_;intro q0 bq0;refine cL (aD ?_);refine bG 7 ?_
   ·go_wp2_with (go_at_call 93;refine (kQ C m cc k n _ 3 c fc ev 2 (by omega) ka na sa Aa ca ty _ hc2.out ((hT.below gr).below bq0) ((ra0.below gr).below bq0)).mono ?_;rintro e q1 ⟨rfl,hbq1⟩)
    refine bJ bq0 hbq1 ?_;intro bq1 lq1;refine cY [8] (lB:=[_]) ?_;go_wp2_with fail
    go_roundw
    case rel=>exact ⟨3,by omega,by omega,rfl,rfl,hJr.keep bq1,hZr.keep bq1,gr.trans (bq1.mono gr.size)⟩
    case measure=>simp [intOf]
  ·clear hj1 hj3;go_wp2_with (go_at_call 91;refine (oK _ _).mono ?_;rintro e w3 ⟨rfl,hb3⟩;have hZ3:=hZr.keep hb3;have g3:=gr.trans (hb3.mono gr.size);obtain ⟨d0,d1,d2,e0,e1,e2⟩:=cA hZ3)
   refine bodyPost_ret (v:=.tuple #[.agg (Ro 2 l none 0 0),.int .i64 0]) (by simp [results,results101,go_sem,d0,d1,d2]) rfl ⟨none,0,rfl,by simp,Rd.nil,?_⟩;exact bV g3
section
variable {p:Nat→Prop}{w:World}{g:Nat}{k0 n0 k1 n1:Int}{s0 s1:List Tm}{A0 A1:Option Addr}{c0 c1:Nat}
theorem aIz (hB:Blk w g (Ro k0 n0 A0 s0.length c0))(hp:p g)(l0:s0.length≤9223372036854775807)(r0:RdP p w A0 0 s0):RdP p w (some ⟨g,0,none⟩) 0 [.mk k0 n0 s0]:=
 RdP.cons_iff.2 ⟨⟨g,0,rfl,RdPC.iff.2 ⟨hp,hB.at_ (i:=0) rfl,hB.at_ (i:=1) rfl,A0,c0,hB.at_ (i:=2) rfl,l0,r0⟩⟩,RdP.nil⟩
theorem qG (hB:Blk w g #[.int .i64 k0,.int .i64 n0,.slice A0 s0.length c0,.int .i64 k1,.int .i64 n1,.slice A1 s1.length c1])(hp:p g)(l0:s0.length≤9223372036854775807)(l1:s1.length≤9223372036854775807)(r0:RdP p w A0 0 s0)(r1:RdP p w A1 0 s1):RdP p w (some ⟨g,0,none⟩) 0 [.mk k0 n0 s0,.mk k1 n1 s1]:=
 RdP.cons_iff.2 ⟨⟨g,0,rfl,RdPC.iff.2 ⟨hp,hB.at_ (i:=0) rfl,hB.at_ (i:=1) rfl,A0,c0,hB.at_ (i:=2) rfl,l0,r0⟩⟩,
  RdP.cons_iff.2 ⟨⟨g,0,rfl,RdPC.iff.2 ⟨hp,hB.at_ (i:=3) rfl,hB.at_ (i:=4) rfl,A1,c1,hB.at_ (i:=5) rfl,l1,r1⟩⟩,RdP.nil⟩⟩
end
def aSv (w:World)(k n:Int)(ks:List Tm)(e:Ending)(w':World):Prop:=
 ∃A c,e = .returned (.tuple #[.agg (Ro k n A ks.length c),.int .i64 0])∧ks.length≤9223372036854775807∧RdP (fun b=>w.heap.size≤b) w' A 0 ks∧Bw w w'
theorem wK (k0 n0:Int)(s0:List Tm)(A0:Option Addr)(c0:Nat)(k1 n1:Int)(s1:List Tm)(k2 n2:Int)(s2:List Tm)(w:World)(hv0:aE (.mk k0 n0 s0)=true)(hs1:cP 1 0 (.mk k0 n0 s0)=some (.mk k1 n1 s1))(hs2:cP 2 0 (.mk k0 n0 s0)=some (.mk k2 n2 s2))(hv:aE (.mk 3 0 [.mk 6 0 [],.mk 3 0 [.mk 5 0 [.mk k1 n1 s1,.mk 1 0 []],.mk 5 0 [.mk k2 n2 s2,.mk 8 0 [.mk 1 1 []]]]])=true)(hr:Rd w A0 0 s0) :
  Calls prog 123 #[.agg (Ro k0 n0 A0 s0.length c0)] w (aSv w 3 0 [.mk 6 0 [],.mk 3 0 [.mk 5 0 [.mk k1 n1 s1,.mk 1 0 []],.mk 5 0 [.mk k2 n2 s2,.mk 8 0 [.mk 1 1 []]]]]):=by
 have hz:=aI hv0;have hsh:=aD (bO hv0);have hS1:=aD (fun (w:World) (hr:Rd w A0 0 s0)=>by have:=kG k0 n0 s0 A0 c0 1 0 w (by omega) (by omega) (by omega) hsh.out hr;rw [hs1] at this;exact this);have hS2:=aD (fun (w:World) (hr:Rd w A0 0 s0)=>by have:=kG k0 n0 s0 A0 c0 2 0 w (by omega) (by omega) (by omega) hsh.out hr;rw [hs2] at this;exact this);have hv':=aD hv;clear hv hv0 hs1 hs2;go_enter func123,ntmps123;go_upto_region 3 with (first
  | (go_at_call 90;have _t:=tok1;refine (hS2.out _ ((hr.below g1).alloc _)).mono ?_;intro e w2 hgo;obtain ⟨A2,c2,rfl,hl2,hf2,hb2⟩:=dE hgo;clear hgo;have hZ2:=(hZ1.alloc (.cells (Ro k1 n1 A1 s1.length c1) 25)).keep hb2;have hP2:=(aC w1 25 (Ro k1 n1 A1 s1.length c1) rfl).keep hb2;have g2:=(g1.alloc g1.size (.cells (Ro k1 n1 A1 s1.length c1) 25)).trans (hb2.mono (by have:=g1.size;simp;omega));have r12:=(r11.alloc (.cells (Ro k1 n1 A1 s1.length c1) 25)).below hb2;have r22:=hf2.rd'.mono (q:=fun b=>w.heap.size+2≤b) (fun b hb=>Nat.le_trans (by have:=g1.size;have:=hb1.size;simp at this;simp;omega) hb))
  | (go_at_call 90;refine (hS1.out _ ((hr.alloc _).alloc _)).mono ?_;intro e w1 hgo;obtain ⟨A1,c1,rfl,hl1,hf1,hb1⟩:=dE hgo;clear hgo;have hZ1:=bA hb1;have hX1:=((aC w 25 (Ro k0 n0 A0 s0.length c0) rfl).alloc (.cells Zr 25)).keep hb1;have g1:Bw w w1:=bW bw2 hb1;have r11:=hf1.rd'.mono (q:=fun b=>w.heap.size+2≤b) (fun b hb=>by simp at hb;omega);obtain ⟨x0,x1,x2⟩:=hX1.three;have lx:=hX1.lt;have tok1:=trivial))
 refine aT ?_;intro wx hwx;have hT4:Blk wx w1.heap.size (Ro k1 n1 A1 s1.length c1):=by rw [hwx];exact hP2.alloc _
 have hT6:Blk wx w2.heap.size (Ro k2 n2 A2 s2.length c2):=by rw [hwx];exact aC _ 25 _ rfl
 have hZx:=(show Blk wx (w.heap.size+1) _ by rw [hwx];exact hZ2.alloc _);have gx:Bw w wx:=by rw [hwx];exact g2.alloc g2.size _
 have lzx:=hZx.lt;have r1:RdP (fun b=>w.heap.size+2≤b) wx A1 0 s1:=by rw [hwx];exact r12.alloc _
 have r2:RdP (fun b=>w.heap.size+2≤b) wx A2 0 s2:=by rw [hwx];exact r22.alloc _
 clear hwx;obtain ⟨v0,v1,v2⟩:=kZ hT4;obtain ⟨y0,y1,y2⟩:=kZ hT6;refine fE wx [16,17,18,20,21,22,23] [1,5,15] 24 21 (lT:=[_,_,_]) ?_;intro q0 bq0;refine cL (aD ?_);refine bG 0 ?_
 ·go_wp2_with (go_at_call 92;refine (bL 6 _ ⟨_,_,_,rfl⟩ _).mono ?_;rintro e q1 ⟨rfl,hbq1⟩)
  refine bJ bq0 hbq1 ?_;intro bq1 lq1;refine bG 2 ?_
  ·go_wp2_with (go_at_call 118;refine (eD 0 _).mono ?_;rintro e q2 ⟨rfl,hbq2⟩)
   refine bJ bq1 hbq2 ?_;intro bq2 lq2;refine bG 3 ?_
   ·go_wp2_with fail
    refine eQ ?_;intro q3 hbq3 zq3 seq3;have hpq3:w.heap.size+2≤q2.heap.size:=by have:=bq2.size;omega
    have rq3:RdP (fun b=>w.heap.size+2≤b) q3 (some ⟨q2.heap.size,0,none⟩) 0 [.mk k1 n1 s1,.mk 1 0 []]:=qG (s0:=s1) (s1:=[]) zq3 hpq3 hl1 (by simp) ((r1.below bq2).below hbq3) RdP.nil;refine bJ bq2 hbq3 ?_;intro bq3 lq3;refine bG 4 ?_
    ·go_wp2_with (go_at_call 92;refine (bL 5 _ ⟨_,_,_,rfl⟩ _).mono ?_;rintro e q4 ⟨rfl,hbq4⟩)
     have B1q4:=rq3.below hbq4;refine bJ bq3 hbq4 ?_;intro bq4 lq4;refine bG 6 ?_
     ·go_wp2_with (go_at_call 118;refine (eD 1 _).mono ?_;rintro e q5 ⟨rfl,hbq5⟩)
      have B1q5:=B1q4.below hbq5;refine bJ bq4 hbq5 ?_;intro bq5 lq5;refine bG 7 ?_
      ·go_wp2_with fail
       refine eQ ?_;intro q6 hbq6 zq6 seq6;have hpq6:w.heap.size+2≤q5.heap.size:=by have:=bq5.size;omega
       have rq6:RdP (fun b=>w.heap.size+2≤b) q6 (some ⟨q5.heap.size,0,none⟩) 0 [.mk 1 1 []]:=aIz (s0:=[]) zq6 hpq6 (by simp) RdP.nil;have B1q6:=B1q5.below hbq6;refine bJ bq5 hbq6 ?_;intro bq6 lq6;refine bG 8 ?_
       ·go_wp2_with (go_at_call 92;refine (bL 8 _ ⟨_,_,_,rfl⟩ _).mono ?_;rintro e q7 ⟨rfl,hbq7⟩)
        have B1q7:=B1q6.below hbq7;have V1q7:=rq6.below hbq7;refine bJ bq6 hbq7 ?_;intro bq7 lq7;refine bG 9 ?_
        ·go_wp2_with fail
         refine eQ ?_;intro q8 hbq8 zq8 seq8;have hpq8:w.heap.size+2≤q7.heap.size:=by have:=bq7.size;omega
         have rq8:RdP (fun b=>w.heap.size+2≤b) q8 (some ⟨q7.heap.size,0,none⟩) 0 [.mk k2 n2 s2,.mk 8 0 [.mk 1 1 []]]:=qG (s0:=s2) (s1:=[.mk 1 1 []]) zq8 hpq8 hl2 (by simp) ((r2.below bq7).below hbq8) (V1q7.below hbq8);have B1q8:=B1q7.below hbq8;have V1q8:=V1q7.below hbq8;refine bJ bq7 hbq8 ?_;intro bq8 lq8;refine bG 10 ?_
         ·go_wp2_with (go_at_call 92;refine (bL 5 _ ⟨_,_,_,rfl⟩ _).mono ?_;rintro e q9 ⟨rfl,hbq9⟩)
          have B1q9:=B1q8.below hbq9;have V1q9:=V1q8.below hbq9;have B2q9:=rq8.below hbq9;refine bJ bq8 hbq9 ?_;intro bq9 lq9;refine bG 11 ?_
          ·go_wp2_with fail
           refine eQ ?_;intro q10 hbq10 zq10 seq10;have hpq10:w.heap.size+2≤q9.heap.size:=by have:=bq9.size;omega
           have rq10:RdP (fun b=>w.heap.size+2≤b) q10 (some ⟨q9.heap.size,0,none⟩) 0 [.mk 5 0 [.mk k1 n1 s1,.mk 1 0 []],.mk 5 0 [.mk k2 n2 s2,.mk 8 0 [.mk 1 1 []]]]:=qG (s0:=[.mk k1 n1 s1,.mk 1 0 []]) (s1:=[.mk k2 n2 s2,.mk 8 0 [.mk 1 1 []]]) zq10 hpq10 (by simp) (by simp) (B1q9.below hbq10) (B2q9.below hbq10);have B1q10:=B1q9.below hbq10;have V1q10:=V1q9.below hbq10;have B2q10:=B2q9.below hbq10;refine bJ bq9 hbq10 ?_;intro bq10 lq10;refine bG 12 ?_
           ·go_wp2_with (go_at_call 92;refine (bL 3 _ ⟨_,_,_,rfl⟩ _).mono ?_;rintro e q11 ⟨rfl,hbq11⟩)
            have B1q11:=B1q10.below hbq11;have V1q11:=V1q10.below hbq11;have B2q11:=B2q10.below hbq11;have P2q11:=rq10.below hbq11;refine bJ bq10 hbq11 ?_;intro bq11 lq11;refine bG 13 ?_
            ·go_wp2_with fail
             refine eQ ?_;intro q12 hbq12 zq12 seq12;have hpq12:w.heap.size+2≤q11.heap.size:=by have:=bq11.size;omega
             have rq12:RdP (fun b=>w.heap.size+2≤b) q12 (some ⟨q11.heap.size,0,none⟩) 0 [.mk 6 0 [],.mk 3 0 [.mk 5 0 [.mk k1 n1 s1,.mk 1 0 []],.mk 5 0 [.mk k2 n2 s2,.mk 8 0 [.mk 1 1 []]]]]:=qG (s0:=[]) (s1:=[.mk 5 0 [.mk k1 n1 s1,.mk 1 0 []],.mk 5 0 [.mk k2 n2 s2,.mk 8 0 [.mk 1 1 []]]]) zq12 hpq12 (by simp) (by simp) RdP.nil (P2q11.below hbq12);have B1q12:=B1q11.below hbq12;have V1q12:=V1q11.below hbq12;have B2q12:=B2q11.below hbq12;have P2q12:=P2q11.below hbq12;refine bJ bq11 hbq12 ?_;intro bq12 lq12;refine bG 14 ?_
             ·go_wp2_with (go_at_call 92;refine (bL 3 _ ⟨_,_,_,rfl⟩ _).mono ?_;rintro e q13 ⟨rfl,hbq13⟩)
              have B1q13:=B1q12.below hbq13;have V1q13:=V1q12.below hbq13;have B2q13:=B2q12.below hbq13;have P2q13:=P2q12.below hbq13;have P1q13:=rq12.below hbq13;refine bJ bq12 hbq13 ?_;intro bq13 lq13;refine jW [16,17,18] 5 (lT:=[_,_,_]) ?_;refine cL (aD ?_);refine bG 19 ?_
              ·go_wp2_with (go_at_call 89;refine (cJ 3 0 [.mk 6 0 [],.mk 3 0 [.mk 5 0 [.mk k1 n1 s1,.mk 1 0 []],.mk 5 0 [.mk k2 n2 s2,.mk 8 0 [.mk 1 1 []]]]] _ 2 _ hv'.out P1q13.rd).mono ?_;rintro e q14 ⟨rfl,hbq14⟩)
               have B1q14:=B1q13.below hbq14;have V1q14:=V1q13.below hbq14;have B2q14:=B2q13.below hbq14;have P2q14:=P2q13.below hbq14;have P1q14:=P1q13.below hbq14;refine bJ bq13 hbq14 ?_;intro bq14 lq14;refine jW [20,21] 2 (lT:=[_,_]) ?_;refine cL (aD ?_);refine cY [22,23] (lB:=[_,_]) ?_;have hZ2:=hZx.keep bq14;obtain ⟨d0,d1,d2,e0,e1,e2⟩:=cA hZ2;have gf:=gx.trans (bq14.mono gx.size);have rP:=P1q14;go_wp2_with fail
               refine bodyPost_ret (v:=.tuple #[.agg (Ro 3 0 (some ⟨q11.heap.size,0,none⟩) 2 2),.int .i64 0]) (by simp [results,results123,go_sem,d0,d1,d2]) rfl ⟨some ⟨q11.heap.size,0,none⟩,2,rfl,by simp,?_,?_⟩
               ·exact (((rP.setCell (by simp) _).setCell (by simp) _).setCell (by simp) _).mono (fun b hb=>by omega)
               ·exact ((gf.setCell (by simp) _).setCell (by simp) _).setCell (by simp) _
theorem uY (C:Option Addr)(m cc:Nat)(k n:Int)(A:Option Addr)(c fc:Nat)(ev:Array Value)(kp np:Int)(sp:List Tm)(t1 t2:Tm)(ka na:Int)(sa:List Tm)(k1 n1:Int)(s1:List Tm)(k2 n2:Int)(s2:List Tm)(ty:Nat→Option Tm)(w:World)(hf:pL (ty 0) pZ=true)(hvp:aE (.mk kp np sp)=true)(hva:aE (.mk 5 0 [.mk kp np sp,.mk 7 0 []])=true)(h1c:fW (ty 1) (.mk 5 0 [.mk kp np sp,.mk 7 0 []])=true)
  (hs1 : cP 1 0 (.mk kp np sp) = some (.mk k1 n1 s1)) (hs2 : cP 2 0 (.mk kp np sp) = some (.mk k2 n2 s2)) (hvst : aE (.mk 3 0 [.mk 6 0 [], .mk 3 0 [.mk 5 0 [.mk k1 n1 s1, .mk 1 0 []], .mk 5 0 [.mk k2 n2 s2, .mk 8 0 [.mk 1 1 []]]]]) = true) (h2c : fW (ty 2) (.mk 3 0 [.mk 6 0 [], .mk 3 0 [.mk 5 0 [.mk k1 n1 s1, .mk 1 0 []], .mk 5 0 [.mk k2 n2 s2, .mk 8 0 [.mk 1 1 []]]]]) = true) (h3c : fW (ty 3) (.mk 6 0 []) = true) (hvr : aE (.mk 5 0 [.mk kp np sp, .mk ka na sa]) = true) (hT : TyOk fc ev w ty) (hr : Rd w A 0 [.mk kp np sp, t1, t2, .mk ka na sa]) :
  Calls prog 100 #[.agg #[.slice C m cc,.int .i64 k,.int .i64 n,.slice A 4 c,.func (.func fc) #[] ev]] w (eO w 5 0 [.mk kp np sp,.mk ka na sa]):=by
 replace hf:=aD (show pL (ty 0) (.mk 6 0 [])=true from hf);replace hvp:=aD hvp;replace hva:=aD hva;replace h1c:=aD h1c;replace hs1:=aD hs1;replace hs2:=aD hs2;replace hvst:=aD hvst;replace h2c:=aD h2c;replace h3c:=aD h3c;replace hvr:=aD hvr;obtain ⟨bp,op,Ap,cp,rfl,i1,i2,i3,hlp,rp0⟩:=oF hr;obtain ⟨Aa,ca,z1,z2,z3,hla,ra0⟩:=kd3 hr;simp only [Nat.zero_mul,Nat.add_zero,Nat.one_mul,Nat.reduceMul] at i1 i2 i3 z1 z2 z3
 have lbp:=jN _ _ i1;go_enter func100,ntmps100;go_upto_region 2 with fail
 refine aQm (show Blk _ w.heap.size #[.slice C m cc,.int .i64 k,.int .i64 n,.slice (some ⟨bp,op,none⟩) 4 c,.func (.func fc) #[] ev] from (((aC _ 90 _ rfl).alloc _).alloc _)) (show Blk _ (w.heap.size+1) Zr from ((aC _ 25 _ (by simp)).alloc _)) (show Blk _ (w.heap.size+1+1) (Ro kp np Ap sp.length cp) from (aC _ 25 _ (by simp))) bw3 ?_;intro wx hJx hZx hPx gx;have u0:=aF (hJx.at_ (i:=0) rfl);have u1:=aF (hJx.at_ (i:=1) rfl);have u2:=aF (hJx.at_ (i:=2) rfl);have u3:=aF (hJx.at_ (i:=3) rfl);have u4:=aF (hJx.at_ (i:=4) rfl);refine fE wx [3] [0] 4 3 (lT:=[_]) ?_;intro q0 bq0;refine cL (aD ?_);refine bG 1 ?_
 ·go_wp2_with (go_at_call 92;refine (bL 6 _ ⟨_,_,_,rfl⟩ _).mono ?_;rintro e q1 ⟨rfl,hbq1⟩)
  refine bJ bq0 hbq1 ?_;intro bq1 lq1;refine bG 2 ?_
  ·go_wp2_with (go_at_call 122;refine (tB C m cc k n _ 4 c fc ev 0 (by omega) 6 0 [] none 0 ty _ hf.out ((hT.below gx).below bq1) Rd.nil).mono ?_;rintro e q2 ⟨rfl,hbq2⟩)
   refine bJ bq1 hbq2 ?_;intro bq2 lq2;refine cY [3] (lB:=[_]) ?_;go_upto_region 5 with fail
   refine aT ?_;intro wu hwu;have hJu:=(show Blk wu w.heap.size _ by rw [hwu];exact hJx.keep bq2);have hZu:=(show Blk wu (w.heap.size+1) _ by rw [hwu];exact hZx.keep bq2);have hPu:Blk wu (w.heap.size+1+1) (Ro kp np Ap sp.length cp):=by rw [hwu];exact hPx.keep bq2
   have gu:Bw w wu:=by rw [hwu];exact gx.trans (bq2.mono gx.size)
   clear hwu;have rpu:=rp0.below gu;obtain ⟨v0,v1,v2⟩:=kZ hPu;go_cut [6,7] (fun vp vc wy=>∃(gz:Nat) (Az:Option Addr) (cz:Nat),vp = .pointer (some ⟨gz,0,none⟩)∧vc = .int .i64 0∧Blk wy gz (Ro 5 0 Az 2 cz)∧Rd wy Az 0 [.mk kp np sp,.mk 7 0 []]∧Bw wu wy∧wu.heap.size≤gz)
   case first=>
    refine fE wu [5,6,7,9,10] [0] 11 10 (lT:=[_]) ?_;intro q0 bq0;refine cL (aD ?_);refine oC 1 8 ?_ ?_
    ·go_wp2_with (go_at_call 92;refine (bL 7 _ ⟨_,_,_,rfl⟩ _).mono ?_;rintro e q1 ⟨rfl,hbq1⟩)
     refine bJ bq0 hbq1 ?_;intro bq1 lq1;refine oC 2 8 ?_ ?_
     ·go_wp2_with fail
      refine eQ ?_;intro q2 hbq2 zq2 seq2;have rq2:Rd q2 (some ⟨q1.heap.size,0,none⟩) 0 [.mk kp np sp,.mk 7 0 []]:=fF (s0:=sp) (s1:=[]) zq2 hlp (by simp) ((rpu.below bq1).below hbq2) Rd.nil;refine bJ bq1 hbq2 ?_;intro bq2 lq2;refine oC 3 8 ?_ ?_
      ·go_wp2_with (go_at_call 92;refine (bL 5 _ ⟨_,_,_,rfl⟩ _).mono ?_;rintro e q3 ⟨rfl,hbq3⟩)
       have Pq3:=rq2.below hbq3;refine bJ bq2 hbq3 ?_;intro bq3 lq3;refine oC 4 8 ?_ ?_
       ·go_wp2_with (go_at_call 89;refine (cJ 5 0 [.mk kp np sp,.mk 7 0 []] _ 2 _ hva.out Pq3).mono ?_;rintro e q4 ⟨rfl,hbq4⟩)
        have Pq4:=Pq3.below hbq4;refine bJ bq3 hbq4 ?_;intro bq4 lq4;refine jW [5,6,7] 3 (lT:=[_,_,_]) ?_;refine cL (aD ?_);refine bG 8 ?_
        ·go_wp2_with fail
         refine eQ ?_;intro q5 hbq5 zq5 seq5;have Pq5:=Pq4.below hbq5;refine bJ bq4 hbq5 ?_;intro bq5 lq5;refine cY [9,10] (lB:=[_,_]) ?_;obtain ⟨d0,d1,d2,e0,e1,e2⟩:=cA zq5;have szb:wu.heap.size≤q4.heap.size:=by first|exact bq0.size|exact bq4.size
         go_wp2_with fail
         go_meet
         exact ⟨q4.heap.size,some ⟨q1.heap.size,0,none⟩,2,rfl,rfl,((zq5.set_ 0 _).set_ 1 _).set_ 2 _,bT zq5 hva.out Pq5 _ _ _,((bq5.setCell szb _).setCell szb _).setCell szb _,szb⟩
       ·go_wp2_with fail
        refine eQ ?_;intro q6 hbq6 zq6 seq6;have Pq6:=Pq3.below hbq6;refine bJ bq3 hbq6 ?_;intro bq6 lq6;refine bG 4 ?_
        ·go_wp2_with (go_at_call 89;refine (cJ 5 0 [.mk kp np sp,.mk 7 0 []] _ 2 _ hva.out Pq6).mono ?_;rintro e q7 ⟨rfl,hbq7⟩)
         have Pq7:=Pq6.below hbq7;have Zq7:=zq6.keep hbq7;refine bJ bq6 hbq7 ?_;intro bq7 lq7;refine jW [5,6,7] 2 (lT:=[_,_,_]) ?_;refine cL (aD ?_);refine cY [9,10] (lB:=[_,_]) ?_;obtain ⟨d0,d1,d2,e0,e1,e2⟩:=cA Zq7;have szb:wu.heap.size≤q3.heap.size:=by first|exact bq0.size|exact bq3.size
         go_wp2_with fail
         go_meet
         exact ⟨q3.heap.size,some ⟨q1.heap.size,0,none⟩,2,rfl,rfl,((Zq7.set_ 0 _).set_ 1 _).set_ 2 _,bT Zq7 hva.out Pq7 _ _ _,((bq7.setCell szb _).setCell szb _).setCell szb _,szb⟩
      ·go_wp2_with fail
       refine eQ ?_;intro q8 hbq8 zq8 seq8;have Pq8:=rq2.below hbq8;refine bJ bq2 hbq8 ?_;intro bq8 lq8;refine bG 3 ?_
       ·go_wp2_with (go_at_call 92;refine (bL 5 _ ⟨_,_,_,rfl⟩ _).mono ?_;rintro e q9 ⟨rfl,hbq9⟩)
        have Pq9:=Pq8.below hbq9;have Zq9:=zq8.keep hbq9;refine bJ bq8 hbq9 ?_;intro bq9 lq9;refine bG 4 ?_
        ·go_wp2_with (go_at_call 89;refine (cJ 5 0 [.mk kp np sp,.mk 7 0 []] _ 2 _ hva.out Pq9).mono ?_;rintro e q10 ⟨rfl,hbq10⟩)
         have Pq10:=Pq9.below hbq10;have Zq10:=Zq9.keep hbq10;refine bJ bq9 hbq10 ?_;intro bq10 lq10;refine jW [5,6,7] 2 (lT:=[_,_,_]) ?_;refine cL (aD ?_);refine cY [9,10] (lB:=[_,_]) ?_;obtain ⟨d0,d1,d2,e0,e1,e2⟩:=cA Zq10;have szb:wu.heap.size≤q2.heap.size:=by first|exact bq0.size|exact bq2.size
         go_wp2_with fail
         go_meet
         exact ⟨q2.heap.size,some ⟨q1.heap.size,0,none⟩,2,rfl,rfl,((Zq10.set_ 0 _).set_ 1 _).set_ 2 _,bT Zq10 hva.out Pq10 _ _ _,((bq10.setCell szb _).setCell szb _).setCell szb _,szb⟩
     ·go_wp2_with fail
      refine eQ ?_;intro q11 hbq11 zq11 seq11;refine bJ bq1 hbq11 ?_;intro bq11 lq11;refine bG 2 ?_
      ·go_wp2_with fail
       refine eQ ?_;intro q12 hbq12 zq12 seq12;have rq12:Rd q12 (some ⟨q11.heap.size,0,none⟩) 0 [.mk kp np sp,.mk 7 0 []]:=fF (s0:=sp) (s1:=[]) zq12 hlp (by simp) ((rpu.below bq11).below hbq12) Rd.nil;have Zq12:=zq11.keep hbq12;refine bJ bq11 hbq12 ?_;intro bq12 lq12;refine bG 3 ?_
       ·go_wp2_with (go_at_call 92;refine (bL 5 _ ⟨_,_,_,rfl⟩ _).mono ?_;rintro e q13 ⟨rfl,hbq13⟩)
        have Zq13:=Zq12.keep hbq13;have Pq13:=rq12.below hbq13;refine bJ bq12 hbq13 ?_;intro bq13 lq13;refine bG 4 ?_
        ·go_wp2_with (go_at_call 89;refine (cJ 5 0 [.mk kp np sp,.mk 7 0 []] _ 2 _ hva.out Pq13).mono ?_;rintro e q14 ⟨rfl,hbq14⟩)
         have Zq14:=Zq13.keep hbq14;have Pq14:=Pq13.below hbq14;refine bJ bq13 hbq14 ?_;intro bq14 lq14;refine jW [5,6,7] 2 (lT:=[_,_,_]) ?_;refine cL (aD ?_);refine cY [9,10] (lB:=[_,_]) ?_;obtain ⟨d0,d1,d2,e0,e1,e2⟩:=cA Zq14;have szb:wu.heap.size≤q1.heap.size:=by first|exact bq0.size|exact bq1.size
         go_wp2_with fail
         go_meet
         exact ⟨q1.heap.size,some ⟨q11.heap.size,0,none⟩,2,rfl,rfl,((Zq14.set_ 0 _).set_ 1 _).set_ 2 _,bT Zq14 hva.out Pq14 _ _ _,((bq14.setCell szb _).setCell szb _).setCell szb _,szb⟩
    ·go_wp2_with fail
     refine eQ ?_;intro q15 hbq15 zq15 seq15;refine bJ bq0 hbq15 ?_;intro bq15 lq15;refine bG 1 ?_
     ·go_wp2_with (go_at_call 92;refine (bL 7 _ ⟨_,_,_,rfl⟩ _).mono ?_;rintro e q16 ⟨rfl,hbq16⟩)
      have Zq16:=zq15.keep hbq16;refine bJ bq15 hbq16 ?_;intro bq16 lq16;refine bG 2 ?_
      ·go_wp2_with fail
       refine eQ ?_;intro q17 hbq17 zq17 seq17;have rq17:Rd q17 (some ⟨q16.heap.size,0,none⟩) 0 [.mk kp np sp,.mk 7 0 []]:=fF (s0:=sp) (s1:=[]) zq17 hlp (by simp) ((rpu.below bq16).below hbq17) Rd.nil;have Zq17:=Zq16.keep hbq17;refine bJ bq16 hbq17 ?_;intro bq17 lq17;refine bG 3 ?_
       ·go_wp2_with (go_at_call 92;refine (bL 5 _ ⟨_,_,_,rfl⟩ _).mono ?_;rintro e q18 ⟨rfl,hbq18⟩)
        have Zq18:=Zq17.keep hbq18;have Pq18:=rq17.below hbq18;refine bJ bq17 hbq18 ?_;intro bq18 lq18;refine bG 4 ?_
        ·go_wp2_with (go_at_call 89;refine (cJ 5 0 [.mk kp np sp,.mk 7 0 []] _ 2 _ hva.out Pq18).mono ?_;rintro e q19 ⟨rfl,hbq19⟩)
         have Zq19:=Zq18.keep hbq19;have Pq19:=Pq18.below hbq19;refine bJ bq18 hbq19 ?_;intro bq19 lq19;refine jW [5,6,7] 2 (lT:=[_,_,_]) ?_;refine cL (aD ?_);refine cY [9,10] (lB:=[_,_]) ?_;obtain ⟨d0,d1,d2,e0,e1,e2⟩:=cA Zq19;have szb:wu.heap.size≤q0.heap.size:=by first|exact bq0.size|exact bq0.size
         go_wp2_with fail
         go_meet
         exact ⟨q0.heap.size,some ⟨q16.heap.size,0,none⟩,2,rfl,rfl,((Zq19.set_ 0 _).set_ 1 _).set_ 2 _,bT Zq19 hva.out Pq19 _ _ _,((bq19.setCell szb _).setCell szb _).setCell szb _,szb⟩
   case rest=>
    obtain ⟨gz,Az,cz,rfl,rfl,hTz,rz,hxy,hgz⟩:=hcut;have gy:=gu.trans (hxy.mono gu.size);have hJy:=hJu.keep hxy;have hZy:=hZu.keep hxy;have hPy:=hPu.keep hxy;have hgw:w.heap.size≤gz:=Nat.le_trans gu.size hgz;have lJ:=hJu.lt;have lZ:=hZu.lt;have lP:=hPu.lt;have hn1:w.heap.size≠gz:=by omega
    have hn2:w.heap.size+1≠gz:=by omega
    have hn3:(w.heap.size+1+1)≠gz:=by omega
    have hn1':gz≠w.heap.size:=by omega
    obtain ⟨t0,t1,t2⟩:=hTz.three;have j0:=hJy.at_ (i:=0) rfl;have j1:=hJy.at_ (i:=1) rfl;have j2:=hJy.at_ (i:=2) rfl;have j3:=hJy.at_ (i:=3) rfl;have j4:=hJy.at_ (i:=4) rfl;clear v0 v1 v2;go_upto_region 13 with (first
     | (go_at_call 97;have _t:=tok6;refine (lQ C m cc k n _ 4 c fc ev 2 (by omega) 3 0 [.mk 6 0 [],.mk 3 0 [.mk 5 0 [.mk k1 n1 s1,.mk 1 0 []],.mk 5 0 [.mk k2 n2 s2,.mk 8 0 [.mk 1 1 []]]]] A6 c6 ty _ h2c.out (hT.below (((g6.setCell (p:=⟨gz,0,none⟩) hgw _).setCell (p:=⟨gz,1,none⟩) hgw _).setCell (p:=⟨gz,2,none⟩) hgw _)) r6s).mono ?_;rintro e w7 ⟨rfl,hb7⟩;have hJ7:=(((hJ6.far (p:=⟨gz,0,none⟩) hn1 _).far (p:=⟨gz,1,none⟩) hn1 _).far (p:=⟨gz,2,none⟩) hn1 _).keep hb7;have hZ7:=(((hZ6.far (p:=⟨gz,0,none⟩) hn2 _).far (p:=⟨gz,1,none⟩) hn2 _).far (p:=⟨gz,2,none⟩) hn2 _).keep hb7;have hP7:=(((hP6.far (p:=⟨gz,0,none⟩) hn3 _).far (p:=⟨gz,1,none⟩) hn3 _).far (p:=⟨gz,2,none⟩) hn3 _).keep hb7;have g7:=(((g6.setCell (p:=⟨gz,0,none⟩) hgw _).setCell (p:=⟨gz,1,none⟩) hgw _).setCell (p:=⟨gz,2,none⟩) hgw _).trans (hb7.mono (((g6.setCell (p:=⟨gz,0,none⟩) hgw _).setCell (p:=⟨gz,1,none⟩) hgw _).setCell (p:=⟨gz,2,none⟩) hgw _).size))
     | (go_at_call 123;have _t:=tok5;refine (wK kp np sp Ap cp k1 n1 s1 k2 n2 s2 _ hvp.out hs1.out hs2.out hvst.out (rp0.below g5)).mono ?_;rintro e w6 ⟨A6,c6,rfl,hl6,r6,hb6⟩;have hJ6:=hJ5.keep hb6;have hZ6:=hZ5.keep hb6;have hP6:=hP5.keep hb6;have hG6:=hG5.keep hb6;have g6:=g5.trans (hb6.mono g5.size);clear j0 j1 j2 j3 j4;have j0:=hJ6.at_ (i:=0) rfl;have j1:=hJ6.at_ (i:=1) rfl;have j2:=hJ6.at_ (i:=2) rfl;have j3:=hJ6.at_ (i:=3) rfl;have j4:=hJ6.at_ (i:=4) rfl;obtain ⟨t0,t1,t2,f0,f1,f2⟩:=cA hG6;have lG:=hG5.lt;have r6s:=(((r6.setCell (a:=⟨gz,0,none⟩) (by simp;omega) (.int .i64 3)).setCell (a:=⟨gz,1,none⟩) (by simp;omega) (.int .i64 0)).setCell (a:=⟨gz,2,none⟩) (by simp;omega) (.slice A6 2 c6)).rd;have tok6:=trivial)
     | (go_at_call 97;refine (lQ C m cc k n _ 4 c fc ev 1 (by omega) 5 0 [.mk kp np sp,.mk 7 0 []] Az cz ty _ h1c.out (hT.below gy) rz).mono ?_;rintro e w5 ⟨rfl,hb5⟩;have hJ5:=hJy.keep hb5;have hZ5:=hZy.keep hb5;have hP5:=hPy.keep hb5;have hG5:=hTz.keep hb5;have g5:=gy.trans (hb5.mono gy.size);clear t0 t1 t2;obtain ⟨p0,p1,p2⟩:=hP5.three;have tok5:=trivial))
    refine aT ?_;intro wv hwv;have hJv:=(show Blk wv w.heap.size _ by rw [hwv];exact hJ7);have hZv:=(show Blk wv (w.heap.size+1) _ by rw [hwv];exact hZ7);have hPv:=(show Blk wv (w.heap.size+1+1) _ by rw [hwv];exact hP7);have gv:Bw w wv:=by rw [hwv];exact g7
    clear hwv j0 j1 j2 j3 j4;have u0:=aF (hJv.at_ (i:=0) rfl);have u1:=aF (hJv.at_ (i:=1) rfl);have u2:=aF (hJv.at_ (i:=2) rfl);have u3:=aF (hJv.at_ (i:=3) rfl);have u4:=aF (hJv.at_ (i:=4) rfl);refine fE wv [3] [0] 4 3 (lT:=[_]) ?_;intro q0 bq0;refine cL (aD ?_);refine bG 1 ?_
    ·go_wp2_with (go_at_call 92;refine (bL 6 _ ⟨_,_,_,rfl⟩ _).mono ?_;rintro e q1 ⟨rfl,hbq1⟩)
     refine bJ bq0 hbq1 ?_;intro bq1 lq1;refine bG 2 ?_
     ·go_wp2_with (go_at_call 93;refine (kQ C m cc k n _ 4 c fc ev 3 (by omega) 6 0 [] none 0 ty _ h3c.out ((hT.below gv).below bq1) Rd.nil).mono ?_;rintro e q2 ⟨rfl,hbq2⟩)
      refine bJ bq1 hbq2 ?_;intro bq2 lq2;refine cY [3] (lB:=[_]) ?_;go_upto_region 16 with fail
      refine aT ?_;intro ws hws;have hJs:=(show Blk ws w.heap.size _ by rw [hws];exact hJv.keep bq2);have hZs:=(show Blk ws (w.heap.size+1) _ by rw [hws];exact hZv.keep bq2);have hPs:=(show Blk ws (w.heap.size+1+1) _ by rw [hws];exact hPv.keep bq2);have gs:Bw w ws:=by rw [hws];exact gv.trans ((bq2).mono gv.size)
      clear hws;have rps:=rp0.below gs;have ras:=ra0.below gs;obtain ⟨v0,v1,v2⟩:=kZ hPs;have u3:=aF (hJs.at_ (i:=3) rfl);have y0:=aF ((bR gs) _ _ z1);have y1:=aF ((bR gs) _ _ z2);have y2:=aF ((bR gs) _ _ z3);refine fE ws [9,10,11,12] [0,1,2,3,4,5] 13 7 (lT:=[_,_,_,_,_,_]) ?_;intro q0 bq0;refine cL (aD ?_);refine bG 6 ?_
      ·go_wp2_with fail
       refine eQ ?_;intro q1 hbq1 zq1 seq1;have rq1:Rd q1 (some ⟨q0.heap.size,0,none⟩) 0 [.mk kp np sp,.mk ka na sa]:=fF (s0:=sp) (s1:=sa) zq1 hlp hla ((rps.below bq0).below hbq1) ((ras.below bq0).below hbq1);refine bJ bq0 hbq1 ?_;intro bq1 lq1;refine bG 7 ?_
       ·go_wp2_with (go_at_call 92;refine (bL 5 _ ⟨_,_,_,rfl⟩ _).mono ?_;rintro e q2 ⟨rfl,hbq2⟩)
        have Pq2:=rq1.below hbq2;refine bJ bq1 hbq2 ?_;intro bq2 lq2;refine bG 8 ?_
        ·go_wp2_with (go_at_call 89;refine (cJ 5 0 [.mk kp np sp,.mk ka na sa] _ 2 _ hvr.out Pq2).mono ?_;rintro e q3 ⟨rfl,hbq3⟩)
         have Pq3:=Pq2.below hbq3;refine bJ bq2 hbq3 ?_;intro bq3 lq3;refine jW [9,10] 2 (lT:=[_,_]) ?_;refine cL (aD ?_);refine cY [11,12] (lB:=[_,_]) ?_;have hZ2:=hZs.keep bq3;obtain ⟨d0,d1,d2,e0,e1,e2⟩:=cA hZ2;have gf:=gs.trans (bq3.mono gs.size);have rP:=Pq3;go_wp2_with fail
         refine bodyPost_ret (v:=.tuple #[.agg (Ro 5 0 (some ⟨q0.heap.size,0,none⟩) 2 2),.int .i64 0]) (by simp [results,results100,go_sem,d0,d1,d2]) rfl ⟨some ⟨q0.heap.size,0,none⟩,2,rfl,by simp,bT hZ2 hvr.out rP _ _ _,?_⟩;exact ((gf.setCell (by simp) _).setCell (by simp) _).setCell (by simp) _
end Go.Proofs.YtddkehjdjfmhmaaGreat
