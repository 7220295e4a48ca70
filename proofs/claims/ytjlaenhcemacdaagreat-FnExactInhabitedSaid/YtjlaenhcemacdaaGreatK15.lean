/- Parts of the proof. No condition. -/
import Derived.Test.YtjlaenhcemacdaaGreatK13
open Go.Proofs.Tryz
namespace Go.Proofs.YtjlaenhcemacdaaGreat
open Go.RowKit
set_option maxHeartbeats 8000000
set_option maxRecDepth 100000
set_option linter.unusedSimpArgs false
set_option linter.unusedVariables false
section
variable {p:Nat->Prop}{w:Bb}{g:Nat}{k0 n0 k1 n1:Int}{s0 s1:List Tm}{A0 A1:Ba}{c0 c1:Nat}
theorem xY (hB:Blk w g (Ro k0 n0 A0 s0.length c0))(hp:p g)(l0:s0.length<=9223372036854775807)(r0:RdP p w A0 0 s0):RdP p w (some ⟨g,0,none⟩) 0 [.mk k0 n0 s0]:=
 RdP.cons_iff.2 ⟨⟨g,0,rfl,RdPC.iff.2 ⟨hp,hB.at_ (i:=0) rfl,hB.at_ (i:=1) rfl,A0,c0,hB.at_ (i:=2) rfl,l0,r0⟩⟩,RdP.nil⟩
theorem fM (hB:Blk w g #[.int .i64 k0,.int .i64 n0,.slice A0 s0.length c0,.int .i64 k1,.int .i64 n1,.slice A1 s1.length c1])(hp:p g)(l0:s0.length<=9223372036854775807)(l1:s1.length<=9223372036854775807)(r0:RdP p w A0 0 s0)(r1:RdP p w A1 0 s1):RdP p w (some ⟨g,0,none⟩) 0 [.mk k0 n0 s0,.mk k1 n1 s1]:=
 RdP.cons_iff.2 ⟨⟨g,0,rfl,RdPC.iff.2 ⟨hp,hB.at_ (i:=0) rfl,hB.at_ (i:=1) rfl,A0,c0,hB.at_ (i:=2) rfl,l0,r0⟩⟩,
  RdP.cons_iff.2 ⟨⟨g,0,rfl,RdPC.iff.2 ⟨hp,hB.at_ (i:=3) rfl,hB.at_ (i:=4) rfl,A1,c1,hB.at_ (i:=5) rfl,l1,r1⟩⟩,RdP.nil⟩⟩
end
def aWo (w:Bb)(k n:Int)(ks:List Tm)(e:Ending)(w':Bb):Prop:=
 ∃A c,e = .returned (.tuple #[.agg (Ro k n A ks.length c),.int .i64 0])/\ks.length<=9223372036854775807/\RdP (λb=>w.heap.size<=b) w' A 0 ks/\Bw w w'
theorem rH (k0 n0:Int)(s0:List Tm)(A0:Ba)(c0:Nat)(k1 n1:Int)(s1:List Tm)(k2 n2:Int)(s2:List Tm)(w:Bb)(hv0:aE (.mk k0 n0 s0)=true)(hs1:bJ 1 0 (.mk k0 n0 s0)=some (.mk k1 n1 s1))(hs2:bJ 2 0 (.mk k0 n0 s0)=some (.mk k2 n2 s2))(hv:aE (.mk 3 0 [.mk 6 0 [],.mk 3 0 [.mk 5 0 [.mk k1 n1 s1,.mk 1 0 []],.mk 5 0 [.mk k2 n2 s2,.mk 8 0 [.mk 1 1 []]]]])=true)(hr:Rd w A0 0 s0) :
  Calls prog 157 #[.agg (Ro k0 n0 A0 s0.length c0)] w (aWo w 3 0 [.mk 6 0 [],.mk 3 0 [.mk 5 0 [.mk k1 n1 s1,.mk 1 0 []],.mk 5 0 [.mk k2 n2 s2,.mk 8 0 [.mk 1 1 []]]]]):=by
 have hz:=aH hv0;have hsh:=aD (bC hv0);have hS1:=aD (λ(w:Bb) (hr:Rd w A0 0 s0)=>by have:=fU k0 n0 s0 A0 c0 1 0 w Ac Ac Ac hsh.out hr;rw [hs1] at this;exact this);have hS2:=aD (λ(w:Bb) (hr:Rd w A0 0 s0)=>by have:=fU k0 n0 s0 A0 c0 2 0 w Ac Ac Ac hsh.out hr;rw [hs2] at this;exact this);have hv':=aD hv;clear hv hv0 hs1 hs2;go_enter func157,ntmps157;go_upto_region 3 with (first
  | (go_at_call 50;have _t:=tok1;refine (hS2.out _ ((hr.below g1).alloc _)).mono ?_;intro e w2 hgo;obtain ⟨A2,c2,rfl,hl2,hf2,hb2⟩:=cS hgo;clear hgo;have hZ2:=(hZ1.alloc (.cells (Ro k1 n1 A1 s1.length c1) 32)).keep hb2;have hP2:=(aC w1 32 (Ro k1 n1 A1 s1.length c1) rfl).keep hb2;have g2:=(g1.alloc g1.size (.cells (Ro k1 n1 A1 s1.length c1) 32)).trans (hb2.mono (by have:=g1.size;simp;omega));have r12:=(r11.alloc (.cells (Ro k1 n1 A1 s1.length c1) 32)).below hb2;have r22:=hf2.rd'.mono (q:=λb=>w.heap.size+2<=b) (λb hb=>Nat.le_trans (by have:=g1.size;have:=hb1.size;simp at this;simp;omega) hb))
  | (go_at_call 50;refine (hS1.out _ ((hr.alloc _).alloc _)).mono ?_;intro e w1 hgo;obtain ⟨A1,c1,rfl,hl1,hf1,hb1⟩:=cS hgo;clear hgo;have hZ1:Blk w1 (w.heap.size+1) Zr:=(aC _ 32 _ Ag).keep hb1;have hX1:=((aC w 32 (Ro k0 n0 A0 s0.length c0) rfl).alloc (.cells Zr 32)).keep hb1;have g1:Bw w w1:=bN bw2 hb1;have r11:=hf1.rd'.mono (q:=λb=>w.heap.size+2<=b) (λb hb=>by simp at hb;omega);obtain ⟨x0,x1,x2⟩:=hX1.three;have lx:=hX1.lt;have tok1:=trivial))
 refine aU ?_;intro wx hwx;have hT4:Blk wx w1.heap.size (Ro k1 n1 A1 s1.length c1):=by rw [hwx];exact hP2.alloc _
 have hT6:Blk wx w2.heap.size (Ro k2 n2 A2 s2.length c2):=by rw [hwx];exact aC _ 32 _ rfl
 have hZx:=(show Blk wx (w.heap.size+1) _ by rw [hwx];exact hZ2.alloc _);have gx:Bw w wx:=by rw [hwx];exact g2.alloc g2.size _
 have lzx:=hZx.lt;have r1:RdP (λb=>w.heap.size+2<=b) wx A1 0 s1:=by rw [hwx];exact r12.alloc _
 have r2:RdP (λb=>w.heap.size+2<=b) wx A2 0 s2:=by rw [hwx];exact r22.alloc _
 clear hwx;obtain ⟨v0,v1,v2⟩:=fW hT4;obtain ⟨y0,y1,y2⟩:=fW hT6;refine eK wx [16,17,18,20,21,22,23] [1,5,15] 24 21 (lT:=[_,_,_]) ?_;intro q0 bq0;refine bU (aD ?_);refine aZ 0 ?_
 ·go_wp2_with (go_at_call 71;refine (aQ 6 _ ⟨_,_,_,rfl⟩ _).mono ?_;rintro e q1 ⟨rfl,hbq1⟩);refine aV bq0 hbq1 ?_;intro bq1 lq1;refine aZ 2 ?_
  ·go_wp2_with (go_at_call 60;refine (cU 0 _).mono ?_;rintro e q2 ⟨rfl,hbq2⟩);refine aV bq1 hbq2 ?_;intro bq2 lq2;refine aZ 3 ?_
   ·go_wp2_with fail;refine cF ?_;intro q3 hn;have hbq3:Bw q2 q3:=by rw [hn];exact bw1
    have zq3:Blk q3 q2.heap.size #[.int .i64 k1,.int .i64 n1,.slice A1 s1.length c1,.int .i64 1,.int .i64 0,.slice none 0 0]:=by rw [hn];exact aC _ 32 _ rfl
    have seq3:q2.heap.size<q3.heap.size:=by rw [hn];simp
    clear hn;have hpq3:w.heap.size+2<=q2.heap.size:=by have:=bq2.size;omega
    have rq3:RdP (λb=>w.heap.size+2<=b) q3 (some ⟨q2.heap.size,0,none⟩) 0 [.mk k1 n1 s1,.mk 1 0 []]:=fM (s0:=s1) (s1:=[]) zq3 hpq3 hl1 Ag ((r1.below bq2).below hbq3) RdP.nil;refine aV bq2 hbq3 ?_;intro bq3 lq3;refine aZ 4 ?_
    ·go_wp2_with (go_at_call 71;refine (aQ 5 _ ⟨_,_,_,rfl⟩ _).mono ?_;rintro e q4 ⟨rfl,hbq4⟩);have B1q4:=rq3.below hbq4;refine aV bq3 hbq4 ?_;intro bq4 lq4;refine aZ 6 ?_
     ·go_wp2_with (go_at_call 60;refine (cU 1 _).mono ?_;rintro e q5 ⟨rfl,hbq5⟩);have B1q5:=B1q4.below hbq5;refine aV bq4 hbq5 ?_;intro bq5 lq5;refine aZ 7 ?_
      ·go_wp2_with fail;refine cF ?_;intro q6 hn;have hbq6:Bw q5 q6:=by rw [hn];exact bw1
       have zq6:Blk q6 q5.heap.size (Ro 1 1 none 0 0):=by rw [hn];exact aC _ 32 _ rfl
       have seq6:q5.heap.size<q6.heap.size:=by rw [hn];simp
       clear hn;have hpq6:w.heap.size+2<=q5.heap.size:=by have:=bq5.size;omega
       have rq6:RdP (λb=>w.heap.size+2<=b) q6 (some ⟨q5.heap.size,0,none⟩) 0 [.mk 1 1 []]:=xY (s0:=[]) zq6 hpq6 Ag RdP.nil;have B1q6:=B1q5.below hbq6;refine aV bq5 hbq6 ?_;intro bq6 lq6;refine aZ 8 ?_
       ·go_wp2_with (go_at_call 71;refine (aQ 8 _ ⟨_,_,_,rfl⟩ _).mono ?_;rintro e q7 ⟨rfl,hbq7⟩);have B1q7:=B1q6.below hbq7;have V1q7:=rq6.below hbq7;refine aV bq6 hbq7 ?_;intro bq7 lq7;refine aZ 9 ?_
        ·go_wp2_with fail;refine cF ?_;intro q8 hn;have hbq8:Bw q7 q8:=by rw [hn];exact bw1
         have zq8:Blk q8 q7.heap.size #[.int .i64 k2,.int .i64 n2,.slice A2 s2.length c2,.int .i64 8,.int .i64 0,.slice (some ⟨q5.heap.size,0,none⟩) 1 1]:=by rw [hn];exact aC _ 32 _ rfl
         have seq8:q7.heap.size<q8.heap.size:=by rw [hn];simp
         clear hn;have hpq8:w.heap.size+2<=q7.heap.size:=by have:=bq7.size;omega
         have rq8:RdP (λb=>w.heap.size+2<=b) q8 (some ⟨q7.heap.size,0,none⟩) 0 [.mk k2 n2 s2,.mk 8 0 [.mk 1 1 []]]:=fM (s0:=s2) (s1:=[.mk 1 1 []]) zq8 hpq8 hl2 Ag ((r2.below bq7).below hbq8) (V1q7.below hbq8);have B1q8:=B1q7.below hbq8;have V1q8:=V1q7.below hbq8;refine aV bq7 hbq8 ?_;intro bq8 lq8;refine aZ 10 ?_
         ·go_wp2_with (go_at_call 71;refine (aQ 5 _ ⟨_,_,_,rfl⟩ _).mono ?_;rintro e q9 ⟨rfl,hbq9⟩);have B1q9:=B1q8.below hbq9;have V1q9:=V1q8.below hbq9;have B2q9:=rq8.below hbq9;refine aV bq8 hbq9 ?_;intro bq9 lq9;refine aZ 11 ?_
          ·go_wp2_with fail;refine cF ?_;intro q10 hn;have hbq10:Bw q9 q10:=by rw [hn];exact bw1
           have zq10:Blk q10 q9.heap.size #[.int .i64 5,.int .i64 0,.slice (some ⟨q2.heap.size,0,none⟩) 2 2,.int .i64 5,.int .i64 0,.slice (some ⟨q7.heap.size,0,none⟩) 2 2]:=by rw [hn];exact aC _ 32 _ rfl
           have seq10:q9.heap.size<q10.heap.size:=by rw [hn];simp
           clear hn;have hpq10:w.heap.size+2<=q9.heap.size:=by have:=bq9.size;omega
           have rq10:RdP (λb=>w.heap.size+2<=b) q10 (some ⟨q9.heap.size,0,none⟩) 0 [.mk 5 0 [.mk k1 n1 s1,.mk 1 0 []],.mk 5 0 [.mk k2 n2 s2,.mk 8 0 [.mk 1 1 []]]]:=fM (s0:=[.mk k1 n1 s1,.mk 1 0 []]) (s1:=[.mk k2 n2 s2,.mk 8 0 [.mk 1 1 []]]) zq10 hpq10 Ag Ag (B1q9.below hbq10) (B2q9.below hbq10);have B1q10:=B1q9.below hbq10;have V1q10:=V1q9.below hbq10;have B2q10:=B2q9.below hbq10;refine aV bq9 hbq10 ?_;intro bq10 lq10;refine aZ 12 ?_
           ·go_wp2_with (go_at_call 71;refine (aQ 3 _ ⟨_,_,_,rfl⟩ _).mono ?_;rintro e q11 ⟨rfl,hbq11⟩);have B1q11:=B1q10.below hbq11;have V1q11:=V1q10.below hbq11;have B2q11:=B2q10.below hbq11;have P2q11:=rq10.below hbq11;refine aV bq10 hbq11 ?_;intro bq11 lq11;refine aZ 13 ?_
            ·go_wp2_with fail;refine cF ?_;intro q12 hn;have hbq12:Bw q11 q12:=by rw [hn];exact bw1
             have zq12:Blk q12 q11.heap.size #[.int .i64 6,.int .i64 0,.slice none 0 0,.int .i64 3,.int .i64 0,.slice (some ⟨q9.heap.size,0,none⟩) 2 2]:=by rw [hn];exact aC _ 32 _ rfl
             have seq12:q11.heap.size<q12.heap.size:=by rw [hn];simp
             clear hn;have hpq12:w.heap.size+2<=q11.heap.size:=by have:=bq11.size;omega
             have rq12:RdP (λb=>w.heap.size+2<=b) q12 (some ⟨q11.heap.size,0,none⟩) 0 [.mk 6 0 [],.mk 3 0 [.mk 5 0 [.mk k1 n1 s1,.mk 1 0 []],.mk 5 0 [.mk k2 n2 s2,.mk 8 0 [.mk 1 1 []]]]]:=fM (s0:=[]) (s1:=[.mk 5 0 [.mk k1 n1 s1,.mk 1 0 []],.mk 5 0 [.mk k2 n2 s2,.mk 8 0 [.mk 1 1 []]]]) zq12 hpq12 Ag Ag RdP.nil (P2q11.below hbq12);have B1q12:=B1q11.below hbq12;have V1q12:=V1q11.below hbq12;have B2q12:=B2q11.below hbq12;have P2q12:=P2q11.below hbq12;refine aV bq11 hbq12 ?_;intro bq12 lq12;refine aZ 14 ?_
             ·go_wp2_with (go_at_call 71;refine (aQ 3 _ ⟨_,_,_,rfl⟩ _).mono ?_;rintro e q13 ⟨rfl,hbq13⟩);have B1q13:=B1q12.below hbq13;have V1q13:=V1q12.below hbq13;have B2q13:=B2q12.below hbq13;have P2q13:=P2q12.below hbq13;have P1q13:=rq12.below hbq13;refine aV bq12 hbq13 ?_;intro bq13 lq13;refine fB [16,17,18] 5 (lT:=[_,_,_]) ?_;refine bU (aD ?_);refine aZ 19 ?_
              ·go_wp2_with (go_at_call 99;refine (cP 3 0 [.mk 6 0 [],.mk 3 0 [.mk 5 0 [.mk k1 n1 s1,.mk 1 0 []],.mk 5 0 [.mk k2 n2 s2,.mk 8 0 [.mk 1 1 []]]]] _ 2 _ hv'.out P1q13.rd).mono ?_;rintro e q14 ⟨rfl,hbq14⟩);have B1q14:=B1q13.below hbq14;have V1q14:=V1q13.below hbq14;have B2q14:=B2q13.below hbq14;have P2q14:=P2q13.below hbq14;have P1q14:=P1q13.below hbq14;refine aV bq13 hbq14 ?_;intro bq14 lq14;refine fB [20,21] 2 (lT:=[_,_]) ?_;refine bU (aD ?_);refine cK [22,23] (lB:=[_,_]) ?_;have hZ2:=hZx.keep bq14;obtain ⟨d0,d1,d2,e0,e1,e2⟩:=bZ hZ2;have gf:=gx.trans (bq14.mono gx.size);have rP:=P1q14;go_wp2_with fail;refine bodyPost_ret (v:=.tuple #[.agg (Ro 3 0 (some ⟨q11.heap.size,0,none⟩) 2 2),.int .i64 0]) (by simp [results,results157,go_sem,d0,d1,d2]) rfl ⟨some ⟨q11.heap.size,0,none⟩,2,rfl,by simp,?_,?_⟩
               ·exact (((rP.setCell Ag _).setCell Ag _).setCell Ag _).mono (λb hb=>by omega)
               ·exact ((gf.setCell Ag _).setCell Ag _).setCell Ag _
end Go.Proofs.YtjlaenhcemacdaaGreat
