/- Parts of the proof. No condition. -/
import Derived.Test.YtjlaenhcemacdaaGreatK18
import Derived.Test.YtjlaenhcemacdaaGreatK22
open Go.Proofs.Tryz
namespace Go.Proofs.YtjlaenhcemacdaaGreat
open Go.RowKit
set_option maxHeartbeats 16000000
set_option maxRecDepth 100000
set_option linter.unusedSimpArgs false
set_option linter.unusedVariables false
theorem aEf (k1 n1:Int)(A1:Option Addr)(l1 c1:Nat)(w:World):Calls prog 99 #[.agg (Ro k1 n1 A1 l1 c1),.bool false] w fun e w'=>e = .returned (.tuple #[.agg Zr,.int .i64 2])∧Bw w w':=by
 go_enter func99,ntmps99;go_wp2_with fail
 refine bodyPost_ret (v:=.tuple #[.agg Zr,.int .i64 2]) (by simp [results,results99,go_sem]) rfl ⟨rfl,?_⟩;exact bw2
def wM (o:Option Tm):Tm:=o.getD (.mk 0 0 [])
theorem aHv {w:World}{o:Option Tm}{e:Ending}{w':World}(h:oM w o e w'):∃A c,e = .returned (.tuple #[.agg (Ro (wM o).k (wM o).n A (wM o).ks.length c),.bool o.isSome])∧(wM o).ks.length≤9223372036854775807∧RdP (fun b=>w.heap.size≤b) w' A 0 (wM o).ks∧Bw w w':=by
 match o,h with
 | none,h=>obtain ⟨rfl,hb⟩:=eH h;exact ⟨none,0,rfl,by simp [wM,Tm.ks],RdP.nil,hb⟩
 | some (.mk k n ks),h=>obtain ⟨A,c,rfl,hl,hf,hb⟩:=cS h;exact ⟨A,c,rfl,hl,hf.rd',hb⟩
theorem vU {w:World}{o:Option Tm}{b:Bool}{k n:Int}{s:List Tm}{e:Ending}{w':World}(hb:o.isSome=b)(ht:wM o = .mk k n s)(h:oM w o e w'):∃A c,e = .returned (.tuple #[.agg (Ro k n A s.length c),.bool b])∧s.length≤9223372036854775807∧RdP (fun b=>w.heap.size≤b) w' A 0 s∧Bw w w':=by
 have:=aHv h;rw [ht,hb] at this;exact this
theorem jI {x y:Int}{t v:Tm}(h:bD x y t=some v):aE v=true:=by
 unfold bD at h
 split at h
 ·split at h
  ·rw [← Option.some.inj h];assumption
  ·cases h
 ·cases h
theorem aGy {p:Tm}(hp:aE p=true)(h:aE (mH p)=false):∃b1 b2 k1 n1 s1 k2 n2 s2,(bD 1 0 p).isSome=b1∧wM (bD 1 0 p) = .mk k1 n1 s1∧(bD 2 0 p).isSome=b2∧wM (bD 2 0 p) = .mk k2 n2 s2∧((b1 && b2)=false∨(aE (.mk 3 0 [.mk 6 0 [],.mk 3 0 [.mk 5 0 [.mk k1 n1 s1,.mk 1 0 []],.mk 5 0 [.mk k2 n2 s2,.mk 8 0 [.mk 1 1 []]]]])=false∧aG [.mk 6 0 [],.mk 3 0 [.mk 5 0 [.mk k1 n1 s1,.mk 1 0 []],.mk 5 0 [.mk k2 n2 s2,.mk 8 0 [.mk 1 1 []]]]]≤1000000)):=by
 obtain ⟨k1,n1,s1,h1⟩:∃a b c,wM (bD 1 0 p) = .mk a b c:=⟨_,_,_,(by cases wM (bD 1 0 p);rfl:wM (bD 1 0 p) = .mk (wM (bD 1 0 p)).k (wM (bD 1 0 p)).n (wM (bD 1 0 p)).ks)⟩;obtain ⟨k2,n2,s2,h2⟩:∃a b c,wM (bD 2 0 p) = .mk a b c:=⟨_,_,_,(by cases wM (bD 2 0 p);rfl:wM (bD 2 0 p) = .mk (wM (bD 2 0 p)).k (wM (bD 2 0 p)).n (wM (bD 2 0 p)).ks)⟩;refine ⟨_,_,k1,n1,s1,k2,n2,s2,rfl,h1,rfl,h2,?_⟩;by_cases hb:((bD 1 0 p).isSome && (bD 2 0 p).isSome)=false
 ·exact .inl hb
 ·replace hb:=(Bool.not_eq_false _).mp hb;rw [Bool.and_eq_true] at hb;have e1:=fS (aZ hp) hb.1;have e2:=fS (aZ hp) hb.2;obtain ⟨v1,g1⟩:=Option.isSome_iff_exists.1 hb.1;obtain ⟨v2,g2⟩:=Option.isSome_iff_exists.1 hb.2;have z1:=jI g1;have z2:=jI g2;unfold wM at h1 h2
  rw [e1] at h1;rw [e2] at h2;rw [g1] at e1;rw [g2] at e2;have e1:v1=_:=e1;have e2:v2=_:=e2;rw [e1,h1] at z1;rw [e2,h2] at z2;refine .inr ⟨?_,?_⟩
  ·unfold mH at h
   rw [h1,h2] at h;exact h
  ·have a1:=aH z1;have a2:=aH z2;simp only [aG,Tm.size];omega
theorem xF (k0 n0:Int)(s0:List Tm)(A0:Option Addr)(c0:Nat)(w:World)(hv0:aE (.mk k0 n0 s0)=true)(hv:aE (mH (.mk k0 n0 s0))=false)(hr:Rd w A0 0 s0) :
  Calls prog 157 #[.agg (Ro k0 n0 A0 s0.length c0)] w fun e w'=>e = .returned (.tuple #[.agg Zr,.int .i64 2])∧Bw w w':=by
 have hz:=aH hv0;have hsh:=aD (aZ hv0);obtain ⟨b1,b2,k1,n1,s1,k2,n2,s2,hb1,ht1,hb2,ht2,hN⟩:=aGy hv0 hv;have hS1:=aD (fun (w:World) (hr:Rd w A0 0 s0)=>(fK k0 n0 s0 A0 c0 1 0 w (by omega) (by omega) (by omega) hsh.out hr).mono fun e w' h=>vU hb1 ht1 h);have hS2:=aD (fun (w:World) (hr:Rd w A0 0 s0)=>(fK k0 n0 s0 A0 c0 2 0 w (by omega) (by omega) (by omega) hsh.out hr).mono fun e w' h=>vU hb2 ht2 h);replace hN:=aD hN;clear hv hv0 hb1 ht1 hb2 ht2;by_cases hb:(b1 && b2)=true
 ·rw [Bool.and_eq_true] at hb;obtain ⟨rfl,rfl⟩:=hb;replace hN:=aD (hN.out.resolve_left (by decide));go_enter func157,ntmps157;go_upto_region 3 with (first
   | (go_at_call 50;have _t:=tok1;refine (hS2.out _ ((hr.below g1).alloc _)).mono ?_;rintro e w2 ⟨A2,c2,rfl,hl2,hf2,hb2⟩;have hZ2:=(hZ1.alloc (.cells (Ro k1 n1 A1 s1.length c1) 32)).keep hb2;have hP2:=(aC w1 32 (Ro k1 n1 A1 s1.length c1) rfl).keep hb2;have g2:=(g1.alloc g1.size (.cells (Ro k1 n1 A1 s1.length c1) 32)).trans (hb2.mono (by have:=g1.size;simp;omega));have r12:=(r11.alloc (.cells (Ro k1 n1 A1 s1.length c1) 32)).below hb2;have r22:=hf2.mono (q:=fun b=>w.heap.size+2≤b) (fun b hb=>Nat.le_trans (by have:=g1.size;have:=hb1.size;simp at this;simp;omega) hb))
   | (go_at_call 50;refine (hS1.out _ ((hr.alloc _).alloc _)).mono ?_;rintro e w1 ⟨A1,c1,rfl,hl1,hf1,hb1⟩;have hZ1:=iU hb1;have hX1:=((aC w 32 (Ro k0 n0 A0 s0.length c0) rfl).alloc (.cells Zr 32)).keep hb1;have g1:Bw w w1:=bU bw2 hb1;have r11:=hf1.mono (q:=fun b=>w.heap.size+2≤b) (fun b hb=>by simp at hb;omega);obtain ⟨x0,x1,x2⟩:=hX1.three;have lx:=hX1.lt;have tok1:=trivial))
  refine aW ?_;intro wx hwx;have hT4:Blk wx w1.heap.size (Ro k1 n1 A1 s1.length c1):=by rw [hwx];exact hP2.alloc _
  have hT6:Blk wx w2.heap.size (Ro k2 n2 A2 s2.length c2):=by rw [hwx];exact aC _ 32 _ rfl
  have hZx:=(show Blk wx (w.heap.size+1) _ by rw [hwx];exact hZ2.alloc _);have gx:Bw w wx:=by rw [hwx];exact g2.alloc g2.size _
  have lzx:=hZx.lt;have r1:RdP (fun b=>w.heap.size+2≤b) wx A1 0 s1:=by rw [hwx];exact r12.alloc _
  have r2:RdP (fun b=>w.heap.size+2≤b) wx A2 0 s2:=by rw [hwx];exact r22.alloc _
  clear hwx;obtain ⟨v0,v1,v2⟩:=jR hT4;obtain ⟨y0,y1,y2⟩:=jR hT6;refine eT wx [16,17,18,20,21,22,23] [1,5,15] 24 21 (lT:=[_,_,_]) ?_;intro q0 bq0;refine bZ (aD ?_);refine bB 0 ?_
  ·go_wp2_with (go_at_call 71;refine (aP 6 _ ⟨_,_,_,rfl⟩ _).mono ?_;rintro e q1 ⟨rfl,hbq1⟩)
   refine aX bq0 hbq1 ?_;intro bq1 lq1;refine bB 2 ?_
   ·go_wp2_with (go_at_call 60;refine (cT 0 _).mono ?_;rintro e q2 ⟨rfl,hbq2⟩)
    refine aX bq1 hbq2 ?_;intro bq2 lq2;refine bB 3 ?_
    ·go_wp2_with fail
     refine iD ?_;intro q3 hbq3 zq3 seq3;have hpq3:w.heap.size+2≤q2.heap.size:=by have:=bq2.size;omega
     have rq3:RdP (fun b=>w.heap.size+2≤b) q3 (some ⟨q2.heap.size,0,none⟩) 0 [.mk k1 n1 s1,.mk 1 0 []]:=fF (s0:=s1) (s1:=[]) zq3 hpq3 hl1 (by simp) ((r1.below bq2).below hbq3) RdP.nil;refine aX bq2 hbq3 ?_;intro bq3 lq3;refine bB 4 ?_
     ·go_wp2_with (go_at_call 71;refine (aP 5 _ ⟨_,_,_,rfl⟩ _).mono ?_;rintro e q4 ⟨rfl,hbq4⟩)
      have B1q4:=rq3.below hbq4;refine aX bq3 hbq4 ?_;intro bq4 lq4;refine bB 6 ?_
      ·go_wp2_with (go_at_call 60;refine (cT 1 _).mono ?_;rintro e q5 ⟨rfl,hbq5⟩)
       have B1q5:=B1q4.below hbq5;refine aX bq4 hbq5 ?_;intro bq5 lq5;refine bB 7 ?_
       ·go_wp2_with fail
        refine iD ?_;intro q6 hbq6 zq6 seq6;have hpq6:w.heap.size+2≤q5.heap.size:=by have:=bq5.size;omega
        have rq6:RdP (fun b=>w.heap.size+2≤b) q6 (some ⟨q5.heap.size,0,none⟩) 0 [.mk 1 1 []]:=uS (s0:=[]) zq6 hpq6 (by simp) RdP.nil;have B1q6:=B1q5.below hbq6;refine aX bq5 hbq6 ?_;intro bq6 lq6;refine bB 8 ?_
        ·go_wp2_with (go_at_call 71;refine (aP 8 _ ⟨_,_,_,rfl⟩ _).mono ?_;rintro e q7 ⟨rfl,hbq7⟩)
         have B1q7:=B1q6.below hbq7;have V1q7:=rq6.below hbq7;refine aX bq6 hbq7 ?_;intro bq7 lq7;refine bB 9 ?_
         ·go_wp2_with fail
          refine iD ?_;intro q8 hbq8 zq8 seq8;have hpq8:w.heap.size+2≤q7.heap.size:=by have:=bq7.size;omega
          have rq8:RdP (fun b=>w.heap.size+2≤b) q8 (some ⟨q7.heap.size,0,none⟩) 0 [.mk k2 n2 s2,.mk 8 0 [.mk 1 1 []]]:=fF (s0:=s2) (s1:=[.mk 1 1 []]) zq8 hpq8 hl2 (by simp) ((r2.below bq7).below hbq8) (V1q7.below hbq8);have B1q8:=B1q7.below hbq8;have V1q8:=V1q7.below hbq8;refine aX bq7 hbq8 ?_;intro bq8 lq8;refine bB 10 ?_
          ·go_wp2_with (go_at_call 71;refine (aP 5 _ ⟨_,_,_,rfl⟩ _).mono ?_;rintro e q9 ⟨rfl,hbq9⟩)
           have B1q9:=B1q8.below hbq9;have V1q9:=V1q8.below hbq9;have B2q9:=rq8.below hbq9;refine aX bq8 hbq9 ?_;intro bq9 lq9;refine bB 11 ?_
           ·go_wp2_with fail
            refine iD ?_;intro q10 hbq10 zq10 seq10;have hpq10:w.heap.size+2≤q9.heap.size:=by have:=bq9.size;omega
            have rq10:RdP (fun b=>w.heap.size+2≤b) q10 (some ⟨q9.heap.size,0,none⟩) 0 [.mk 5 0 [.mk k1 n1 s1,.mk 1 0 []],.mk 5 0 [.mk k2 n2 s2,.mk 8 0 [.mk 1 1 []]]]:=fF (s0:=[.mk k1 n1 s1,.mk 1 0 []]) (s1:=[.mk k2 n2 s2,.mk 8 0 [.mk 1 1 []]]) zq10 hpq10 (by simp) (by simp) (B1q9.below hbq10) (B2q9.below hbq10);have B1q10:=B1q9.below hbq10;have V1q10:=V1q9.below hbq10;have B2q10:=B2q9.below hbq10;refine aX bq9 hbq10 ?_;intro bq10 lq10;refine bB 12 ?_
            ·go_wp2_with (go_at_call 71;refine (aP 3 _ ⟨_,_,_,rfl⟩ _).mono ?_;rintro e q11 ⟨rfl,hbq11⟩)
             have B1q11:=B1q10.below hbq11;have V1q11:=V1q10.below hbq11;have B2q11:=B2q10.below hbq11;have P2q11:=rq10.below hbq11;refine aX bq10 hbq11 ?_;intro bq11 lq11;refine bB 13 ?_
             ·go_wp2_with fail
              refine iD ?_;intro q12 hbq12 zq12 seq12;have hpq12:w.heap.size+2≤q11.heap.size:=by have:=bq11.size;omega
              have rq12:RdP (fun b=>w.heap.size+2≤b) q12 (some ⟨q11.heap.size,0,none⟩) 0 [.mk 6 0 [],.mk 3 0 [.mk 5 0 [.mk k1 n1 s1,.mk 1 0 []],.mk 5 0 [.mk k2 n2 s2,.mk 8 0 [.mk 1 1 []]]]]:=fF (s0:=[]) (s1:=[.mk 5 0 [.mk k1 n1 s1,.mk 1 0 []],.mk 5 0 [.mk k2 n2 s2,.mk 8 0 [.mk 1 1 []]]]) zq12 hpq12 (by simp) (by simp) RdP.nil (P2q11.below hbq12);have B1q12:=B1q11.below hbq12;have V1q12:=V1q11.below hbq12;have B2q12:=B2q11.below hbq12;have P2q12:=P2q11.below hbq12;refine aX bq11 hbq12 ?_;intro bq12 lq12;refine bB 14 ?_
              ·go_wp2_with (go_at_call 71;refine (aP 3 _ ⟨_,_,_,rfl⟩ _).mono ?_;rintro e q13 ⟨rfl,hbq13⟩)
               have B1q13:=B1q12.below hbq13;have V1q13:=V1q12.below hbq13;have B2q13:=B2q12.below hbq13;have P2q13:=P2q12.below hbq13;have P1q13:=rq12.below hbq13;refine aX bq12 hbq13 ?_;intro bq13 lq13;refine fB [16,17,18] 5 (lT:=[_,_,_]) ?_;refine bZ (aD ?_);refine bB 19 ?_
               ·go_wp2_with (go_at_call 99;refine (dB 3 0 [.mk 6 0 [],.mk 3 0 [.mk 5 0 [.mk k1 n1 s1,.mk 1 0 []],.mk 5 0 [.mk k2 n2 s2,.mk 8 0 [.mk 1 1 []]]]] _ 2 _ hN.out.2 hN.out.1 P1q13.rd).mono ?_;rintro e q14 ⟨rfl,hbq14⟩)
                have B1q14:=B1q13.below hbq14;have V1q14:=V1q13.below hbq14;have B2q14:=B2q13.below hbq14;have P2q14:=P2q13.below hbq14;have P1q14:=P1q13.below hbq14;refine aX bq13 hbq14 ?_;intro bq14 lq14;refine fB [20,21] 2 (lT:=[_,_]) ?_;refine bZ (aD ?_);refine cP [22,23] (lB:=[_,_]) ?_;have hZ2:=hZx.keep bq14;obtain ⟨d0,d1,d2,e0,e1,e2⟩:=bW hZ2;have gf:=gx.trans (bq14.mono gx.size);have rP:=P1q14;go_wp2_with fail
                refine bodyPost_ret (v:=.tuple #[.agg Zr,.int .i64 2]) (by simp [results,results157,go_sem,d0,d1,d2]) rfl ⟨rfl,?_⟩;exact bP gf
 ·have hcc:(b1=false∧b2=false)∨(b1=false∧b2=true)∨(b1=true∧b2=false):=by cases b1<;>cases b2<;>simp at hb⊢
  clear hN hb;rcases hcc with ⟨rfl,rfl⟩|⟨rfl,rfl⟩|⟨rfl,rfl⟩
  all_goals
   go_enter func157,ntmps157;go_upto_region 3 with (first
    | (go_at_call 50;have _t:=tok1;refine (hS2.out _ ((hr.below g1).alloc _)).mono ?_;rintro e w2 ⟨A2,c2,rfl,hl2,hf2,hb2⟩;have hZ2:=(hZ1.alloc (.cells (Ro k1 n1 A1 s1.length c1) 32)).keep hb2;have hP2:=(aC w1 32 (Ro k1 n1 A1 s1.length c1) rfl).keep hb2;have g2:=(g1.alloc g1.size (.cells (Ro k1 n1 A1 s1.length c1) 32)).trans (hb2.mono (by have:=g1.size;simp;omega));have r12:=(r11.alloc (.cells (Ro k1 n1 A1 s1.length c1) 32)).below hb2;have r22:=hf2.mono (q:=fun b=>w.heap.size+2≤b) (fun b hb=>Nat.le_trans (by have:=g1.size;have:=hb1.size;simp at this;simp;omega) hb))
    | (go_at_call 50;refine (hS1.out _ ((hr.alloc _).alloc _)).mono ?_;rintro e w1 ⟨A1,c1,rfl,hl1,hf1,hb1⟩;have hZ1:=iU hb1;have hX1:=((aC w 32 (Ro k0 n0 A0 s0.length c0) rfl).alloc (.cells Zr 32)).keep hb1;have g1:Bw w w1:=bU bw2 hb1;have r11:=hf1.mono (q:=fun b=>w.heap.size+2≤b) (fun b hb=>by simp at hb;omega);obtain ⟨x0,x1,x2⟩:=hX1.three;have lx:=hX1.lt;have tok1:=trivial))
   refine aW ?_;intro wx hwx;have hT4:Blk wx w1.heap.size (Ro k1 n1 A1 s1.length c1):=by rw [hwx];exact hP2.alloc _
   have hT6:Blk wx w2.heap.size (Ro k2 n2 A2 s2.length c2):=by rw [hwx];exact aC _ 32 _ rfl
   have hZx:=(show Blk wx (w.heap.size+1) _ by rw [hwx];exact hZ2.alloc _);have gx:Bw w wx:=by rw [hwx];exact g2.alloc g2.size _
   have lzx:=hZx.lt;have r1:RdP (fun b=>w.heap.size+2≤b) wx A1 0 s1:=by rw [hwx];exact r12.alloc _
   have r2:RdP (fun b=>w.heap.size+2≤b) wx A2 0 s2:=by rw [hwx];exact r22.alloc _
   clear hwx;obtain ⟨v0,v1,v2⟩:=jR hT4;obtain ⟨y0,y1,y2⟩:=jR hT6;refine eT wx [16,17,18,20,21,22,23] [1,5,15] 24 21 (lT:=[_,_,_]) ?_;intro q0 bq0;refine bZ (aD ?_);refine bB 0 ?_
   ·go_wp2_with (go_at_call 71;refine (aP 6 _ ⟨_,_,_,rfl⟩ _).mono ?_;rintro e q1 ⟨rfl,hbq1⟩)
    refine aX bq0 hbq1 ?_;intro bq1 lq1;refine bB 2 ?_
    ·go_wp2_with (go_at_call 60;refine (cT 0 _).mono ?_;rintro e q2 ⟨rfl,hbq2⟩)
     refine aX bq1 hbq2 ?_;intro bq2 lq2;refine bB 3 ?_
     ·go_wp2_with fail
      refine iD ?_;intro q3 hbq3 zq3 seq3;have hpq3:w.heap.size+2≤q2.heap.size:=by have:=bq2.size;omega
      have rq3:RdP (fun b=>w.heap.size+2≤b) q3 (some ⟨q2.heap.size,0,none⟩) 0 [.mk k1 n1 s1,.mk 1 0 []]:=fF (s0:=s1) (s1:=[]) zq3 hpq3 hl1 (by simp) ((r1.below bq2).below hbq3) RdP.nil;refine aX bq2 hbq3 ?_;intro bq3 lq3;refine bB 4 ?_
      ·go_wp2_with (go_at_call 71;refine (aP 5 _ ⟨_,_,_,rfl⟩ _).mono ?_;rintro e q4 ⟨rfl,hbq4⟩)
       have B1q4:=rq3.below hbq4;refine aX bq3 hbq4 ?_;intro bq4 lq4;refine bB 6 ?_
       ·go_wp2_with (go_at_call 60;refine (cT 1 _).mono ?_;rintro e q5 ⟨rfl,hbq5⟩)
        have B1q5:=B1q4.below hbq5;refine aX bq4 hbq5 ?_;intro bq5 lq5;refine bB 7 ?_
        ·go_wp2_with fail
         refine iD ?_;intro q6 hbq6 zq6 seq6;have hpq6:w.heap.size+2≤q5.heap.size:=by have:=bq5.size;omega
         have rq6:RdP (fun b=>w.heap.size+2≤b) q6 (some ⟨q5.heap.size,0,none⟩) 0 [.mk 1 1 []]:=uS (s0:=[]) zq6 hpq6 (by simp) RdP.nil;have B1q6:=B1q5.below hbq6;refine aX bq5 hbq6 ?_;intro bq6 lq6;refine bB 8 ?_
         ·go_wp2_with (go_at_call 71;refine (aP 8 _ ⟨_,_,_,rfl⟩ _).mono ?_;rintro e q7 ⟨rfl,hbq7⟩)
          have B1q7:=B1q6.below hbq7;have V1q7:=rq6.below hbq7;refine aX bq6 hbq7 ?_;intro bq7 lq7;refine bB 9 ?_
          ·go_wp2_with fail
           refine iD ?_;intro q8 hbq8 zq8 seq8;have hpq8:w.heap.size+2≤q7.heap.size:=by have:=bq7.size;omega
           have rq8:RdP (fun b=>w.heap.size+2≤b) q8 (some ⟨q7.heap.size,0,none⟩) 0 [.mk k2 n2 s2,.mk 8 0 [.mk 1 1 []]]:=fF (s0:=s2) (s1:=[.mk 1 1 []]) zq8 hpq8 hl2 (by simp) ((r2.below bq7).below hbq8) (V1q7.below hbq8);have B1q8:=B1q7.below hbq8;have V1q8:=V1q7.below hbq8;refine aX bq7 hbq8 ?_;intro bq8 lq8;refine bB 10 ?_
           ·go_wp2_with (go_at_call 71;refine (aP 5 _ ⟨_,_,_,rfl⟩ _).mono ?_;rintro e q9 ⟨rfl,hbq9⟩)
            have B1q9:=B1q8.below hbq9;have V1q9:=V1q8.below hbq9;have B2q9:=rq8.below hbq9;refine aX bq8 hbq9 ?_;intro bq9 lq9;refine bB 11 ?_
            ·go_wp2_with fail
             refine iD ?_;intro q10 hbq10 zq10 seq10;have hpq10:w.heap.size+2≤q9.heap.size:=by have:=bq9.size;omega
             have rq10:RdP (fun b=>w.heap.size+2≤b) q10 (some ⟨q9.heap.size,0,none⟩) 0 [.mk 5 0 [.mk k1 n1 s1,.mk 1 0 []],.mk 5 0 [.mk k2 n2 s2,.mk 8 0 [.mk 1 1 []]]]:=fF (s0:=[.mk k1 n1 s1,.mk 1 0 []]) (s1:=[.mk k2 n2 s2,.mk 8 0 [.mk 1 1 []]]) zq10 hpq10 (by simp) (by simp) (B1q9.below hbq10) (B2q9.below hbq10);have B1q10:=B1q9.below hbq10;have V1q10:=V1q9.below hbq10;have B2q10:=B2q9.below hbq10;refine aX bq9 hbq10 ?_;intro bq10 lq10;refine bB 12 ?_
             ·go_wp2_with (go_at_call 71;refine (aP 3 _ ⟨_,_,_,rfl⟩ _).mono ?_;rintro e q11 ⟨rfl,hbq11⟩)
              have B1q11:=B1q10.below hbq11;have V1q11:=V1q10.below hbq11;have B2q11:=B2q10.below hbq11;have P2q11:=rq10.below hbq11;refine aX bq10 hbq11 ?_;intro bq11 lq11;refine bB 13 ?_
              ·go_wp2_with fail
               refine iD ?_;intro q12 hbq12 zq12 seq12;have hpq12:w.heap.size+2≤q11.heap.size:=by have:=bq11.size;omega
               have rq12:RdP (fun b=>w.heap.size+2≤b) q12 (some ⟨q11.heap.size,0,none⟩) 0 [.mk 6 0 [],.mk 3 0 [.mk 5 0 [.mk k1 n1 s1,.mk 1 0 []],.mk 5 0 [.mk k2 n2 s2,.mk 8 0 [.mk 1 1 []]]]]:=fF (s0:=[]) (s1:=[.mk 5 0 [.mk k1 n1 s1,.mk 1 0 []],.mk 5 0 [.mk k2 n2 s2,.mk 8 0 [.mk 1 1 []]]]) zq12 hpq12 (by simp) (by simp) RdP.nil (P2q11.below hbq12);have B1q12:=B1q11.below hbq12;have V1q12:=V1q11.below hbq12;have B2q12:=B2q11.below hbq12;have P2q12:=P2q11.below hbq12;refine aX bq11 hbq12 ?_;intro bq12 lq12;refine bB 14 ?_
               ·go_wp2_with (go_at_call 71;refine (aP 3 _ ⟨_,_,_,rfl⟩ _).mono ?_;rintro e q13 ⟨rfl,hbq13⟩)
                have B1q13:=B1q12.below hbq13;have V1q13:=V1q12.below hbq13;have B2q13:=B2q12.below hbq13;have P2q13:=P2q12.below hbq13;have P1q13:=rq12.below hbq13;refine aX bq12 hbq13 ?_;intro bq13 lq13;refine fB [16,17,18] 5 (lT:=[_,_,_]) ?_;refine bZ (aD ?_);refine bB 19 ?_
                ·go_wp2_with (go_at_call 99;refine (aEf 3 0 _ 2 2 _).mono ?_;rintro e q14 ⟨rfl,hbq14⟩)
                 have B1q14:=B1q13.below hbq14;have V1q14:=V1q13.below hbq14;have B2q14:=B2q13.below hbq14;have P2q14:=P2q13.below hbq14;have P1q14:=P1q13.below hbq14;refine aX bq13 hbq14 ?_;intro bq14 lq14;refine fB [20,21] 2 (lT:=[_,_]) ?_;refine bZ (aD ?_);refine cP [22,23] (lB:=[_,_]) ?_;have hZ2:=hZx.keep bq14;obtain ⟨d0,d1,d2,e0,e1,e2⟩:=bW hZ2;have gf:=gx.trans (bq14.mono gx.size);have rP:=P1q14;go_wp2_with fail
                 refine bodyPost_ret (v:=.tuple #[.agg Zr,.int .i64 2]) (by simp [results,results157,go_sem,d0,d1,d2]) rfl ⟨rfl,?_⟩;exact bP gf
end Go.Proofs.YtjlaenhcemacdaaGreat
