/- Parts of the proof. No condition. -/
import Derived.Test.YtjlaenhcemacdaaGreatK16
import Derived.Test.YtjlaenhcemacdaaGreatK22
open Go.Proofs.Tryz
namespace Go.Proofs.YtjlaenhcemacdaaGreat
open Go.RowKit
set_option maxHeartbeats 16000000
set_option maxRecDepth 100000
set_option linter.unusedSimpArgs false
set_option linter.unusedVariables false
theorem aGw (k1 n1:Int)(A1:Ba)(l1 c1:Nat)(w:Bb):Calls prog 99 #[.agg (Ro k1 n1 A1 l1 c1),.bool false] w λe w'=>e = .returned (.tuple #[.agg Zr,.int .i64 2])/\Bw w w':=by
 go_enter func99,ntmps99;go_wp2_with fail;refine bodyPost_ret (v:=.tuple #[.agg Zr,.int .i64 2]) (by simp [results,results99,go_sem]) rfl ⟨rfl,?_⟩;exact bw2
def yJ (o:Option Tm):Tm:=o.getD (.mk 0 0 [])
theorem aKd {w:Bb}{o:Option Tm}{e:Ending}{w':Bb}(h:pF w o e w'):∃A c,e = .returned (.tuple #[.agg (Ro (yJ o).k (yJ o).n A (yJ o).ks.length c),.bool o.isSome])/\(yJ o).ks.length<=9223372036854775807/\RdP (λb=>w.heap.size<=b) w' A 0 (yJ o).ks/\Bw w w':=by
 match o,h with
 | none,h=>obtain ⟨rfl,hb⟩:=dS h;exact ⟨none,0,rfl,by simp [yJ,Tm.ks],RdP.nil,hb⟩
 | some (.mk k n ks),h=>obtain ⟨A,c,rfl,hl,hf,hb⟩:=cS h;exact ⟨A,c,rfl,hl,hf.rd',hb⟩
theorem wY {w:Bb}{o:Option Tm}{b:Bool}{k n:Int}{s:List Tm}{e:Ending}{w':Bb}(hb:o.isSome=b)(ht:yJ o = .mk k n s)(h:pF w o e w'):∃A c,e = .returned (.tuple #[.agg (Ro k n A s.length c),.bool b])/\s.length<=9223372036854775807/\RdP (λb=>w.heap.size<=b) w' A 0 s/\Bw w w':=by
 have:=aKd h;rw [ht,hb] at this;exact this
theorem kA {x y:Int}{t v:Tm}(h:bJ x y t=some v):aE v=true:=by
 unfold bJ at h;split at h
 ·split at h
  ·rw [<- Option.some.inj h];assumption
  ·cases h
 ·cases h
theorem aLj {p:Tm}(hp:aE p=true)(h:aE (nM p)=false):∃b1 b2 k1 n1 s1 k2 n2 s2,(bJ 1 0 p).isSome=b1/\yJ (bJ 1 0 p) = .mk k1 n1 s1/\(bJ 2 0 p).isSome=b2/\yJ (bJ 2 0 p) = .mk k2 n2 s2/\((b1 && b2)=false\/(aE (.mk 3 0 [.mk 6 0 [],.mk 3 0 [.mk 5 0 [.mk k1 n1 s1,.mk 1 0 []],.mk 5 0 [.mk k2 n2 s2,.mk 8 0 [.mk 1 1 []]]]])=false/\aG [.mk 6 0 [],.mk 3 0 [.mk 5 0 [.mk k1 n1 s1,.mk 1 0 []],.mk 5 0 [.mk k2 n2 s2,.mk 8 0 [.mk 1 1 []]]]]<=1000000)):=by
 obtain ⟨k1,n1,s1,h1⟩:∃a b c,yJ (bJ 1 0 p) = .mk a b c:=⟨_,_,_,(by cases yJ (bJ 1 0 p);rfl:yJ (bJ 1 0 p) = .mk (yJ (bJ 1 0 p)).k (yJ (bJ 1 0 p)).n (yJ (bJ 1 0 p)).ks)⟩;obtain ⟨k2,n2,s2,h2⟩:∃a b c,yJ (bJ 2 0 p) = .mk a b c:=⟨_,_,_,(by cases yJ (bJ 2 0 p);rfl:yJ (bJ 2 0 p) = .mk (yJ (bJ 2 0 p)).k (yJ (bJ 2 0 p)).n (yJ (bJ 2 0 p)).ks)⟩;refine ⟨_,_,k1,n1,s1,k2,n2,s2,rfl,h1,rfl,h2,?_⟩;by_cases hb:((bJ 1 0 p).isSome && (bJ 2 0 p).isSome)=false
 ·exact .inl hb
 ·replace hb:=(Bool.not_eq_false _).mp hb;rw [Bool.and_eq_true] at hb;have e1:=gE (bC hp) hb.1;have e2:=gE (bC hp) hb.2;obtain ⟨v1,g1⟩:=Option.isSome_iff_exists.1 hb.1;obtain ⟨v2,g2⟩:=Option.isSome_iff_exists.1 hb.2;have z1:=kA g1;have z2:=kA g2;unfold yJ at h1 h2;rw [e1] at h1;rw [e2] at h2;rw [g1] at e1;rw [g2] at e2;have e1:v1=_:=e1;have e2:v2=_:=e2;rw [e1,h1] at z1;rw [e2,h2] at z2;refine .inr ⟨?_,?_⟩
  ·unfold nM at h;rw [h1,h2] at h;exact h
  ·have a1:=aH z1;have a2:=aH z2;simp only [aG,Tm.size];omega
theorem yY (k0 n0:Int)(s0:List Tm)(A0:Ba)(c0:Nat)(w:Bb)(hv0:aE (.mk k0 n0 s0)=true)(hv:aE (nM (.mk k0 n0 s0))=false)(hr:Rd w A0 0 s0) :
  Calls prog 157 #[.agg (Ro k0 n0 A0 s0.length c0)] w λe w'=>e = .returned (.tuple #[.agg Zr,.int .i64 2])/\Bw w w':=by
 have hz:=aH hv0;have hsh:=aD (bC hv0);obtain ⟨b1,b2,k1,n1,s1,k2,n2,s2,hb1,ht1,hb2,ht2,hN⟩:=aLj hv0 hv;have hS1:=aD (λ(w:Bb) (hr:Rd w A0 0 s0)=>(fU k0 n0 s0 A0 c0 1 0 w Ac Ac Ac hsh.out hr).mono λe w' h=>wY hb1 ht1 h);have hS2:=aD (λ(w:Bb) (hr:Rd w A0 0 s0)=>(fU k0 n0 s0 A0 c0 2 0 w Ac Ac Ac hsh.out hr).mono λe w' h=>wY hb2 ht2 h);replace hN:=aD hN;clear hv hv0 hb1 ht1 hb2 ht2;by_cases hb:(b1 && b2)=true
 ·rw [Bool.and_eq_true] at hb;obtain ⟨rfl,rfl⟩:=hb;replace hN:=aD (hN.out.resolve_left Ah);go_enter func157,ntmps157;go_upto_region 3 with (first
   | (go_at_call 50;have _t:=tok1;refine (hS2.out _ ((hr.below g1).alloc _)).mono ?_;rintro e w2 ⟨A2,c2,rfl,hl2,hf2,hb2⟩;have hZ2:=(hZ1.alloc (.cells (Ro k1 n1 A1 s1.length c1) 32)).keep hb2;have hP2:=(aC w1 32 (Ro k1 n1 A1 s1.length c1) rfl).keep hb2;have g2:=(g1.alloc g1.size (.cells (Ro k1 n1 A1 s1.length c1) 32)).trans (hb2.mono (by have:=g1.size;simp;omega));have r12:=(r11.alloc (.cells (Ro k1 n1 A1 s1.length c1) 32)).below hb2;have r22:=hf2.mono (q:=λb=>w.heap.size+2<=b) (λb hb=>Nat.le_trans (by have:=g1.size;have:=hb1.size;simp at this;simp;omega) hb))
   | (go_at_call 50;refine (hS1.out _ ((hr.alloc _).alloc _)).mono ?_;rintro e w1 ⟨A1,c1,rfl,hl1,hf1,hb1⟩;have hZ1:=jI hb1;have hX1:=((aC w 32 (Ro k0 n0 A0 s0.length c0) rfl).alloc (.cells Zr 32)).keep hb1;have g1:Bw w w1:=bN bw2 hb1;have r11:=hf1.mono (q:=λb=>w.heap.size+2<=b) (λb hb=>by simp at hb;omega);obtain ⟨x0,x1,x2⟩:=hX1.three;have lx:=hX1.lt;have tok1:=trivial))
  refine aU ?_;intro wx hwx;have hT4:Blk wx w1.heap.size (Ro k1 n1 A1 s1.length c1):=by rw [hwx];exact hP2.alloc _
  have hT6:Blk wx w2.heap.size (Ro k2 n2 A2 s2.length c2):=by rw [hwx];exact aC _ 32 _ rfl
  have hZx:=(show Blk wx (w.heap.size+1) _ by rw [hwx];exact hZ2.alloc _);have gx:Bw w wx:=by rw [hwx];exact g2.alloc g2.size _
  have lzx:=hZx.lt;have r1:RdP (λb=>w.heap.size+2<=b) wx A1 0 s1:=by rw [hwx];exact r12.alloc _
  have r2:RdP (λb=>w.heap.size+2<=b) wx A2 0 s2:=by rw [hwx];exact r22.alloc _
  clear hwx;obtain ⟨v0,v1,v2⟩:=fW hT4;obtain ⟨y0,y1,y2⟩:=fW hT6;refine eK wx [16,17,18,20,21,22,23] [1,5,15] 24 21 (lT:=[_,_,_]) ?_;intro q0 bq0;refine bU (aD ?_);refine aZ 0 ?_
  ·go_wp2_with (go_at_call 71;refine (aQ 6 _ ⟨_,_,_,rfl⟩ _).mono ?_;rintro e q1 ⟨rfl,hbq1⟩);refine aV bq0 hbq1 ?_;intro bq1 lq1;refine aZ 2 ?_
   ·go_wp2_with (go_at_call 60;refine (cU 0 _).mono ?_;rintro e q2 ⟨rfl,hbq2⟩);refine aV bq1 hbq2 ?_;intro bq2 lq2;refine aZ 3 ?_
    ·go_wp2_with fail;refine iU ?_;intro q3 hbq3 zq3 seq3;have hpq3:w.heap.size+2<=q2.heap.size:=by have:=bq2.size;omega
     have rq3:RdP (λb=>w.heap.size+2<=b) q3 (some ⟨q2.heap.size,0,none⟩) 0 [.mk k1 n1 s1,.mk 1 0 []]:=fM (s0:=s1) (s1:=[]) zq3 hpq3 hl1 Ag ((r1.below bq2).below hbq3) RdP.nil;refine aV bq2 hbq3 ?_;intro bq3 lq3;refine aZ 4 ?_
     ·go_wp2_with (go_at_call 71;refine (aQ 5 _ ⟨_,_,_,rfl⟩ _).mono ?_;rintro e q4 ⟨rfl,hbq4⟩);have B1q4:=rq3.below hbq4;refine aV bq3 hbq4 ?_;intro bq4 lq4;refine aZ 6 ?_
      ·go_wp2_with (go_at_call 60;refine (cU 1 _).mono ?_;rintro e q5 ⟨rfl,hbq5⟩);have B1q5:=B1q4.below hbq5;refine aV bq4 hbq5 ?_;intro bq5 lq5;refine aZ 7 ?_
       ·go_wp2_with fail;refine iU ?_;intro q6 hbq6 zq6 seq6;have hpq6:w.heap.size+2<=q5.heap.size:=by have:=bq5.size;omega
        have rq6:RdP (λb=>w.heap.size+2<=b) q6 (some ⟨q5.heap.size,0,none⟩) 0 [.mk 1 1 []]:=xY (s0:=[]) zq6 hpq6 Ag RdP.nil;have B1q6:=B1q5.below hbq6;refine aV bq5 hbq6 ?_;intro bq6 lq6;refine aZ 8 ?_
        ·go_wp2_with (go_at_call 71;refine (aQ 8 _ ⟨_,_,_,rfl⟩ _).mono ?_;rintro e q7 ⟨rfl,hbq7⟩);have B1q7:=B1q6.below hbq7;have V1q7:=rq6.below hbq7;refine aV bq6 hbq7 ?_;intro bq7 lq7;refine aZ 9 ?_
         ·go_wp2_with fail;refine iU ?_;intro q8 hbq8 zq8 seq8;have hpq8:w.heap.size+2<=q7.heap.size:=by have:=bq7.size;omega
          have rq8:RdP (λb=>w.heap.size+2<=b) q8 (some ⟨q7.heap.size,0,none⟩) 0 [.mk k2 n2 s2,.mk 8 0 [.mk 1 1 []]]:=fM (s0:=s2) (s1:=[.mk 1 1 []]) zq8 hpq8 hl2 Ag ((r2.below bq7).below hbq8) (V1q7.below hbq8);have B1q8:=B1q7.below hbq8;have V1q8:=V1q7.below hbq8;refine aV bq7 hbq8 ?_;intro bq8 lq8;refine aZ 10 ?_
          ·go_wp2_with (go_at_call 71;refine (aQ 5 _ ⟨_,_,_,rfl⟩ _).mono ?_;rintro e q9 ⟨rfl,hbq9⟩);have B1q9:=B1q8.below hbq9;have V1q9:=V1q8.below hbq9;have B2q9:=rq8.below hbq9;refine aV bq8 hbq9 ?_;intro bq9 lq9;refine aZ 11 ?_
           ·go_wp2_with fail;refine iU ?_;intro q10 hbq10 zq10 seq10;have hpq10:w.heap.size+2<=q9.heap.size:=by have:=bq9.size;omega
            have rq10:RdP (λb=>w.heap.size+2<=b) q10 (some ⟨q9.heap.size,0,none⟩) 0 [.mk 5 0 [.mk k1 n1 s1,.mk 1 0 []],.mk 5 0 [.mk k2 n2 s2,.mk 8 0 [.mk 1 1 []]]]:=fM (s0:=[.mk k1 n1 s1,.mk 1 0 []]) (s1:=[.mk k2 n2 s2,.mk 8 0 [.mk 1 1 []]]) zq10 hpq10 Ag Ag (B1q9.below hbq10) (B2q9.below hbq10);have B1q10:=B1q9.below hbq10;have V1q10:=V1q9.below hbq10;have B2q10:=B2q9.below hbq10;refine aV bq9 hbq10 ?_;intro bq10 lq10;refine aZ 12 ?_
            ·go_wp2_with (go_at_call 71;refine (aQ 3 _ ⟨_,_,_,rfl⟩ _).mono ?_;rintro e q11 ⟨rfl,hbq11⟩);have B1q11:=B1q10.below hbq11;have V1q11:=V1q10.below hbq11;have B2q11:=B2q10.below hbq11;have P2q11:=rq10.below hbq11;refine aV bq10 hbq11 ?_;intro bq11 lq11;refine aZ 13 ?_
             ·go_wp2_with fail;refine iU ?_;intro q12 hbq12 zq12 seq12;have hpq12:w.heap.size+2<=q11.heap.size:=by have:=bq11.size;omega
              have rq12:RdP (λb=>w.heap.size+2<=b) q12 (some ⟨q11.heap.size,0,none⟩) 0 [.mk 6 0 [],.mk 3 0 [.mk 5 0 [.mk k1 n1 s1,.mk 1 0 []],.mk 5 0 [.mk k2 n2 s2,.mk 8 0 [.mk 1 1 []]]]]:=fM (s0:=[]) (s1:=[.mk 5 0 [.mk k1 n1 s1,.mk 1 0 []],.mk 5 0 [.mk k2 n2 s2,.mk 8 0 [.mk 1 1 []]]]) zq12 hpq12 Ag Ag RdP.nil (P2q11.below hbq12);have B1q12:=B1q11.below hbq12;have V1q12:=V1q11.below hbq12;have B2q12:=B2q11.below hbq12;have P2q12:=P2q11.below hbq12;refine aV bq11 hbq12 ?_;intro bq12 lq12;refine aZ 14 ?_
              ·go_wp2_with (go_at_call 71;refine (aQ 3 _ ⟨_,_,_,rfl⟩ _).mono ?_;rintro e q13 ⟨rfl,hbq13⟩);have B1q13:=B1q12.below hbq13;have V1q13:=V1q12.below hbq13;have B2q13:=B2q12.below hbq13;have P2q13:=P2q12.below hbq13;have P1q13:=rq12.below hbq13;refine aV bq12 hbq13 ?_;intro bq13 lq13;refine fB [16,17,18] 5 (lT:=[_,_,_]) ?_;refine bU (aD ?_);refine aZ 19 ?_
               ·go_wp2_with (go_at_call 99;refine (dG 3 0 [.mk 6 0 [],.mk 3 0 [.mk 5 0 [.mk k1 n1 s1,.mk 1 0 []],.mk 5 0 [.mk k2 n2 s2,.mk 8 0 [.mk 1 1 []]]]] _ 2 _ hN.out.2 hN.out.1 P1q13.rd).mono ?_;rintro e q14 ⟨rfl,hbq14⟩);have B1q14:=B1q13.below hbq14;have V1q14:=V1q13.below hbq14;have B2q14:=B2q13.below hbq14;have P2q14:=P2q13.below hbq14;have P1q14:=P1q13.below hbq14;refine aV bq13 hbq14 ?_;intro bq14 lq14;refine fB [20,21] 2 (lT:=[_,_]) ?_;refine bU (aD ?_);refine cK [22,23] (lB:=[_,_]) ?_;have hZ2:=hZx.keep bq14;obtain ⟨d0,d1,d2,e0,e1,e2⟩:=bZ hZ2;have gf:=gx.trans (bq14.mono gx.size);have rP:=P1q14;go_wp2_with fail;refine bodyPost_ret (v:=.tuple #[.agg Zr,.int .i64 2]) (by simp [results,results157,go_sem,d0,d1,d2]) rfl ⟨rfl,?_⟩;exact bV gf
 ·have hcc:(b1=false/\b2=false)\/(b1=false/\b2=true)\/(b1=true/\b2=false):=by cases b1<;>cases b2<;>simp at hb⊢
  clear hN hb;rcases hcc with ⟨rfl,rfl⟩|⟨rfl,rfl⟩|⟨rfl,rfl⟩
  all_goals
   go_enter func157,ntmps157;go_upto_region 3 with (first
    | (go_at_call 50;have _t:=tok1;refine (hS2.out _ ((hr.below g1).alloc _)).mono ?_;rintro e w2 ⟨A2,c2,rfl,hl2,hf2,hb2⟩;have hZ2:=(hZ1.alloc (.cells (Ro k1 n1 A1 s1.length c1) 32)).keep hb2;have hP2:=(aC w1 32 (Ro k1 n1 A1 s1.length c1) rfl).keep hb2;have g2:=(g1.alloc g1.size (.cells (Ro k1 n1 A1 s1.length c1) 32)).trans (hb2.mono (by have:=g1.size;simp;omega));have r12:=(r11.alloc (.cells (Ro k1 n1 A1 s1.length c1) 32)).below hb2;have r22:=hf2.mono (q:=λb=>w.heap.size+2<=b) (λb hb=>Nat.le_trans (by have:=g1.size;have:=hb1.size;simp at this;simp;omega) hb))
    | (go_at_call 50;refine (hS1.out _ ((hr.alloc _).alloc _)).mono ?_;rintro e w1 ⟨A1,c1,rfl,hl1,hf1,hb1⟩;have hZ1:=jI hb1;have hX1:=((aC w 32 (Ro k0 n0 A0 s0.length c0) rfl).alloc (.cells Zr 32)).keep hb1;have g1:Bw w w1:=bN bw2 hb1;have r11:=hf1.mono (q:=λb=>w.heap.size+2<=b) (λb hb=>by simp at hb;omega);obtain ⟨x0,x1,x2⟩:=hX1.three;have lx:=hX1.lt;have tok1:=trivial))
   refine aU ?_;intro wx hwx;have hT4:Blk wx w1.heap.size (Ro k1 n1 A1 s1.length c1):=by rw [hwx];exact hP2.alloc _
   have hT6:Blk wx w2.heap.size (Ro k2 n2 A2 s2.length c2):=by rw [hwx];exact aC _ 32 _ rfl
   have hZx:=(show Blk wx (w.heap.size+1) _ by rw [hwx];exact hZ2.alloc _);have gx:Bw w wx:=by rw [hwx];exact g2.alloc g2.size _
   have lzx:=hZx.lt;have r1:RdP (λb=>w.heap.size+2<=b) wx A1 0 s1:=by rw [hwx];exact r12.alloc _
   have r2:RdP (λb=>w.heap.size+2<=b) wx A2 0 s2:=by rw [hwx];exact r22.alloc _
   clear hwx;obtain ⟨v0,v1,v2⟩:=fW hT4;obtain ⟨y0,y1,y2⟩:=fW hT6;refine eK wx [16,17,18,20,21,22,23] [1,5,15] 24 21 (lT:=[_,_,_]) ?_;intro q0 bq0;refine bU (aD ?_);refine aZ 0 ?_
   ·go_wp2_with (go_at_call 71;refine (aQ 6 _ ⟨_,_,_,rfl⟩ _).mono ?_;rintro e q1 ⟨rfl,hbq1⟩);refine aV bq0 hbq1 ?_;intro bq1 lq1;refine aZ 2 ?_
    ·go_wp2_with (go_at_call 60;refine (cU 0 _).mono ?_;rintro e q2 ⟨rfl,hbq2⟩);refine aV bq1 hbq2 ?_;intro bq2 lq2;refine aZ 3 ?_
     ·go_wp2_with fail;refine iU ?_;intro q3 hbq3 zq3 seq3;have hpq3:w.heap.size+2<=q2.heap.size:=by have:=bq2.size;omega
      have rq3:RdP (λb=>w.heap.size+2<=b) q3 (some ⟨q2.heap.size,0,none⟩) 0 [.mk k1 n1 s1,.mk 1 0 []]:=fM (s0:=s1) (s1:=[]) zq3 hpq3 hl1 Ag ((r1.below bq2).below hbq3) RdP.nil;refine aV bq2 hbq3 ?_;intro bq3 lq3;refine aZ 4 ?_
      ·go_wp2_with (go_at_call 71;refine (aQ 5 _ ⟨_,_,_,rfl⟩ _).mono ?_;rintro e q4 ⟨rfl,hbq4⟩);have B1q4:=rq3.below hbq4;refine aV bq3 hbq4 ?_;intro bq4 lq4;refine aZ 6 ?_
       ·go_wp2_with (go_at_call 60;refine (cU 1 _).mono ?_;rintro e q5 ⟨rfl,hbq5⟩);have B1q5:=B1q4.below hbq5;refine aV bq4 hbq5 ?_;intro bq5 lq5;refine aZ 7 ?_
        ·go_wp2_with fail;refine iU ?_;intro q6 hbq6 zq6 seq6;have hpq6:w.heap.size+2<=q5.heap.size:=by have:=bq5.size;omega
         have rq6:RdP (λb=>w.heap.size+2<=b) q6 (some ⟨q5.heap.size,0,none⟩) 0 [.mk 1 1 []]:=xY (s0:=[]) zq6 hpq6 Ag RdP.nil;have B1q6:=B1q5.below hbq6;refine aV bq5 hbq6 ?_;intro bq6 lq6;refine aZ 8 ?_
         ·go_wp2_with (go_at_call 71;refine (aQ 8 _ ⟨_,_,_,rfl⟩ _).mono ?_;rintro e q7 ⟨rfl,hbq7⟩);have B1q7:=B1q6.below hbq7;have V1q7:=rq6.below hbq7;refine aV bq6 hbq7 ?_;intro bq7 lq7;refine aZ 9 ?_
          ·go_wp2_with fail;refine iU ?_;intro q8 hbq8 zq8 seq8;have hpq8:w.heap.size+2<=q7.heap.size:=by have:=bq7.size;omega
           have rq8:RdP (λb=>w.heap.size+2<=b) q8 (some ⟨q7.heap.size,0,none⟩) 0 [.mk k2 n2 s2,.mk 8 0 [.mk 1 1 []]]:=fM (s0:=s2) (s1:=[.mk 1 1 []]) zq8 hpq8 hl2 Ag ((r2.below bq7).below hbq8) (V1q7.below hbq8);have B1q8:=B1q7.below hbq8;have V1q8:=V1q7.below hbq8;refine aV bq7 hbq8 ?_;intro bq8 lq8;refine aZ 10 ?_
           ·go_wp2_with (go_at_call 71;refine (aQ 5 _ ⟨_,_,_,rfl⟩ _).mono ?_;rintro e q9 ⟨rfl,hbq9⟩);have B1q9:=B1q8.below hbq9;have V1q9:=V1q8.below hbq9;have B2q9:=rq8.below hbq9;refine aV bq8 hbq9 ?_;intro bq9 lq9;refine aZ 11 ?_
            ·go_wp2_with fail;refine iU ?_;intro q10 hbq10 zq10 seq10;have hpq10:w.heap.size+2<=q9.heap.size:=by have:=bq9.size;omega
             have rq10:RdP (λb=>w.heap.size+2<=b) q10 (some ⟨q9.heap.size,0,none⟩) 0 [.mk 5 0 [.mk k1 n1 s1,.mk 1 0 []],.mk 5 0 [.mk k2 n2 s2,.mk 8 0 [.mk 1 1 []]]]:=fM (s0:=[.mk k1 n1 s1,.mk 1 0 []]) (s1:=[.mk k2 n2 s2,.mk 8 0 [.mk 1 1 []]]) zq10 hpq10 Ag Ag (B1q9.below hbq10) (B2q9.below hbq10);have B1q10:=B1q9.below hbq10;have V1q10:=V1q9.below hbq10;have B2q10:=B2q9.below hbq10;refine aV bq9 hbq10 ?_;intro bq10 lq10;refine aZ 12 ?_
             ·go_wp2_with (go_at_call 71;refine (aQ 3 _ ⟨_,_,_,rfl⟩ _).mono ?_;rintro e q11 ⟨rfl,hbq11⟩);have B1q11:=B1q10.below hbq11;have V1q11:=V1q10.below hbq11;have B2q11:=B2q10.below hbq11;have P2q11:=rq10.below hbq11;refine aV bq10 hbq11 ?_;intro bq11 lq11;refine aZ 13 ?_
              ·go_wp2_with fail;refine iU ?_;intro q12 hbq12 zq12 seq12;have hpq12:w.heap.size+2<=q11.heap.size:=by have:=bq11.size;omega
               have rq12:RdP (λb=>w.heap.size+2<=b) q12 (some ⟨q11.heap.size,0,none⟩) 0 [.mk 6 0 [],.mk 3 0 [.mk 5 0 [.mk k1 n1 s1,.mk 1 0 []],.mk 5 0 [.mk k2 n2 s2,.mk 8 0 [.mk 1 1 []]]]]:=fM (s0:=[]) (s1:=[.mk 5 0 [.mk k1 n1 s1,.mk 1 0 []],.mk 5 0 [.mk k2 n2 s2,.mk 8 0 [.mk 1 1 []]]]) zq12 hpq12 Ag Ag RdP.nil (P2q11.below hbq12);have B1q12:=B1q11.below hbq12;have V1q12:=V1q11.below hbq12;have B2q12:=B2q11.below hbq12;have P2q12:=P2q11.below hbq12;refine aV bq11 hbq12 ?_;intro bq12 lq12;refine aZ 14 ?_
               ·go_wp2_with (go_at_call 71;refine (aQ 3 _ ⟨_,_,_,rfl⟩ _).mono ?_;rintro e q13 ⟨rfl,hbq13⟩);have B1q13:=B1q12.below hbq13;have V1q13:=V1q12.below hbq13;have B2q13:=B2q12.below hbq13;have P2q13:=P2q12.below hbq13;have P1q13:=rq12.below hbq13;refine aV bq12 hbq13 ?_;intro bq13 lq13;refine fB [16,17,18] 5 (lT:=[_,_,_]) ?_;refine bU (aD ?_);refine aZ 19 ?_
                ·go_wp2_with (go_at_call 99;refine (aGw 3 0 _ 2 2 _).mono ?_;rintro e q14 ⟨rfl,hbq14⟩);have B1q14:=B1q13.below hbq14;have V1q14:=V1q13.below hbq14;have B2q14:=B2q13.below hbq14;have P2q14:=P2q13.below hbq14;have P1q14:=P1q13.below hbq14;refine aV bq13 hbq14 ?_;intro bq14 lq14;refine fB [20,21] 2 (lT:=[_,_]) ?_;refine bU (aD ?_);refine cK [22,23] (lB:=[_,_]) ?_;have hZ2:=hZx.keep bq14;obtain ⟨d0,d1,d2,e0,e1,e2⟩:=bZ hZ2;have gf:=gx.trans (bq14.mono gx.size);have rP:=P1q14;go_wp2_with fail;refine bodyPost_ret (v:=.tuple #[.agg Zr,.int .i64 2]) (by simp [results,results157,go_sem,d0,d1,d2]) rfl ⟨rfl,?_⟩;exact bV gf
end Go.Proofs.YtjlaenhcemacdaaGreat
