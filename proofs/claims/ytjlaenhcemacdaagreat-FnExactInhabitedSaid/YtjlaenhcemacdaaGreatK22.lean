/- Parts of the proof. No condition. -/
import Derived.Test.YtjlaenhcemacdaaGreatK14
import Derived.Test.YtjlaenhcemacdaaGreatK15
open Go.Proofs.Tryz
namespace Go.Proofs.YtjlaenhcemacdaaGreat
open Go.RowKit
set_option maxHeartbeats 8000000
set_option maxRecDepth 100000
set_option linter.unusedSimpArgs false
set_option linter.unusedVariables false
def aTi (r:Rs Tm)(t:Tm):Rs Tm:=match r with | .ok _=>.ok t | .no b=>.no b
theorem zF (C:Ba)(m cc:Nat)(k n:Int)(A:Ba)(c fc:Nat)(ev:Array Value)(l ka na:Int)(sa:List Tm)(a1:Tm)(kb nb:Int)(sb:List Tm)(rr:Rs Tm)(ty:Nat->Option Tm)(w:Bb)(h1:lvS (ty 0)=some l)(h2:ty 1=some (.mk kb nb sb))(hv:aE (.mk 3 0 [.mk ka na sa,.mk kb nb sb])=true)(hT:TyOk fc ev w ty)(hr:Rd w A 0 [.mk ka na sa,a1])
  (hRec : Hid (∀ (Ao : Ba) (co : Nat) (w' : Bb), Bw w w' -> Rd w' Ao 0 [.mk ka na sa, .mk kb nb sb] -> Calls prog 96 #[.slice C m cc, .agg (Ro 3 0 Ao 2 co)] w' (qK w' rr))) :
  Calls prog 140 #[.agg #[.slice C m cc,.int .i64 k,.int .i64 n,.slice A 2 c,.func (.func fc) #[] ev]] w (qK w (aTi rr (.mk 3 0 [.mk ka na sa,.mk kb nb sb]))):=by
 obtain ⟨b2,b3,rfl,rfl⟩:=hT.1;all_goals
  have hv':=aD hv;replace h1:=aD h1;replace h2:=aD h2;clear hv;obtain ⟨ba,oa,Aa,ca,rfl,i1,i2,i3,hla,ra0⟩:=mU hr;simp only [Nat.zero_mul,Nat.add_zero,Nat.one_mul,Nat.reduceMul] at i1 i2 i3;go_enter func140,ntmps140;go_upto_region 7 with (first
   | (go_at_call 116;have _t:=tok1;refine (hT.2 1 kb nb sb Ac h2.out _ g1 _ (by rfl)).mono ?_;rintro e w2 ⟨Ab,cb,rfl,hlb,rb1,hb2⟩;have hZ2:=hZ1.keep hb2;have hJ2:=hJ1.keep hb2;have g2:=g1.trans (hb2.mono g1.size))
   | (go_at_call 155;refine (jR C m cc k n _ 2 c 116 #[.pointer (some ⟨b2,0,none⟩),.pointer (some ⟨b3,0,none⟩)] 0 Ac l ty _ h1.out (hT.below bw2)).mono ?_;rintro e w1 ⟨rfl,hb1⟩;have hZ1:=jI hb1;have hJ1:=((aC w 105 #[.slice C m cc,.int .i64 k,.int .i64 n,.slice (some ⟨ba,oa,none⟩) 2 c,.func (.func 116) #[] #[.pointer (some ⟨b2,0,none⟩),.pointer (some ⟨b3,0,none⟩)]] rfl).alloc (.cells Zr 32)).keep hb1;have g1:Bw w w1:=bN bw2 hb1;have j0:=hJ1.at_ (i:=0) rfl;have j1:=hJ1.at_ (i:=1) rfl;have j2:=hJ1.at_ (i:=2) rfl;have j3:=hJ1.at_ (i:=3) rfl;have j4:=hJ1.at_ (i:=4) rfl;have tok1:=trivial))
  refine aU ?_;intro wx hwx;have hT6:Blk wx w2.heap.size (Ro kb nb Ab sb.length cb):=by rw [hwx];exact aC _ 32 _ rfl
  have hZx:=(show Blk wx (w.heap.size+1) _ by rw [hwx];exact hZ2.alloc _);have hJx:=(show Blk wx w.heap.size _ by rw [hwx];exact hJ2.alloc _);have gx:Bw w wx:=by rw [hwx];exact g2.alloc g2.size _
  have rb:Rd wx Ab 0 sb:=by rw [hwx];exact rb1.alloc _
  clear hwx;have ra:=ra0.below gx;have u3:=aF (hJx.at_ (i:=3) rfl);obtain ⟨v0,v1,v2⟩:=fW hT6;have y0:=aF ((cM gx) _ _ i1);have y1:=aF ((cM gx) _ _ i2);have y2:=aF ((cM gx) _ _ i3);go_cut [7,8] (λvc vp wy=>∃(gz:Nat) (Az:Ba) (cz:Nat),vp = .pointer (some ⟨gz,0,none⟩)/\vc = .int .i64 0/\Blk wy gz (Ro 3 0 Az 2 cz)/\Rd wy Az 0 [.mk ka na sa,.mk kb nb sb]/\Bw wx wy/\wx.heap.size<=gz)
  case first=>
   refine eK wx [9,10,11,13,14] [0,1,2,3,4,5] 15 9 (lT:=[_,_,_,_,_,_]) ?_;intro q0 bq0;refine bU (aD ?_);refine mW 6 12 ?_ ?_
   ·go_wp2_with fail;refine iU ?_;intro q1 hbq1 zq1 seq1;have rq1:Rd q1 (some ⟨q0.heap.size,0,none⟩) 0 [.mk ka na sa,.mk kb nb sb]:=dW (s0:=sa) (s1:=sb) zq1 hla hlb ((ra.below bq0).below hbq1) ((rb.below bq0).below hbq1);refine aV bq0 hbq1 ?_;intro bq1 lq1;refine mW 7 12 ?_ ?_
    ·go_wp2_with (go_at_call 71;refine (aQ 3 _ ⟨_,_,_,rfl⟩ _).mono ?_;rintro e q2 ⟨rfl,hbq2⟩);have Pq2:=rq1.below hbq2;refine aV bq1 hbq2 ?_;intro bq2 lq2;refine mW 8 12 ?_ ?_
     ·go_wp2_with (go_at_call 99;refine (cP 3 0 [.mk ka na sa,.mk kb nb sb] _ 2 _ hv'.out Pq2).mono ?_;rintro e q3 ⟨rfl,hbq3⟩);have Pq3:=Pq2.below hbq3;refine aV bq2 hbq3 ?_;intro bq3 lq3;refine fB [9,10,11] 3 (lT:=[_,_,_]) ?_;refine bU (aD ?_);refine aZ 12 ?_
      ·go_wp2_with fail;refine iU ?_;intro q4 hbq4 zq4 seq4;have Pq4:=Pq3.below hbq4;refine aV bq3 hbq4 ?_;intro bq4 lq4;refine cK [13,14] (lB:=[_,_]) ?_;obtain ⟨d0,d1,d2,e0,e1,e2⟩:=bZ zq4;have szb:wx.heap.size<=q3.heap.size:=by first|exact bq0.size|exact bq3.size
       go_wp2_with fail;go_meet
       exact ⟨q3.heap.size,some ⟨q0.heap.size,0,none⟩,2,rfl,rfl,((zq4.set_ 0 _).set_ 1 _).set_ 2 _,bS zq4 hv'.out Pq4 _ _ _,((bq4.setCell szb _).setCell szb _).setCell szb _,szb⟩
     ·go_wp2_with fail;refine iU ?_;intro q5 hbq5 zq5 seq5;have Pq5:=Pq2.below hbq5;refine aV bq2 hbq5 ?_;intro bq5 lq5;refine aZ 8 ?_
      ·go_wp2_with (go_at_call 99;refine (cP 3 0 [.mk ka na sa,.mk kb nb sb] _ 2 _ hv'.out Pq5).mono ?_;rintro e q6 ⟨rfl,hbq6⟩);have Pq6:=Pq5.below hbq6;have Zq6:=zq5.keep hbq6;refine aV bq5 hbq6 ?_;intro bq6 lq6;refine fB [9,10,11] 2 (lT:=[_,_,_]) ?_;refine bU (aD ?_);refine cK [13,14] (lB:=[_,_]) ?_;obtain ⟨d0,d1,d2,e0,e1,e2⟩:=bZ Zq6;have szb:wx.heap.size<=q2.heap.size:=by first|exact bq0.size|exact bq2.size
       go_wp2_with fail;go_meet
       exact ⟨q2.heap.size,some ⟨q0.heap.size,0,none⟩,2,rfl,rfl,((Zq6.set_ 0 _).set_ 1 _).set_ 2 _,bS Zq6 hv'.out Pq6 _ _ _,((bq6.setCell szb _).setCell szb _).setCell szb _,szb⟩
    ·go_wp2_with fail;refine iU ?_;intro q7 hbq7 zq7 seq7;have Pq7:=rq1.below hbq7;refine aV bq1 hbq7 ?_;intro bq7 lq7;refine aZ 7 ?_
     ·go_wp2_with (go_at_call 71;refine (aQ 3 _ ⟨_,_,_,rfl⟩ _).mono ?_;rintro e q8 ⟨rfl,hbq8⟩);have Pq8:=Pq7.below hbq8;have Zq8:=zq7.keep hbq8;refine aV bq7 hbq8 ?_;intro bq8 lq8;refine aZ 8 ?_
      ·go_wp2_with (go_at_call 99;refine (cP 3 0 [.mk ka na sa,.mk kb nb sb] _ 2 _ hv'.out Pq8).mono ?_;rintro e q9 ⟨rfl,hbq9⟩);have Pq9:=Pq8.below hbq9;have Zq9:=Zq8.keep hbq9;refine aV bq8 hbq9 ?_;intro bq9 lq9;refine fB [9,10,11] 2 (lT:=[_,_,_]) ?_;refine bU (aD ?_);refine cK [13,14] (lB:=[_,_]) ?_;obtain ⟨d0,d1,d2,e0,e1,e2⟩:=bZ Zq9;have szb:wx.heap.size<=q1.heap.size:=by first|exact bq0.size|exact bq1.size
       go_wp2_with fail;go_meet
       exact ⟨q1.heap.size,some ⟨q0.heap.size,0,none⟩,2,rfl,rfl,((Zq9.set_ 0 _).set_ 1 _).set_ 2 _,bS Zq9 hv'.out Pq9 _ _ _,((bq9.setCell szb _).setCell szb _).setCell szb _,szb⟩
   ·go_wp2_with fail;refine iU ?_;intro q10 hbq10 zq10 seq10;refine aV bq0 hbq10 ?_;intro bq10 lq10;refine aZ 6 ?_
    ·go_wp2_with fail;refine iU ?_;intro q11 hbq11 zq11 seq11;have rq11:Rd q11 (some ⟨q10.heap.size,0,none⟩) 0 [.mk ka na sa,.mk kb nb sb]:=dW (s0:=sa) (s1:=sb) zq11 hla hlb ((ra.below bq10).below hbq11) ((rb.below bq10).below hbq11);have Zq11:=zq10.keep hbq11;refine aV bq10 hbq11 ?_;intro bq11 lq11;refine aZ 7 ?_
     ·go_wp2_with (go_at_call 71;refine (aQ 3 _ ⟨_,_,_,rfl⟩ _).mono ?_;rintro e q12 ⟨rfl,hbq12⟩);have Zq12:=Zq11.keep hbq12;have Pq12:=rq11.below hbq12;refine aV bq11 hbq12 ?_;intro bq12 lq12;refine aZ 8 ?_
      ·go_wp2_with (go_at_call 99;refine (cP 3 0 [.mk ka na sa,.mk kb nb sb] _ 2 _ hv'.out Pq12).mono ?_;rintro e q13 ⟨rfl,hbq13⟩);have Zq13:=Zq12.keep hbq13;have Pq13:=Pq12.below hbq13;refine aV bq12 hbq13 ?_;intro bq13 lq13;refine fB [9,10,11] 2 (lT:=[_,_,_]) ?_;refine bU (aD ?_);refine cK [13,14] (lB:=[_,_]) ?_;obtain ⟨d0,d1,d2,e0,e1,e2⟩:=bZ Zq13;have szb:wx.heap.size<=q0.heap.size:=by first|exact bq0.size|exact bq0.size
       go_wp2_with fail;go_meet
       exact ⟨q0.heap.size,some ⟨q10.heap.size,0,none⟩,2,rfl,rfl,((Zq13.set_ 0 _).set_ 1 _).set_ 2 _,bS Zq13 hv'.out Pq13 _ _ _,((bq13.setCell szb _).setCell szb _).setCell szb _,szb⟩
  case rest=>
   obtain ⟨gz,Az,cz,rfl,rfl,hTz,rz,hxy,hgz⟩:=hcut;have gy:=gx.trans (hxy.mono gx.size);have hZy:=hZx.keep hxy;have hJy:=hJx.keep hxy;have j0:=hJy.at_ (i:=0) rfl;have j1:=hJy.at_ (i:=1) rfl;have j2:=hJy.at_ (i:=2) rfl;have j3:=hJy.at_ (i:=3) rfl;have j4:=hJy.at_ (i:=4) rfl;obtain ⟨p0,p1,p2⟩:=hTz.three;have lzz:=hTz.lt;cases rr with
   | ok o=>
    obtain ⟨kr,nr,sr⟩:=o;go_wp2_with (go_at_call 96;refine (hRec.out Az cz _ gy rz).mono ?_;rintro e w9 ⟨A9,c9,rfl,hl9,r9,hb9⟩;have hZ9:=hZy.keep hb9;have g9:=gy.trans (hb9.mono gy.size);have rz9:=rz.below hb9;have hT9:=hTz.keep hb9;clear p0 p1 p2;obtain ⟨p0,p1,p2⟩:=hT9.three;obtain ⟨d0,d1,d2,e0,e1,e2,lz9⟩:=dN hZ9;have lt9:=hT9.lt);have hyy:=λ(o:Obj)=>(((((hZ9.set_ 0 (.int .i64 3)).set_ 1 (.int .i64 0)).set_ 2 (.slice Az 2 cz)).alloc o:Blk _ _ (Ro 3 0 Az 2 cz))).three
    refine bodyPost_ret (v:=.tuple #[.agg (Ro 3 0 Az 2 cz),.int .i64 0]) (by simp [results,results140,go_sem,hyy]) rfl ⟨Az,cz,rfl,by simp,?_,?_⟩
    ·exact (bS hZ9 hv'.out rz9 _ _ _).alloc _
    ·exact (bV g9).alloc (by simp [World.setCell];exact g9.size) _
   | no b=>
    have qb:=dP b;go_wp2_with (go_at_call 96;refine (hRec.out Az cz _ gy rz).mono ?_;rintro e w9 ⟨rfl,hb9⟩;have hZ9:=hZy.keep hb9;have g9:=gy.trans (hb9.mono gy.size);have rz9:=rz.below hb9;have hT9:=hTz.keep hb9;clear p0 p1 p2;obtain ⟨p0,p1,p2⟩:=hT9.three;obtain ⟨d0,d1,d2,e0,e1,e2,lz9⟩:=dN hZ9;have lt9:=hT9.lt);have hyy:=λ(o:Obj)=>(((((hZ9.set_ 0 (.int .i64 0)).set_ 1 (.int .i64 0)).set_ 2 (.slice none 0 0)).alloc o:Blk _ _ Zr)).three
    refine bodyPost_ret (v:=.tuple #[.agg Zr,.int .i64 (dB b)]) (by simp [results,results140,go_sem,hyy,d0,d1,d2]) rfl ⟨rfl,?_⟩;exact (bV g9).alloc (by simp [World.setCell];exact g9.size) _
theorem zE (C:Ba)(m cc:Nat)(k n:Int)(A:Ba)(c fc:Nat)(ev:Array Value)(ka na:Int)(sa:List Tm)(a1:Tm)(r:Rs Tm)(rec_:Tm->Option (Rs Tm))(ty:Nat->Option (Rs Tm))(w:Bb)
  (hs : (bd (qJ (ty 0)) λ_ => bd (ty 1) λu => bd (rec_ (.mk 3 0 [.mk ka na sa, u])) λ_ => fV (.mk 3 0 [.mk ka na sa, u])) = some r) (hT : TyX fc ev w ty) (hv : tF ty) (hr : Rd w A 0 [.mk ka na sa, a1]) (hva : aE (.mk ka na sa) = true) (hBad : ∀ (u : Tm) (rr : Rs Tm), rec_ (.mk 3 0 [.mk ka na sa, u]) = some rr -> aE (.mk 3 0 [.mk ka na sa, u]) = false -> rr = .no false)
  (hRec : Hid (∀ (u : Tm) (rr : Rs Tm), rec_ (.mk 3 0 [.mk ka na sa, u]) = some rr -> aE (.mk 3 0 [.mk ka na sa, u]) = true -> ∀ (Ao : Ba) (co : Nat) (w' : Bb), Bw w w' -> Rd w' Ao 0 [.mk ka na sa, u] -> Calls prog 96 #[.slice C m cc, .agg (Ro 3 0 Ao 2 co)] w' (qK w' rr))) :
  Calls prog 140 #[.agg #[.slice C m cc,.int .i64 k,.int .i64 n,.slice A 2 c,.func (.func fc) #[] ev]] w (qK w r):=by
 rcases aM hs with ⟨b,h1,rfl⟩|⟨i,h1,hs⟩
 ·have qb:=dP b;replace h1:=aD h1;clear hs hRec;go_enter func140,ntmps140;go_wp2_with (go_at_call 155;refine (gH C m cc k n A 2 c fc ev 0 Ac _ ty _ h1.out (hT.below bw2) hv).mono ?_;rintro e w1 ⟨rfl,hb1⟩;have hZ1:=jI hb1;have g1:Bw w w1:=bN bw2 hb1;obtain ⟨d0,d1,d2,e0,e1,e2⟩:=bZ hZ1);refine bodyPost_ret (v:=.tuple #[.agg Zr,.int .i64 (dB b)]) (by simp [results,results140,go_sem,d0,d1,d2]) rfl ⟨rfl,?_⟩;exact bV g1
 rcases aM hs with ⟨b,h2,rfl⟩|⟨u,h2,hs⟩
 ·have qb:=dP b;obtain ⟨b2,b3,rfl,rfl⟩:=hT.1;all_goals
   replace h1:=aD h1;replace h2:=aD h2;clear hs hRec;go_enter func140,ntmps140;go_wp2_with (first
    | (go_at_call 116;have _t:=tok1;refine (hT.2 1 _ Ac h2.out _ g1 _ (by rfl)).mono ?_;rintro e w2 ⟨rfl,hb2⟩;have hZ2:=hZ1.keep hb2;have g2:=g1.trans (hb2.mono g1.size);obtain ⟨d0,d1,d2,e0,e1,e2,lz⟩:=dN hZ2;have n1':w.heap.size+1≠w2.heap.size:=Ac)
    | (go_at_call 155;refine (gH C m cc k n A 2 c _ _ 0 Ac _ ty _ h1.out (hT.below bw2) hv).mono ?_;rintro e w1 ⟨rfl,hb1⟩;have hZ1:=jI hb1;have hJ1:=((aC w 105 #[.slice C m cc,.int .i64 k,.int .i64 n,.slice A 2 c,.func (.func _) #[] _] rfl).alloc (.cells Zr 32)).keep hb1;have g1:Bw w w1:=bN bw2 hb1;have j0:=hJ1.at_ (i:=0) rfl;have j1:=hJ1.at_ (i:=1) rfl;have j2:=hJ1.at_ (i:=2) rfl;have j3:=hJ1.at_ (i:=3) rfl;have j4:=hJ1.at_ (i:=4) rfl;have tok1:=trivial))
   have y:=λ(o:Obj)=>(((((hZ2.set_ 0 (.int .i64 0)).set_ 1 (.int .i64 0)).set_ 2 (.slice none 0 0)).alloc o:Blk _ _ Zr)).three
   refine bodyPost_ret (v:=.tuple #[.agg Zr,.int .i64 (dB b)]) (by simp [results,results140,go_sem,y,d0,d1,d2]) rfl ⟨rfl,?_⟩;exact (bV g2).alloc (by simp [World.setCell];exact g2.size) _
 obtain ⟨kb,nb,sb⟩:=u;by_cases hvo:aE (.mk 3 0 [.mk ka na sa,.mk kb nb sb])=true;rotate_left
 ·have hvo:=Bool.eq_false_iff.2 hvo;have hr0:r = .no false:=by
   rcases aM hs with ⟨b,h3,rfl⟩|⟨o,h3,h4⟩
   ·exact hBad _ _ h3 hvo
   ·cases hBad _ _ h3 hvo
  rw [hr0];exact zD C m cc k n A c fc ev i ka na sa a1 kb nb sb _ w (xJ h1) (xI h2) hvo hva (hv _ _ h2) hT.ok hr
 have key:∀rr,rec_ (.mk 3 0 [.mk ka na sa,.mk kb nb sb])=some rr->Calls prog 140 #[.agg #[.slice C m cc,.int .i64 k,.int .i64 n,.slice A 2 c,.func (.func fc) #[] ev]] w (qK w (aTi rr (.mk 3 0 [.mk ka na sa,.mk kb nb sb]))):=λrr hrr=>
  zF C m cc k n A c fc ev i ka na sa a1 kb nb sb rr _ w (xJ h1) (xI h2) hvo hT.ok hr (aD (hRec.out _ rr hrr hvo))
 rcases aM hs with ⟨b,h3,rfl⟩|⟨o,h3,hs⟩
 ·exact key _ h3
 ·rw [fV,Av hvo] at hs;obtain rfl:=(Option.some.inj hs).symm;exact key _ h3
theorem yZ (C:Ba)(m cc:Nat)(k n:Int)(A:Ba)(c fc:Nat)(ev:Array Value)(ka na:Int)(sa:List Tm)(a1 a2:Tm)(r:Rs Tm)(ty:Nat->Option (Rs Tm))(w:Bb)
  (hs : (bd (qJ (ty 0)) λi => bd (lC (ty 1) (.mk ka na sa)) λ_ => bd (lC (ty 2) (.mk ka na sa)) λ_ => some (.ok (.mk 2 i []))) = some r) (hT : TyX fc ev w ty) (hv : tF ty) (hva : aE (.mk ka na sa) = true) (hr : Rd w A 0 [.mk ka na sa, a1, a2]) :
  Calls prog 145 #[.agg #[.slice C m cc,.int .i64 k,.int .i64 n,.slice A 3 c,.func (.func fc) #[] ev]] w (qK w r):=by
 replace hva:=aD hva;obtain ⟨ba,oa,Aa,ca,rfl,i1,i2,i3,hla,ra0⟩:=mU hr;simp only [Nat.zero_mul,Nat.add_zero,Nat.one_mul,Nat.reduceMul] at i1 i2 i3;rcases aM hs with ⟨b,h1,rfl⟩|⟨l,h1,hs⟩
 ·have qb:=dP b;have qb2:(dB b==0)=false:=by cases b<;>decide
  replace h1:=aD h1;clear hs;go_enter func145,ntmps145;go_wp2_with (go_at_call 155;refine (gH C m cc k n _ 3 c fc ev 0 Ac _ ty _ h1.out (hT.below bw2) hv).mono ?_;rintro e w1 ⟨rfl,hb1⟩;have hZ1:=jI hb1;have hJ1:=((aC w 105 #[.slice C m cc,.int .i64 k,.int .i64 n,.slice (some ⟨ba,oa,none⟩) 3 c,.func (.func fc) #[] ev] rfl).alloc (.cells Zr 32)).keep hb1;have g1:Bw w w1:=bN bw2 hb1;have j0:=hJ1.at_ (i:=0) rfl;have j1:=hJ1.at_ (i:=1) rfl;have j2:=hJ1.at_ (i:=2) rfl;have j3:=hJ1.at_ (i:=3) rfl;have j4:=hJ1.at_ (i:=4) rfl);go_loopw [5,6] (λco s wr=>s = .int .i64 1/\co = .int .i64 (dB b)/\Blk wr (w.heap.size+1) Zr/\Bw w wr) (λco s _=>0)
  case atStart=>exact ⟨rfl,rfl,hZ1,g1⟩
  case round=>
   obtain ⟨rfl,rfl,hZr,gr⟩:=hrel;obtain ⟨d0,d1,d2,e0,e1,e2⟩:=bZ hZr;go_wp2_with fail;refine bodyPost_ret (v:=.tuple #[.agg Zr,.int .i64 (dB b)]) (by simp [results,results145,go_sem,d0,d1,d2]) rfl ⟨rfl,?_⟩;exact bV gr
 ·replace h1:=aD h1;go_enter func145,ntmps145;go_wp2_with (go_at_call 155;refine (gH C m cc k n _ 3 c fc ev 0 Ac _ ty _ h1.out (hT.below bw2) hv).mono ?_;rintro e w1 ⟨rfl,hb1⟩;have hZ1:=jI hb1;have hJ1:=((aC w 105 #[.slice C m cc,.int .i64 k,.int .i64 n,.slice (some ⟨ba,oa,none⟩) 3 c,.func (.func fc) #[] ev] rfl).alloc (.cells Zr 32)).keep hb1;have g1:Bw w w1:=bN bw2 hb1;have j0:=hJ1.at_ (i:=0) rfl;have j1:=hJ1.at_ (i:=1) rfl;have j2:=hJ1.at_ (i:=2) rfl;have j3:=hJ1.at_ (i:=3) rfl;have j4:=hJ1.at_ (i:=4) rfl);go_loopw [5,6] (λco s wr=>∃(j:Nat) (x:Int),s = .int .i64 j/\co = .int .i64 x/\Blk wr w.heap.size #[.slice C m cc,.int .i64 k,.int .i64 n,.slice (some ⟨ba,oa,none⟩) 3 c,.func (.func fc) #[] ev]/\Blk wr (w.heap.size+1) Zr/\Bw w wr/\
    ((x=0/\((j=1/\Hid ((bd (lC (ty 1) (.mk ka na sa)) λ_=>bd (lC (ty 2) (.mk ka na sa)) λ_=>some (.ok (.mk 2 l [])))=some r))\/(j=2/\Hid ((bd (lC (ty 2) (.mk ka na sa)) λ_=>some (.ok (.mk 2 l [])))=some r))\/(j=3/\r = .ok (.mk 2 l []))))\/((j=2\/j=3)/\∃b,x=dB b/\r = .no b)))
   (λco s _=>3 - (intOf s).toNat)
  case atStart=>exact ⟨1,0,rfl,rfl,hJ1,hZ1,g1,.inl ⟨rfl,.inl ⟨rfl,aD hs⟩⟩⟩
  case round=>
   obtain ⟨j,x,rfl,rfl,hJr,hZr,gr,hcase⟩:=hrel;clear hs;rcases hcase with ⟨rfl,⟨rfl,hs⟩|⟨rfl,hs⟩|⟨rfl,rfl⟩⟩|⟨hj,b,rfl,rfl⟩
   ·rcases aM hs.out with ⟨b,h2,rfl⟩|⟨u,h2,hs⟩
    all_goals
     replace h2:=aD h2;go_upto_region 5 with fail
     have u0:=aF (hJr.at_ (i:=0) rfl);have u1:=aF (hJr.at_ (i:=1) rfl);have u2:=aF (hJr.at_ (i:=2) rfl);have u3:=aF (hJr.at_ (i:=3) rfl);have u4:=aF (hJr.at_ (i:=4) rfl);obtain ⟨y0,y1,y2⟩:=fR gr i1 i2 i3;refine eK wr [8] [0,1,2,3,4,5,6] 9 2 (lT:=[_,_,_,_,_,_,_]) ?_;intro q0 bq0;refine bU (aD ?_);refine aZ 7 ?_
    ·go_wp2_with (go_at_call 138;refine (iA C m cc k n _ 3 c fc ev 1 Ac ka na sa Aa ca _ ty _ h2.out ((hT.below gr).below bq0) hv hva.out ((ra0.below gr).below bq0)).mono ?_;rintro e q1 ⟨he,hbq1⟩;obtain rfl:e = .returned (.int .i64 (dB b)):=he);refine aV bq0 hbq1 ?_;intro bq1 lq1;refine cK [8] (lB:=[_]) ?_;go_wp2_with fail;go_roundw
     case rel=>exact ⟨2,_,rfl,rfl,hJr.keep bq1,hZr.keep bq1,gr.trans (bq1.mono gr.size),.inr ⟨.inl rfl,b,rfl,rfl⟩⟩
     case measure=>simp [intOf]
    ·go_wp2_with (go_at_call 138;refine (iA C m cc k n _ 3 c fc ev 1 Ac ka na sa Aa ca _ ty _ h2.out ((hT.below gr).below bq0) hv hva.out ((ra0.below gr).below bq0)).mono ?_;rintro e q1 ⟨he,hbq1⟩;obtain rfl:e = .returned (.int .i64 0):=he);refine aV bq0 hbq1 ?_;intro bq1 lq1;refine cK [8] (lB:=[_]) ?_;go_wp2_with fail;go_roundw
     case rel=>exact ⟨2,_,rfl,rfl,hJr.keep bq1,hZr.keep bq1,gr.trans (bq1.mono gr.size),.inl ⟨rfl,.inr (.inl ⟨rfl,aD hs⟩)⟩⟩
     case measure=>simp [intOf]
   ·rcases aM hs.out with ⟨b,h2,rfl⟩|⟨u,h2,hs⟩
    all_goals
     replace h2:=aD h2;go_upto_region 5 with fail
     have u0:=aF (hJr.at_ (i:=0) rfl);have u1:=aF (hJr.at_ (i:=1) rfl);have u2:=aF (hJr.at_ (i:=2) rfl);have u3:=aF (hJr.at_ (i:=3) rfl);have u4:=aF (hJr.at_ (i:=4) rfl);obtain ⟨y0,y1,y2⟩:=fR gr i1 i2 i3;refine eK wr [8] [0,1,2,3,4,5,6] 9 2 (lT:=[_,_,_,_,_,_,_]) ?_;intro q0 bq0;refine bU (aD ?_);refine aZ 7 ?_
    ·go_wp2_with (go_at_call 138;refine (iA C m cc k n _ 3 c fc ev 2 Ac ka na sa Aa ca _ ty _ h2.out ((hT.below gr).below bq0) hv hva.out ((ra0.below gr).below bq0)).mono ?_;rintro e q1 ⟨he,hbq1⟩;obtain rfl:e = .returned (.int .i64 (dB b)):=he);refine aV bq0 hbq1 ?_;intro bq1 lq1;refine cK [8] (lB:=[_]) ?_;go_wp2_with fail;go_roundw
     case rel=>exact ⟨3,_,rfl,rfl,hJr.keep bq1,hZr.keep bq1,gr.trans (bq1.mono gr.size),.inr ⟨.inr rfl,b,rfl,rfl⟩⟩
     case measure=>simp [intOf]
    ·go_wp2_with (go_at_call 138;refine (iA C m cc k n _ 3 c fc ev 2 Ac ka na sa Aa ca _ ty _ h2.out ((hT.below gr).below bq0) hv hva.out ((ra0.below gr).below bq0)).mono ?_;rintro e q1 ⟨he,hbq1⟩;obtain rfl:e = .returned (.int .i64 0):=he);refine aV bq0 hbq1 ?_;intro bq1 lq1;refine cK [8] (lB:=[_]) ?_;go_wp2_with fail;go_roundw
     case rel=>exact ⟨3,_,rfl,rfl,hJr.keep bq1,hZr.keep bq1,gr.trans (bq1.mono gr.size),.inl ⟨rfl,.inr (.inr ⟨rfl,(Option.some.inj hs).symm⟩)⟩⟩
     case measure=>simp [intOf]
   ·go_wp2_with (go_at_call 137;refine (qG _ _).mono ?_;rintro e w3 ⟨rfl,hb3⟩;have hZ3:=hZr.keep hb3;have g3:=gr.trans (hb3.mono gr.size);obtain ⟨d0,d1,d2,e0,e1,e2⟩:=bZ hZ3);refine bodyPost_ret (v:=.tuple #[.agg (Ro 2 l none 0 0),.int .i64 0]) (by simp [results,results145,go_sem,d0,d1,d2]) rfl ⟨none,0,rfl,by simp,Rd.nil,?_⟩;exact bV g3
   ·have qb:=dP b;have qb2:(dB b==0)=false:=by cases b<;>decide
    obtain ⟨d0,d1,d2,e0,e1,e2⟩:=bZ hZr;rcases hj with rfl|rfl
    all_goals
     go_wp2_with fail;refine bodyPost_ret (v:=.tuple #[.agg Zr,.int .i64 (dB b)]) (by simp [results,results145,go_sem,d0,d1,d2]) rfl ⟨rfl,?_⟩;exact bV gr
end Go.Proofs.YtjlaenhcemacdaaGreat
