/- Parts of the proof. No condition. -/
import Derived.Test.YtjlaenhcemacdaaGreatK21
import Derived.Test.YtjlaenhcemacdaaGreatK23
open Go.Proofs.Tryz
namespace Go.Proofs.YtjlaenhcemacdaaGreat
open Go.RowKit
set_option maxHeartbeats 16000000
set_option maxRecDepth 100000
set_option linter.unusedSimpArgs false
set_option linter.unusedVariables false
theorem lM {ty:Nat→Option (Rs Tm)}{i:Nat}{t:Tm}{u:Unit}(h:kF (ty i) t=some (.ok u)):aDi (okO ty i) t=true:=by
 rcases aL h with ⟨b,_,h2⟩|⟨s,h1,h2⟩
 ·cases h2
 ·rw [uV h1];exact (aGo (Option.some.inj h2)).1
theorem zQ {ty:Nat→Option (Rs Tm)}{i:Nat}{t:Tm}{u:Unit}(h:faV (ty i) t=some (.ok u)):aEc (okO ty i) t=true:=by
 rcases aL h with ⟨b,_,h2⟩|⟨s,h1,h2⟩
 ·cases h2
 ·rcases aL h2 with ⟨b,_,h4⟩|⟨v,h3,h4⟩
  ·cases h4
  ·rcases aL h4 with ⟨b,_,h6⟩|⟨o,h5,h6⟩
   ·cases h6
   ·unfold aHj at h6
    split at h6
    ·rename_i ho
     have h7:=aBb (Option.some.inj h5) ho;unfold aEc
     rw [oX h1];simp only
     rw [(aGo (Option.some.inj h3)).1,h7];rfl
    ·injection h6 with h6;cases h6
theorem jO {ka na kb nb:Int}{sa sb:List Tm}(h1:aG sa≤400)(h2:aG sb≤400):aG [.mk ka na sa,.mk kb nb sb]≤1000000:=by
 simp only [aG,Tm.size];omega
theorem aHf {p:Tm}(hp:aE p=true)(h:aE (mH p)=true):∃k1 n1 s1 k2 n2 s2,mH p = .mk 3 0 [.mk 6 0 [],.mk 3 0 [.mk 5 0 [.mk k1 n1 s1,.mk 1 0 []],.mk 5 0 [.mk k2 n2 s2,.mk 8 0 [.mk 1 1 []]]]]∧bD 1 0 p=some (.mk k1 n1 s1)∧bD 2 0 p=some (.mk k2 n2 s2):=by
 have h1:=aO h (t:=.mk 3 0 [dZ (bT 1 0 p) (.mk 1 0 []),dZ (bT 2 0 p) (.mk 8 0 [.mk 1 1 []])]) (by simp);have h2:=aO (aO h1 (t:=dZ (bT 1 0 p) (.mk 1 0 [])) (by simp)) (t:=bT 1 0 p) (by simp);have h3:=aO (aO h1 (t:=dZ (bT 2 0 p) (.mk 8 0 [.mk 1 1 []])) (by simp)) (t:=bT 2 0 p) (by simp);have e1:=nB (by omega) hp h2;have e2:=nB (by omega) hp h3;unfold mH
 cases hx:bT 1 0 p with
 | mk k1 n1 s1=>
  cases hy:bT 2 0 p with
  | mk k2 n2 s2=>exact ⟨k1,n1,s1,k2,n2,s2,rfl,by rw [e1,hx],by rw [e2,hy]⟩
theorem qN:aE (.mk 6 0 [])=true:=by decide +kernel
theorem vI (C:Option Addr)(m cc:Nat)(k n:Int)(A:Option Addr)(c fc:Nat)(ev:Array Value)(kp np:Int)(sp:List Tm)(t1 t2:Tm)(ka na:Int)(sa:List Tm)(r:Rs Tm)(ty:Nat→Option (Rs Tm))(w:World)
  (hs : (bd (faV (ty 0) nT) fun _ => vb (dZ (.mk kp np sp) (.mk 7 0 [])) (bd (kF (ty 1) (dZ (.mk kp np sp) (.mk 7 0 []))) fun _ => vb (mH (.mk kp np sp)) (bd (kF (ty 2) (mH (.mk kp np sp))) fun _ => bd (kF (ty 3) nT) fun _ => fL (dZ (.mk kp np sp) (.mk ka na sa))))) = some r)
  (hT : TyX fc ev w ty) (hv : TyV ty) (hvp : aE (.mk kp np sp) = true) (hva4 : aE (.mk ka na sa) = true) (hr : Rd w A 0 [.mk kp np sp, t1, t2, .mk ka na sa]) :
  Calls prog 144 #[.agg #[.slice C m cc,.int .i64 k,.int .i64 n,.slice A 4 c,.func (.func fc) #[] ev]] w (pK w r):=by
 replace hs:=aD hs;replace hvp:=aD hvp;replace hva4:=aD hva4;obtain ⟨bp,op,Ap,cp,rfl,i1,i2,i3,hlp,rp0⟩:=oJ hr;obtain ⟨Aa,ca,z1,z2,z3,hla,ra0⟩:=kd3 hr;simp only [Nat.zero_mul,Nat.add_zero,Nat.one_mul,Nat.reduceMul] at i1 i2 i3 z1 z2 z3
 have lbp:=mI _ _ i1;go_enter func144,ntmps144;go_upto_region 2 with fail
 refine aRv (show Blk _ w.heap.size #[.slice C m cc,.int .i64 k,.int .i64 n,.slice (some ⟨bp,op,none⟩) 4 c,.func (.func fc) #[] ev] from (((aC _ 105 _ rfl).alloc _).alloc _)) (show Blk _ (w.heap.size+1) Zr from ((aC _ 32 _ (by simp)).alloc _)) (show Blk _ (w.heap.size+1+1) (Ro kp np Ap sp.length cp) from (aC _ 32 _ (by simp))) bw3 ?_;intro wx hJx hZx hPx gx;have u0:=aF (hJx.at_ (i:=0) rfl);have u1:=aF (hJx.at_ (i:=1) rfl);have u2:=aF (hJx.at_ (i:=2) rfl);have u3:=aF (hJx.at_ (i:=3) rfl);have u4:=aF (hJx.at_ (i:=4) rfl);refine eT wx [3] [0] 4 3 (lT:=[_]) ?_;intro q0 bq0;refine bZ (aD ?_);refine bB 1 ?_
 ·go_wp2_with (go_at_call 71;refine (aP 6 _ ⟨_,_,_,rfl⟩ _).mono ?_;rintro e q1 ⟨rfl,hbq1⟩)
  refine aX bq0 hbq1 ?_;intro bq1 lq1;refine bB 2 ?_
  ·rcases aL hs.out with ⟨b,hf,rfl⟩|⟨u,hf,hs⟩
   ·have qb:=dO b;replace hf:=aD hf;go_wp2_with (go_at_call 156;refine (tK C m cc k n _ 4 c fc ev 0 (by omega) 6 0 [] none 0 _ ty _ hf.out ((hT.below gx).below bq1) hv qN Rd.nil).mono ?_;rintro e q2 ⟨he,hbq2⟩;obtain rfl:e = .returned (.int .i64 (cX b)):=he)
    refine aX bq1 hbq2 ?_;intro bq2 lq2;refine cP [3] (lB:=[_]) ?_;have hZ2:=hZx.keep bq2;have g2:=gx.trans (bq2.mono gx.size);obtain ⟨d0,d1,d2,e0,e1,e2⟩:=bW hZ2;go_wp2_with fail
    refine bodyPost_ret (v:=.tuple #[.agg Zr,.int .i64 (cX b)]) (by simp [results,results144,go_sem,d0,d1,d2]) rfl ⟨rfl,?_⟩;exact bP g2
   ·rcases pF hs with ⟨hva,hs⟩|⟨hva,rfl⟩
    ·skip
     replace hva:=aD (show aE (.mk 5 0 [.mk kp np sp,.mk 7 0 []])=true from hva);replace hf:=aD (show aEc (okO ty 0) (.mk 6 0 [])=true from zQ hf);replace hs:=aD hs;go_wp2_with (go_at_call 156;refine (kX C m cc k n _ 4 c fc ev 0 (by omega) 6 0 [] none 0 _ _ hf.out ((hT.ok.below gx).below bq1) Rd.nil).mono ?_;rintro e q2 ⟨rfl,hbq2⟩)
     refine aX bq1 hbq2 ?_;intro bq2 lq2;refine cP [3] (lB:=[_]) ?_;go_upto_region 5 with fail
     refine aW ?_;intro wu hwu;have hJu:=(show Blk wu w.heap.size _ by rw [hwu];exact hJx.keep bq2);have hZu:=(show Blk wu (w.heap.size+1) _ by rw [hwu];exact hZx.keep bq2);have hPu:Blk wu (w.heap.size+1+1) (Ro kp np Ap sp.length cp):=by rw [hwu];exact hPx.keep bq2
     have gu:Bw w wu:=by rw [hwu];exact gx.trans (bq2.mono gx.size)
     clear hwu;have rpu:=rp0.below gu;obtain ⟨v0,v1,v2⟩:=jR hPu;go_cut [6,7] (fun vp vc wy=>∃(gz:Nat) (Az:Option Addr) (cz:Nat),vp = .pointer (some ⟨gz,0,none⟩)∧vc = .int .i64 0∧Blk wy gz (Ro 5 0 Az 2 cz)∧Rd wy Az 0 [.mk kp np sp,.mk 7 0 []]∧Bw wu wy∧wu.heap.size≤gz)
     case first=>
      refine eT wu [5,6,7,9,10] [0] 11 10 (lT:=[_]) ?_;intro q0 bq0;refine bZ (aD ?_);refine nK 1 8 ?_ ?_
      ·go_wp2_with (go_at_call 71;refine (aP 7 _ ⟨_,_,_,rfl⟩ _).mono ?_;rintro e q1 ⟨rfl,hbq1⟩)
       refine aX bq0 hbq1 ?_;intro bq1 lq1;refine nK 2 8 ?_ ?_
       ·go_wp2_with fail
        refine iD ?_;intro q2 hbq2 zq2 seq2;have rq2:Rd q2 (some ⟨q1.heap.size,0,none⟩) 0 [.mk kp np sp,.mk 7 0 []]:=dP (s0:=sp) (s1:=[]) zq2 hlp (by simp) ((rpu.below bq1).below hbq2) Rd.nil;refine aX bq1 hbq2 ?_;intro bq2 lq2;refine nK 3 8 ?_ ?_
        ·go_wp2_with (go_at_call 71;refine (aP 5 _ ⟨_,_,_,rfl⟩ _).mono ?_;rintro e q3 ⟨rfl,hbq3⟩)
         have Pq3:=rq2.below hbq3;refine aX bq2 hbq3 ?_;intro bq3 lq3;refine nK 4 8 ?_ ?_
         ·go_wp2_with (go_at_call 99;refine (cJ 5 0 [.mk kp np sp,.mk 7 0 []] _ 2 _ hva.out Pq3).mono ?_;rintro e q4 ⟨rfl,hbq4⟩)
          have Pq4:=Pq3.below hbq4;refine aX bq3 hbq4 ?_;intro bq4 lq4;refine fB [5,6,7] 3 (lT:=[_,_,_]) ?_;refine bZ (aD ?_);refine bB 8 ?_
          ·go_wp2_with fail
           refine iD ?_;intro q5 hbq5 zq5 seq5;have Pq5:=Pq4.below hbq5;refine aX bq4 hbq5 ?_;intro bq5 lq5;refine cP [9,10] (lB:=[_,_]) ?_;obtain ⟨d0,d1,d2,e0,e1,e2⟩:=bW zq5;have szb:wu.heap.size≤q4.heap.size:=by first|exact bq0.size|exact bq4.size
           go_wp2_with fail
           go_meet
           exact ⟨q4.heap.size,some ⟨q1.heap.size,0,none⟩,2,rfl,rfl,((zq5.set_ 0 _).set_ 1 _).set_ 2 _,bQ zq5 hva.out Pq5 _ _ _,((bq5.setCell szb _).setCell szb _).setCell szb _,szb⟩
         ·go_wp2_with fail
          refine iD ?_;intro q6 hbq6 zq6 seq6;have Pq6:=Pq3.below hbq6;refine aX bq3 hbq6 ?_;intro bq6 lq6;refine bB 4 ?_
          ·go_wp2_with (go_at_call 99;refine (cJ 5 0 [.mk kp np sp,.mk 7 0 []] _ 2 _ hva.out Pq6).mono ?_;rintro e q7 ⟨rfl,hbq7⟩)
           have Pq7:=Pq6.below hbq7;have Zq7:=zq6.keep hbq7;refine aX bq6 hbq7 ?_;intro bq7 lq7;refine fB [5,6,7] 2 (lT:=[_,_,_]) ?_;refine bZ (aD ?_);refine cP [9,10] (lB:=[_,_]) ?_;obtain ⟨d0,d1,d2,e0,e1,e2⟩:=bW Zq7;have szb:wu.heap.size≤q3.heap.size:=by first|exact bq0.size|exact bq3.size
           go_wp2_with fail
           go_meet
           exact ⟨q3.heap.size,some ⟨q1.heap.size,0,none⟩,2,rfl,rfl,((Zq7.set_ 0 _).set_ 1 _).set_ 2 _,bQ Zq7 hva.out Pq7 _ _ _,((bq7.setCell szb _).setCell szb _).setCell szb _,szb⟩
        ·go_wp2_with fail
         refine iD ?_;intro q8 hbq8 zq8 seq8;have Pq8:=rq2.below hbq8;refine aX bq2 hbq8 ?_;intro bq8 lq8;refine bB 3 ?_
         ·go_wp2_with (go_at_call 71;refine (aP 5 _ ⟨_,_,_,rfl⟩ _).mono ?_;rintro e q9 ⟨rfl,hbq9⟩)
          have Pq9:=Pq8.below hbq9;have Zq9:=zq8.keep hbq9;refine aX bq8 hbq9 ?_;intro bq9 lq9;refine bB 4 ?_
          ·go_wp2_with (go_at_call 99;refine (cJ 5 0 [.mk kp np sp,.mk 7 0 []] _ 2 _ hva.out Pq9).mono ?_;rintro e q10 ⟨rfl,hbq10⟩)
           have Pq10:=Pq9.below hbq10;have Zq10:=Zq9.keep hbq10;refine aX bq9 hbq10 ?_;intro bq10 lq10;refine fB [5,6,7] 2 (lT:=[_,_,_]) ?_;refine bZ (aD ?_);refine cP [9,10] (lB:=[_,_]) ?_;obtain ⟨d0,d1,d2,e0,e1,e2⟩:=bW Zq10;have szb:wu.heap.size≤q2.heap.size:=by first|exact bq0.size|exact bq2.size
           go_wp2_with fail
           go_meet
           exact ⟨q2.heap.size,some ⟨q1.heap.size,0,none⟩,2,rfl,rfl,((Zq10.set_ 0 _).set_ 1 _).set_ 2 _,bQ Zq10 hva.out Pq10 _ _ _,((bq10.setCell szb _).setCell szb _).setCell szb _,szb⟩
       ·go_wp2_with fail
        refine iD ?_;intro q11 hbq11 zq11 seq11;refine aX bq1 hbq11 ?_;intro bq11 lq11;refine bB 2 ?_
        ·go_wp2_with fail
         refine iD ?_;intro q12 hbq12 zq12 seq12;have rq12:Rd q12 (some ⟨q11.heap.size,0,none⟩) 0 [.mk kp np sp,.mk 7 0 []]:=dP (s0:=sp) (s1:=[]) zq12 hlp (by simp) ((rpu.below bq11).below hbq12) Rd.nil;have Zq12:=zq11.keep hbq12;refine aX bq11 hbq12 ?_;intro bq12 lq12;refine bB 3 ?_
         ·go_wp2_with (go_at_call 71;refine (aP 5 _ ⟨_,_,_,rfl⟩ _).mono ?_;rintro e q13 ⟨rfl,hbq13⟩)
          have Zq13:=Zq12.keep hbq13;have Pq13:=rq12.below hbq13;refine aX bq12 hbq13 ?_;intro bq13 lq13;refine bB 4 ?_
          ·go_wp2_with (go_at_call 99;refine (cJ 5 0 [.mk kp np sp,.mk 7 0 []] _ 2 _ hva.out Pq13).mono ?_;rintro e q14 ⟨rfl,hbq14⟩)
           have Zq14:=Zq13.keep hbq14;have Pq14:=Pq13.below hbq14;refine aX bq13 hbq14 ?_;intro bq14 lq14;refine fB [5,6,7] 2 (lT:=[_,_,_]) ?_;refine bZ (aD ?_);refine cP [9,10] (lB:=[_,_]) ?_;obtain ⟨d0,d1,d2,e0,e1,e2⟩:=bW Zq14;have szb:wu.heap.size≤q1.heap.size:=by first|exact bq0.size|exact bq1.size
           go_wp2_with fail
           go_meet
           exact ⟨q1.heap.size,some ⟨q11.heap.size,0,none⟩,2,rfl,rfl,((Zq14.set_ 0 _).set_ 1 _).set_ 2 _,bQ Zq14 hva.out Pq14 _ _ _,((bq14.setCell szb _).setCell szb _).setCell szb _,szb⟩
      ·go_wp2_with fail
       refine iD ?_;intro q15 hbq15 zq15 seq15;refine aX bq0 hbq15 ?_;intro bq15 lq15;refine bB 1 ?_
       ·go_wp2_with (go_at_call 71;refine (aP 7 _ ⟨_,_,_,rfl⟩ _).mono ?_;rintro e q16 ⟨rfl,hbq16⟩)
        have Zq16:=zq15.keep hbq16;refine aX bq15 hbq16 ?_;intro bq16 lq16;refine bB 2 ?_
        ·go_wp2_with fail
         refine iD ?_;intro q17 hbq17 zq17 seq17;have rq17:Rd q17 (some ⟨q16.heap.size,0,none⟩) 0 [.mk kp np sp,.mk 7 0 []]:=dP (s0:=sp) (s1:=[]) zq17 hlp (by simp) ((rpu.below bq16).below hbq17) Rd.nil;have Zq17:=Zq16.keep hbq17;refine aX bq16 hbq17 ?_;intro bq17 lq17;refine bB 3 ?_
         ·go_wp2_with (go_at_call 71;refine (aP 5 _ ⟨_,_,_,rfl⟩ _).mono ?_;rintro e q18 ⟨rfl,hbq18⟩)
          have Zq18:=Zq17.keep hbq18;have Pq18:=rq17.below hbq18;refine aX bq17 hbq18 ?_;intro bq18 lq18;refine bB 4 ?_
          ·go_wp2_with (go_at_call 99;refine (cJ 5 0 [.mk kp np sp,.mk 7 0 []] _ 2 _ hva.out Pq18).mono ?_;rintro e q19 ⟨rfl,hbq19⟩)
           have Zq19:=Zq18.keep hbq19;have Pq19:=Pq18.below hbq19;refine aX bq18 hbq19 ?_;intro bq19 lq19;refine fB [5,6,7] 2 (lT:=[_,_,_]) ?_;refine bZ (aD ?_);refine cP [9,10] (lB:=[_,_]) ?_;obtain ⟨d0,d1,d2,e0,e1,e2⟩:=bW Zq19;have szb:wu.heap.size≤q0.heap.size:=by first|exact bq0.size|exact bq0.size
           go_wp2_with fail
           go_meet
           exact ⟨q0.heap.size,some ⟨q16.heap.size,0,none⟩,2,rfl,rfl,((Zq19.set_ 0 _).set_ 1 _).set_ 2 _,bQ Zq19 hva.out Pq19 _ _ _,((bq19.setCell szb _).setCell szb _).setCell szb _,szb⟩
     case rest=>
      obtain ⟨gz,Az,cz,rfl,rfl,hTz,rz,hxy,hgz⟩:=hcut;have gy:=gu.trans (hxy.mono gu.size);have hJy:=hJu.keep hxy;have hZy:=hZu.keep hxy;have hPy:=hPu.keep hxy;have hgw:w.heap.size≤gz:=Nat.le_trans gu.size hgz;have lJ:=hJu.lt;have lZ:=hZu.lt;have lP:=hPu.lt;have hn1:w.heap.size≠gz:=by omega
      have hn2:w.heap.size+1≠gz:=by omega
      have hn3:(w.heap.size+1+1)≠gz:=by omega
      have hn1':gz≠w.heap.size:=by omega
      obtain ⟨t0,t1,t2⟩:=hTz.three;have j0:=hJy.at_ (i:=0) rfl;have j1:=hJy.at_ (i:=1) rfl;have j2:=hJy.at_ (i:=2) rfl;have j3:=hJy.at_ (i:=3) rfl;have j4:=hJy.at_ (i:=4) rfl;clear v0 v1 v2;have hgy:=gy;rcases aL hs.out with ⟨b,h1c,rfl⟩|⟨u,h1c,hs⟩
      ·have qb:=dO b;replace h1c:=aD h1c;go_wp2_with (go_at_call 142;refine (lV C m cc k n _ 4 c fc ev 1 (by omega) 5 0 [.mk kp np sp,.mk 7 0 []] Az cz _ ty _ h1c.out (hT.below gy) hv hva.out rz).mono ?_;rintro e w5 ⟨he,hb5⟩;obtain rfl:e = .returned (.int .i64 (cX b)):=he;have hZ5:=hZy.keep hb5;have g5:=gy.trans (hb5.mono gy.size);obtain ⟨d0,d1,d2,e0,e1,e2⟩:=bW hZ5)
       refine bodyPost_ret (v:=.tuple #[.agg Zr,.int .i64 (cX b)]) (by simp [results,results144,go_sem,d0,d1,d2]) rfl ⟨rfl,?_⟩;exact bP g5
      rcases pF hs with ⟨hvst,hs⟩|⟨hvst,rfl⟩
      rotate_left
      ·have qb:=dO false;replace h1c:=aD (lM h1c);replace hvst:=aD hvst;clear hs;go_wp2_with (first
        | (go_at_call 142;have _t:=tok6;refine (kI C m cc k n _ 4 c fc ev 2 (by omega) false 0 0 none 0 0 _).mono ?_;rintro e w7 ⟨he,hb7⟩;obtain rfl:e = .returned (.int .i64 (cX false)):=he;have hZ7:=(((hZ6.far (p:=⟨gz,0,none⟩) hn2 _).far (p:=⟨gz,1,none⟩) hn2 _).far (p:=⟨gz,2,none⟩) hn2 _).keep hb7;have g7:=(((g6.setCell (p:=⟨gz,0,none⟩) hgw _).setCell (p:=⟨gz,1,none⟩) hgw _).setCell (p:=⟨gz,2,none⟩) hgw _).trans (hb7.mono (((g6.setCell (p:=⟨gz,0,none⟩) hgw _).setCell (p:=⟨gz,1,none⟩) hgw _).setCell (p:=⟨gz,2,none⟩) hgw _).size);obtain ⟨d0,d1,d2,e0,e1,e2⟩:=bW hZ7)
        | (go_at_call 157;have _t:=tok5;refine (xF kp np sp Ap cp _ hvp.out hvst.out (rp0.below g5)).mono ?_;rintro e w6 ⟨rfl,hb6⟩;have hJ6:=hJ5.keep hb6;have hZ6:=hZ5.keep hb6;have hG6:=hG5.keep hb6;have g6:=g5.trans (hb6.mono g5.size);clear j0 j1 j2 j3 j4;have j0:=hJ6.at_ (i:=0) rfl;have j1:=hJ6.at_ (i:=1) rfl;have j2:=hJ6.at_ (i:=2) rfl;have j3:=hJ6.at_ (i:=3) rfl;have j4:=hJ6.at_ (i:=4) rfl;obtain ⟨t0,t1,t2,f0,f1,f2⟩:=bW hG6;have tok6:=trivial)
        | (go_at_call 142;refine (iK C m cc k n _ 4 c fc ev 1 (by omega) 5 0 [.mk kp np sp,.mk 7 0 []] Az cz _ _ h1c.out (hT.ok.below gy) rz).mono ?_;rintro e w5 ⟨rfl,hb5⟩;have hJ5:=hJy.keep hb5;have hZ5:=hZy.keep hb5;have hP5:=hPy.keep hb5;have hG5:=hTz.keep hb5;have g5:=gy.trans (hb5.mono gy.size);clear t0 t1 t2;obtain ⟨p0,p1,p2⟩:=hP5.three;have tok5:=trivial))
       refine bodyPost_ret (v:=.tuple #[.agg Zr,.int .i64 (cX false)]) (by simp [results,results144,go_sem,d0,d1,d2]) rfl ⟨rfl,?_⟩;exact bP g7
      replace h1c:=aD (lM h1c);have hw:=aD (aHf hvp.out hvst);obtain ⟨k1,n1,s1,k2,n2,s2,hst,hs1,hs2⟩:=hw.out;rw [hst] at hs hvst;replace hvst:=aD hvst;replace hs1:=aD hs1;replace hs2:=aD hs2;clear hst hw;rcases aL hs with ⟨b,h2c,rfl⟩|⟨u,h2c,hs⟩
      ·have qb:=dO b;replace h2c:=aD h2c;clear hs;go_wp2_with (first
        | (go_at_call 142;have _t:=tok6;refine (lV C m cc k n _ 4 c fc ev 2 (by omega) 3 0 [.mk 6 0 [],.mk 3 0 [.mk 5 0 [.mk k1 n1 s1,.mk 1 0 []],.mk 5 0 [.mk k2 n2 s2,.mk 8 0 [.mk 1 1 []]]]] A6 c6 _ ty _ h2c.out (hT.below (((g6.setCell (p:=⟨gz,0,none⟩) hgw _).setCell (p:=⟨gz,1,none⟩) hgw _).setCell (p:=⟨gz,2,none⟩) hgw _)) hv hvst.out r6s).mono ?_;rintro e w7 ⟨he,hb7⟩;obtain rfl:e = .returned (.int .i64 (cX b)):=he;have hJ7:=(((hJ6.far (p:=⟨gz,0,none⟩) hn1 _).far (p:=⟨gz,1,none⟩) hn1 _).far (p:=⟨gz,2,none⟩) hn1 _).keep hb7;have hZ7:=(((hZ6.far (p:=⟨gz,0,none⟩) hn2 _).far (p:=⟨gz,1,none⟩) hn2 _).far (p:=⟨gz,2,none⟩) hn2 _).keep hb7;have hP7:=(((hP6.far (p:=⟨gz,0,none⟩) hn3 _).far (p:=⟨gz,1,none⟩) hn3 _).far (p:=⟨gz,2,none⟩) hn3 _).keep hb7;have g7:=(((g6.setCell (p:=⟨gz,0,none⟩) hgw _).setCell (p:=⟨gz,1,none⟩) hgw _).setCell (p:=⟨gz,2,none⟩) hgw _).trans (hb7.mono (((g6.setCell (p:=⟨gz,0,none⟩) hgw _).setCell (p:=⟨gz,1,none⟩) hgw _).setCell (p:=⟨gz,2,none⟩) hgw _).size);obtain ⟨d0,d1,d2,e0,e1,e2⟩:=bW hZ7)
        | (go_at_call 157;have _t:=tok5;refine (pZ kp np sp Ap cp k1 n1 s1 k2 n2 s2 _ hvp.out hs1.out hs2.out hvst.out (rp0.below g5)).mono ?_;rintro e w6 ⟨A6,c6,rfl,hl6,r6,hb6⟩;have hJ6:=hJ5.keep hb6;have hZ6:=hZ5.keep hb6;have hP6:=hP5.keep hb6;have hG6:=hG5.keep hb6;have g6:=g5.trans (hb6.mono g5.size);clear j0 j1 j2 j3 j4;have j0:=hJ6.at_ (i:=0) rfl;have j1:=hJ6.at_ (i:=1) rfl;have j2:=hJ6.at_ (i:=2) rfl;have j3:=hJ6.at_ (i:=3) rfl;have j4:=hJ6.at_ (i:=4) rfl;obtain ⟨t0,t1,t2,f0,f1,f2⟩:=bW hG6;have lG:=hG5.lt;have r6s:=(((r6.setCell (a:=⟨gz,0,none⟩) (by simp;omega) (.int .i64 3)).setCell (a:=⟨gz,1,none⟩) (by simp;omega) (.int .i64 0)).setCell (a:=⟨gz,2,none⟩) (by simp;omega) (.slice A6 2 c6)).rd;have tok6:=trivial)
        | (go_at_call 142;refine (iK C m cc k n _ 4 c fc ev 1 (by omega) 5 0 [.mk kp np sp,.mk 7 0 []] Az cz _ _ h1c.out (hT.ok.below gy) rz).mono ?_;rintro e w5 ⟨rfl,hb5⟩;have hJ5:=hJy.keep hb5;have hZ5:=hZy.keep hb5;have hP5:=hPy.keep hb5;have hG5:=hTz.keep hb5;have g5:=gy.trans (hb5.mono gy.size);clear t0 t1 t2;obtain ⟨p0,p1,p2⟩:=hP5.three;have tok5:=trivial))
       refine bodyPost_ret (v:=.tuple #[.agg Zr,.int .i64 (cX b)]) (by simp [results,results144,go_sem,d0,d1,d2]) rfl ⟨rfl,?_⟩;exact bP g7
      replace h2c:=aD (lM h2c);replace hs:=aD hs;go_upto_region 13 with (first
       | (go_at_call 142;have _t:=tok6;refine (iK C m cc k n _ 4 c fc ev 2 (by omega) 3 0 [.mk 6 0 [],.mk 3 0 [.mk 5 0 [.mk k1 n1 s1,.mk 1 0 []],.mk 5 0 [.mk k2 n2 s2,.mk 8 0 [.mk 1 1 []]]]] A6 c6 _ _ h2c.out (hT.ok.below (((g6.setCell (p:=⟨gz,0,none⟩) hgw _).setCell (p:=⟨gz,1,none⟩) hgw _).setCell (p:=⟨gz,2,none⟩) hgw _)) r6s).mono ?_;rintro e w7 ⟨rfl,hb7⟩;have hJ7:=(((hJ6.far (p:=⟨gz,0,none⟩) hn1 _).far (p:=⟨gz,1,none⟩) hn1 _).far (p:=⟨gz,2,none⟩) hn1 _).keep hb7;have hZ7:=(((hZ6.far (p:=⟨gz,0,none⟩) hn2 _).far (p:=⟨gz,1,none⟩) hn2 _).far (p:=⟨gz,2,none⟩) hn2 _).keep hb7;have hP7:=(((hP6.far (p:=⟨gz,0,none⟩) hn3 _).far (p:=⟨gz,1,none⟩) hn3 _).far (p:=⟨gz,2,none⟩) hn3 _).keep hb7;have g7:=(((g6.setCell (p:=⟨gz,0,none⟩) hgw _).setCell (p:=⟨gz,1,none⟩) hgw _).setCell (p:=⟨gz,2,none⟩) hgw _).trans (hb7.mono (((g6.setCell (p:=⟨gz,0,none⟩) hgw _).setCell (p:=⟨gz,1,none⟩) hgw _).setCell (p:=⟨gz,2,none⟩) hgw _).size))
       | (go_at_call 157;have _t:=tok5;refine (pZ kp np sp Ap cp k1 n1 s1 k2 n2 s2 _ hvp.out hs1.out hs2.out hvst.out (rp0.below g5)).mono ?_;rintro e w6 ⟨A6,c6,rfl,hl6,r6,hb6⟩;have hJ6:=hJ5.keep hb6;have hZ6:=hZ5.keep hb6;have hP6:=hP5.keep hb6;have hG6:=hG5.keep hb6;have g6:=g5.trans (hb6.mono g5.size);clear j0 j1 j2 j3 j4;have j0:=hJ6.at_ (i:=0) rfl;have j1:=hJ6.at_ (i:=1) rfl;have j2:=hJ6.at_ (i:=2) rfl;have j3:=hJ6.at_ (i:=3) rfl;have j4:=hJ6.at_ (i:=4) rfl;obtain ⟨t0,t1,t2,f0,f1,f2⟩:=bW hG6;have lG:=hG5.lt;have r6s:=(((r6.setCell (a:=⟨gz,0,none⟩) (by simp;omega) (.int .i64 3)).setCell (a:=⟨gz,1,none⟩) (by simp;omega) (.int .i64 0)).setCell (a:=⟨gz,2,none⟩) (by simp;omega) (.slice A6 2 c6)).rd;have tok6:=trivial)
       | (go_at_call 142;refine (iK C m cc k n _ 4 c fc ev 1 (by omega) 5 0 [.mk kp np sp,.mk 7 0 []] Az cz _ _ h1c.out (hT.ok.below gy) rz).mono ?_;rintro e w5 ⟨rfl,hb5⟩;have hJ5:=hJy.keep hb5;have hZ5:=hZy.keep hb5;have hP5:=hPy.keep hb5;have hG5:=hTz.keep hb5;have g5:=gy.trans (hb5.mono gy.size);clear t0 t1 t2;obtain ⟨p0,p1,p2⟩:=hP5.three;have tok5:=trivial))
      refine aW ?_;intro wv hwv;have hJv:=(show Blk wv w.heap.size _ by rw [hwv];exact hJ7);have hZv:=(show Blk wv (w.heap.size+1) _ by rw [hwv];exact hZ7);have hPv:=(show Blk wv (w.heap.size+1+1) _ by rw [hwv];exact hP7);have gv:Bw w wv:=by rw [hwv];exact g7
      clear hwv j0 j1 j2 j3 j4;have u0:=aF (hJv.at_ (i:=0) rfl);have u1:=aF (hJv.at_ (i:=1) rfl);have u2:=aF (hJv.at_ (i:=2) rfl);have u3:=aF (hJv.at_ (i:=3) rfl);have u4:=aF (hJv.at_ (i:=4) rfl);refine eT wv [3] [0] 4 3 (lT:=[_]) ?_;intro q0 bq0;refine bZ (aD ?_);refine bB 1 ?_
      ·go_wp2_with (go_at_call 71;refine (aP 6 _ ⟨_,_,_,rfl⟩ _).mono ?_;rintro e q1 ⟨rfl,hbq1⟩)
       refine aX bq0 hbq1 ?_;intro bq1 lq1;refine bB 2 ?_
       ·rcases aL hs.out with ⟨b,h3c,rfl⟩|⟨u,h3c,hs⟩
        ·have qb:=dO b;replace h3c:=aD h3c;go_wp2_with (go_at_call 138;refine (gP C m cc k n _ 4 c fc ev 3 (by omega) 6 0 [] none 0 _ ty _ h3c.out ((hT.below gv).below bq1) hv qN Rd.nil).mono ?_;rintro e q2 ⟨he,hbq2⟩;obtain rfl:e = .returned (.int .i64 (cX b)):=he)
         refine aX bq1 hbq2 ?_;intro bq2 lq2;refine cP [3] (lB:=[_]) ?_;have hZ2:=hZv.keep bq2;have g2:=gv.trans (bq2.mono gv.size);obtain ⟨d0,d1,d2,e0,e1,e2⟩:=bW hZ2;go_wp2_with fail
         refine bodyPost_ret (v:=.tuple #[.agg Zr,.int .i64 (cX b)]) (by simp [results,results144,go_sem,d0,d1,d2]) rfl ⟨rfl,?_⟩;exact bP g2
        ·replace h3c:=aD (show aDi (okO ty 3) (.mk 6 0 [])=true from lM h3c);replace hs:=aD (mG hs);have hszf:=aD (jO (ka:=kp) (na:=np) (kb:=ka) (nb:=na) (aH hvp.out) (aH hva4.out));go_wp2_with (go_at_call 138;refine (qI C m cc k n _ 4 c fc ev 3 (by omega) 6 0 [] none 0 _ _ h3c.out ((hT.ok.below gv).below bq1) Rd.nil).mono ?_;rintro e q2 ⟨rfl,hbq2⟩)
         refine aX bq1 hbq2 ?_;intro bq2 lq2;refine cP [3] (lB:=[_]) ?_;go_upto_region 16 with fail
         refine aW ?_;intro ws hws;have hJs:=(show Blk ws w.heap.size _ by rw [hws];exact hJv.keep bq2);have hZs:=(show Blk ws (w.heap.size+1) _ by rw [hws];exact hZv.keep bq2);have hPs:=(show Blk ws (w.heap.size+1+1) _ by rw [hws];exact hPv.keep bq2);have gs:Bw w ws:=by rw [hws];exact gv.trans ((bq2).mono gv.size)
         clear hws;have rps:=rp0.below gs;have ras:=ra0.below gs;obtain ⟨v0,v1,v2⟩:=jR hPs;have u3:=aF (hJs.at_ (i:=3) rfl);have y0:=aF ((cM gs) _ _ z1);have y1:=aF ((cM gs) _ _ z2);have y2:=aF ((cM gs) _ _ z3);refine eT ws [9,10,11,12] [0,1,2,3,4,5] 13 7 (lT:=[_,_,_,_,_,_]) ?_;intro q0 bq0;refine bZ (aD ?_);refine bB 6 ?_
         ·go_wp2_with fail
          refine iD ?_;intro q1 hbq1 zq1 seq1;have rq1:Rd q1 (some ⟨q0.heap.size,0,none⟩) 0 [.mk kp np sp,.mk ka na sa]:=dP (s0:=sp) (s1:=sa) zq1 hlp hla ((rps.below bq0).below hbq1) ((ras.below bq0).below hbq1);refine aX bq0 hbq1 ?_;intro bq1 lq1;refine bB 7 ?_
          ·go_wp2_with (go_at_call 71;refine (aP 5 _ ⟨_,_,_,rfl⟩ _).mono ?_;rintro e q2 ⟨rfl,hbq2⟩)
           have Pq2:=rq1.below hbq2;refine aX bq1 hbq2 ?_;intro bq2 lq2;refine bB 8 ?_
           ·rcases hs.out with ⟨hvr,rfl⟩|⟨hvr,rfl⟩
            ·replace hvr:=aD (show aE (.mk 5 0 [.mk kp np sp,.mk ka na sa])=true from hvr);go_wp2_with (go_at_call 99;refine (cJ 5 0 [.mk kp np sp,.mk ka na sa] _ 2 _ hvr.out Pq2).mono ?_;rintro e q3 ⟨rfl,hbq3⟩)
             have Pq3:=Pq2.below hbq3;refine aX bq2 hbq3 ?_;intro bq3 lq3;refine fB [9,10] 2 (lT:=[_,_]) ?_;refine bZ (aD ?_);refine cP [11,12] (lB:=[_,_]) ?_;have hZ2:=hZs.keep bq3;obtain ⟨d0,d1,d2,e0,e1,e2⟩:=bW hZ2;have gf:=gs.trans (bq3.mono gs.size);have rP:=Pq3;go_wp2_with fail
             refine bodyPost_ret (v:=.tuple #[.agg (Ro 5 0 (some ⟨q0.heap.size,0,none⟩) 2 2),.int .i64 0]) (by simp [results,results144,go_sem,d0,d1,d2]) rfl ⟨some ⟨q0.heap.size,0,none⟩,2,rfl,by simp,bQ hZ2 hvr.out rP _ _ _,?_⟩;exact ((gf.setCell (by simp) _).setCell (by simp) _).setCell (by simp) _
            ·replace hvr:=aD (show aE (.mk 5 0 [.mk kp np sp,.mk ka na sa])=false from hvr);go_wp2_with (go_at_call 99;refine (dB 5 0 [.mk kp np sp,.mk ka na sa] _ 2 _ hszf.out hvr.out Pq2).mono ?_;rintro e q3 ⟨rfl,hbq3⟩)
             have Pq3:=Pq2.below hbq3;refine aX bq2 hbq3 ?_;intro bq3 lq3;refine fB [9,10] 2 (lT:=[_,_]) ?_;refine bZ (aD ?_);refine cP [11,12] (lB:=[_,_]) ?_;have hZ2:=hZs.keep bq3;obtain ⟨d0,d1,d2,e0,e1,e2⟩:=bW hZ2;have gf:=gs.trans (bq3.mono gs.size);have rP:=Pq3;go_wp2_with fail
             refine bodyPost_ret (v:=.tuple #[.agg Zr,.int .i64 2]) (by simp [results,results144,go_sem,d0,d1,d2]) rfl ⟨rfl,?_⟩;exact bP gf
    ·skip
     replace hva:=aD (show aE (.mk 5 0 [.mk kp np sp,.mk 7 0 []])=false from hva);replace hf:=aD (show aEc (okO ty 0) (.mk 6 0 [])=true from zQ hf);go_wp2_with (go_at_call 156;refine (kX C m cc k n _ 4 c fc ev 0 (by omega) 6 0 [] none 0 _ _ hf.out ((hT.ok.below gx).below bq1) Rd.nil).mono ?_;rintro e q2 ⟨rfl,hbq2⟩)
     refine aX bq1 hbq2 ?_;intro bq2 lq2;refine cP [3] (lB:=[_]) ?_;go_upto_region 5 with fail
     refine aW ?_;intro wu hwu;have hJu:=(show Blk wu w.heap.size _ by rw [hwu];exact hJx.keep bq2);have hZu:=(show Blk wu (w.heap.size+1) _ by rw [hwu];exact hZx.keep bq2);have hPu:Blk wu (w.heap.size+1+1) (Ro kp np Ap sp.length cp):=by rw [hwu];exact hPx.keep bq2
     have gu:Bw w wu:=by rw [hwu];exact gx.trans (bq2.mono gx.size)
     clear hwu;have rpu:=rp0.below gu;obtain ⟨v0,v1,v2⟩:=jR hPu;go_cut [6,7] (fun vp vc wy=>∃gz:Nat,vp = .pointer (some ⟨gz,0,none⟩)∧vc = .int .i64 2∧Blk wy gz Zr∧Bw wu wy∧wu.heap.size≤gz)
     case first=>
      refine eT wu [5,6,7,9,10] [0] 11 10 (lT:=[_]) ?_;intro q0 bq0;refine bZ (aD ?_);refine nK 1 8 ?_ ?_
      ·go_wp2_with (go_at_call 71;refine (aP 7 _ ⟨_,_,_,rfl⟩ _).mono ?_;rintro e q1 ⟨rfl,hbq1⟩)
       refine aX bq0 hbq1 ?_;intro bq1 lq1;refine nK 2 8 ?_ ?_
       ·go_wp2_with fail
        refine iD ?_;intro q2 hbq2 zq2 seq2;have rq2:Rd q2 (some ⟨q1.heap.size,0,none⟩) 0 [.mk kp np sp,.mk 7 0 []]:=dP (s0:=sp) (s1:=[]) zq2 hlp (by simp) ((rpu.below bq1).below hbq2) Rd.nil;refine aX bq1 hbq2 ?_;intro bq2 lq2;refine nK 3 8 ?_ ?_
        ·go_wp2_with (go_at_call 71;refine (aP 5 _ ⟨_,_,_,rfl⟩ _).mono ?_;rintro e q3 ⟨rfl,hbq3⟩)
         have Pq3:=rq2.below hbq3;refine aX bq2 hbq3 ?_;intro bq3 lq3;refine nK 4 8 ?_ ?_
         ·go_wp2_with (go_at_call 99;refine (dB 5 0 [.mk kp np sp,.mk 7 0 []] _ 2 _ (jO (ka:=kp) (na:=np) (kb:=7) (nb:=0) (aH hvp.out) (by simp [aG])) hva.out Pq3).mono ?_;rintro e q4 ⟨rfl,hbq4⟩)
          have Pq4:=Pq3.below hbq4;refine aX bq3 hbq4 ?_;intro bq4 lq4;refine fB [5,6,7] 3 (lT:=[_,_,_]) ?_;refine bZ (aD ?_);refine bB 8 ?_
          ·go_wp2_with fail
           refine iD ?_;intro q5 hbq5 zq5 seq5;have Pq5:=Pq4.below hbq5;refine aX bq4 hbq5 ?_;intro bq5 lq5;refine cP [9,10] (lB:=[_,_]) ?_;obtain ⟨d0,d1,d2,e0,e1,e2⟩:=bW zq5;have szb:wu.heap.size≤q4.heap.size:=by first|exact bq0.size|exact bq4.size
           go_wp2_with fail
           go_meet
           exact ⟨q4.heap.size,rfl,rfl,((zq5.set_ 0 _).set_ 1 _).set_ 2 _,((bq5.setCell szb _).setCell szb _).setCell szb _,szb⟩
         ·go_wp2_with fail
          refine iD ?_;intro q6 hbq6 zq6 seq6;have Pq6:=Pq3.below hbq6;refine aX bq3 hbq6 ?_;intro bq6 lq6;refine bB 4 ?_
          ·go_wp2_with (go_at_call 99;refine (dB 5 0 [.mk kp np sp,.mk 7 0 []] _ 2 _ (jO (ka:=kp) (na:=np) (kb:=7) (nb:=0) (aH hvp.out) (by simp [aG])) hva.out Pq6).mono ?_;rintro e q7 ⟨rfl,hbq7⟩)
           have Pq7:=Pq6.below hbq7;have Zq7:=zq6.keep hbq7;refine aX bq6 hbq7 ?_;intro bq7 lq7;refine fB [5,6,7] 2 (lT:=[_,_,_]) ?_;refine bZ (aD ?_);refine cP [9,10] (lB:=[_,_]) ?_;obtain ⟨d0,d1,d2,e0,e1,e2⟩:=bW Zq7;have szb:wu.heap.size≤q3.heap.size:=by first|exact bq0.size|exact bq3.size
           go_wp2_with fail
           go_meet
           exact ⟨q3.heap.size,rfl,rfl,((Zq7.set_ 0 _).set_ 1 _).set_ 2 _,((bq7.setCell szb _).setCell szb _).setCell szb _,szb⟩
        ·go_wp2_with fail
         refine iD ?_;intro q8 hbq8 zq8 seq8;have Pq8:=rq2.below hbq8;refine aX bq2 hbq8 ?_;intro bq8 lq8;refine bB 3 ?_
         ·go_wp2_with (go_at_call 71;refine (aP 5 _ ⟨_,_,_,rfl⟩ _).mono ?_;rintro e q9 ⟨rfl,hbq9⟩)
          have Pq9:=Pq8.below hbq9;have Zq9:=zq8.keep hbq9;refine aX bq8 hbq9 ?_;intro bq9 lq9;refine bB 4 ?_
          ·go_wp2_with (go_at_call 99;refine (dB 5 0 [.mk kp np sp,.mk 7 0 []] _ 2 _ (jO (ka:=kp) (na:=np) (kb:=7) (nb:=0) (aH hvp.out) (by simp [aG])) hva.out Pq9).mono ?_;rintro e q10 ⟨rfl,hbq10⟩)
           have Pq10:=Pq9.below hbq10;have Zq10:=Zq9.keep hbq10;refine aX bq9 hbq10 ?_;intro bq10 lq10;refine fB [5,6,7] 2 (lT:=[_,_,_]) ?_;refine bZ (aD ?_);refine cP [9,10] (lB:=[_,_]) ?_;obtain ⟨d0,d1,d2,e0,e1,e2⟩:=bW Zq10;have szb:wu.heap.size≤q2.heap.size:=by first|exact bq0.size|exact bq2.size
           go_wp2_with fail
           go_meet
           exact ⟨q2.heap.size,rfl,rfl,((Zq10.set_ 0 _).set_ 1 _).set_ 2 _,((bq10.setCell szb _).setCell szb _).setCell szb _,szb⟩
       ·go_wp2_with fail
        refine iD ?_;intro q11 hbq11 zq11 seq11;refine aX bq1 hbq11 ?_;intro bq11 lq11;refine bB 2 ?_
        ·go_wp2_with fail
         refine iD ?_;intro q12 hbq12 zq12 seq12;have rq12:Rd q12 (some ⟨q11.heap.size,0,none⟩) 0 [.mk kp np sp,.mk 7 0 []]:=dP (s0:=sp) (s1:=[]) zq12 hlp (by simp) ((rpu.below bq11).below hbq12) Rd.nil;have Zq12:=zq11.keep hbq12;refine aX bq11 hbq12 ?_;intro bq12 lq12;refine bB 3 ?_
         ·go_wp2_with (go_at_call 71;refine (aP 5 _ ⟨_,_,_,rfl⟩ _).mono ?_;rintro e q13 ⟨rfl,hbq13⟩)
          have Zq13:=Zq12.keep hbq13;have Pq13:=rq12.below hbq13;refine aX bq12 hbq13 ?_;intro bq13 lq13;refine bB 4 ?_
          ·go_wp2_with (go_at_call 99;refine (dB 5 0 [.mk kp np sp,.mk 7 0 []] _ 2 _ (jO (ka:=kp) (na:=np) (kb:=7) (nb:=0) (aH hvp.out) (by simp [aG])) hva.out Pq13).mono ?_;rintro e q14 ⟨rfl,hbq14⟩)
           have Zq14:=Zq13.keep hbq14;have Pq14:=Pq13.below hbq14;refine aX bq13 hbq14 ?_;intro bq14 lq14;refine fB [5,6,7] 2 (lT:=[_,_,_]) ?_;refine bZ (aD ?_);refine cP [9,10] (lB:=[_,_]) ?_;obtain ⟨d0,d1,d2,e0,e1,e2⟩:=bW Zq14;have szb:wu.heap.size≤q1.heap.size:=by first|exact bq0.size|exact bq1.size
           go_wp2_with fail
           go_meet
           exact ⟨q1.heap.size,rfl,rfl,((Zq14.set_ 0 _).set_ 1 _).set_ 2 _,((bq14.setCell szb _).setCell szb _).setCell szb _,szb⟩
      ·go_wp2_with fail
       refine iD ?_;intro q15 hbq15 zq15 seq15;refine aX bq0 hbq15 ?_;intro bq15 lq15;refine bB 1 ?_
       ·go_wp2_with (go_at_call 71;refine (aP 7 _ ⟨_,_,_,rfl⟩ _).mono ?_;rintro e q16 ⟨rfl,hbq16⟩)
        have Zq16:=zq15.keep hbq16;refine aX bq15 hbq16 ?_;intro bq16 lq16;refine bB 2 ?_
        ·go_wp2_with fail
         refine iD ?_;intro q17 hbq17 zq17 seq17;have rq17:Rd q17 (some ⟨q16.heap.size,0,none⟩) 0 [.mk kp np sp,.mk 7 0 []]:=dP (s0:=sp) (s1:=[]) zq17 hlp (by simp) ((rpu.below bq16).below hbq17) Rd.nil;have Zq17:=Zq16.keep hbq17;refine aX bq16 hbq17 ?_;intro bq17 lq17;refine bB 3 ?_
         ·go_wp2_with (go_at_call 71;refine (aP 5 _ ⟨_,_,_,rfl⟩ _).mono ?_;rintro e q18 ⟨rfl,hbq18⟩)
          have Zq18:=Zq17.keep hbq18;have Pq18:=rq17.below hbq18;refine aX bq17 hbq18 ?_;intro bq18 lq18;refine bB 4 ?_
          ·go_wp2_with (go_at_call 99;refine (dB 5 0 [.mk kp np sp,.mk 7 0 []] _ 2 _ (jO (ka:=kp) (na:=np) (kb:=7) (nb:=0) (aH hvp.out) (by simp [aG])) hva.out Pq18).mono ?_;rintro e q19 ⟨rfl,hbq19⟩)
           have Zq19:=Zq18.keep hbq19;have Pq19:=Pq18.below hbq19;refine aX bq18 hbq19 ?_;intro bq19 lq19;refine fB [5,6,7] 2 (lT:=[_,_,_]) ?_;refine bZ (aD ?_);refine cP [9,10] (lB:=[_,_]) ?_;obtain ⟨d0,d1,d2,e0,e1,e2⟩:=bW Zq19;have szb:wu.heap.size≤q0.heap.size:=by first|exact bq0.size|exact bq0.size
           go_wp2_with fail
           go_meet
           exact ⟨q0.heap.size,rfl,rfl,((Zq19.set_ 0 _).set_ 1 _).set_ 2 _,((bq19.setCell szb _).setCell szb _).setCell szb _,szb⟩
     case rest=>
      obtain ⟨gz,rfl,rfl,hTz,hxy,hgz⟩:=hcut;have gy:=gu.trans (hxy.mono gu.size);have hJy:=hJu.keep hxy;have hZy:=hZu.keep hxy;have hPy:=hPu.keep hxy;have hgw:w.heap.size≤gz:=Nat.le_trans gu.size hgz;have lJ:=hJu.lt;have lZ:=hZu.lt;have lP:=hPu.lt;have hn1:w.heap.size≠gz:=by omega
      have hn2:w.heap.size+1≠gz:=by omega
      have hn3:(w.heap.size+1+1)≠gz:=by omega
      have hn1':gz≠w.heap.size:=by omega
      obtain ⟨t0,t1,t2⟩:=hTz.three;have j0:=hJy.at_ (i:=0) rfl;have j1:=hJy.at_ (i:=1) rfl;have j2:=hJy.at_ (i:=2) rfl;have j3:=hJy.at_ (i:=3) rfl;have j4:=hJy.at_ (i:=4) rfl;clear v0 v1 v2;have hgy:=gy;have qb:=dO false;go_wp2_with (go_at_call 142;refine (kI C m cc k n _ 4 c fc ev 1 (by omega) false 0 0 none 0 0 _).mono ?_;rintro e w5 ⟨he,hb5⟩;obtain rfl:e = .returned (.int .i64 (cX false)):=he;have hZ5:=hZy.keep hb5;have g5:=gy.trans (hb5.mono gy.size);obtain ⟨d0,d1,d2,e0,e1,e2⟩:=bW hZ5)
      refine bodyPost_ret (v:=.tuple #[.agg Zr,.int .i64 (cX false)]) (by simp [results,results144,go_sem,d0,d1,d2]) rfl ⟨rfl,?_⟩;exact bP g5
theorem aQw {k n:Int}{ks:List Tm}(h:aE (.mk k n ks)=true)(hk:aU k=3):∃ka na sa kb nb sb kc nc sc,ks=[.mk ka na sa,.mk kb nb sb,.mk kc nc sc]:=by
 obtain ⟨⟨ka,na,sa⟩,⟨kb,nb,sb⟩,⟨kc,nc,sc⟩,rfl⟩:=gG (l:=ks) (by have:=(bG h).1;omega);exact ⟨ka,na,sa,kb,nb,sb,kc,nc,sc,rfl⟩
theorem aEl (C:Option Addr)(m cc:Nat)(k n:Int)(A:Option Addr)(c fc:Nat)(ev:Array Value)(kp np:Int)(sp:List Tm)(t1' t2':Tm)(r:Rs Tm)(ty:Nat→Option (Rs Tm))(w:World)
  (hs : (bd (qT (ty 1) 10) fun e => bd (faV (ty 0) (aI e.ks 0)) fun _ => vb (dZ (.mk kp np sp) (aI e.ks 1)) (bd (kF (ty 2) (dZ (.mk kp np sp) (aI e.ks 1))) fun _ => fL (dZ (.mk kp np sp) (aI e.ks 2)))) = some r)
  (hT : TyX fc ev w ty) (hv : TyV ty) (hvp : aE (.mk kp np sp) = true) (hr : Rd w A 0 [.mk kp np sp, t1', t2']) :
  Calls prog 146 #[.agg #[.slice C m cc,.int .i64 k,.int .i64 n,.slice A 3 c,.func (.func fc) #[] ev]] w (pK w r):=by
 rcases aL hs with ⟨b,h1,rfl⟩|⟨e,h1,hs⟩
 ·have qb:=dO b;replace h1:=aD h1;clear hs;go_enter func146,ntmps146;go_wp2_with (go_at_call 141;refine (iT C m cc k n _ 3 c fc ev 1 (by omega) 10 _ ty _ h1.out (hT.below bw2) hv).mono ?_;rintro e w1 ⟨rfl,hb1⟩;have hZ1:=iU hb1;have g1:Bw w w1:=bU bw2 hb1;obtain ⟨d0,d1,d2,e0,e1,e2,lz⟩:=dJ hZ1;have n1':w.heap.size+1≠w1.heap.size:=(by omega))
  have y:=fun (o:Obj)=>(((((hZ1.set_ 0 (.int .i64 0)).set_ 1 (.int .i64 0)).set_ 2 (.slice none 0 0)).alloc o:Blk _ _ Zr)).three
  refine bodyPost_ret (v:=.tuple #[.agg Zr,.int .i64 (cX b)]) (by simp [results,results146,go_sem,y,d0,d1,d2]) rfl ⟨rfl,?_⟩;exact (bP g1).alloc (by simp [World.setCell];exact g1.size) _
 obtain ⟨hve,hke⟩:=nJ h1;obtain ⟨ke,ni,se⟩:=e;obtain rfl:ke=10:=hke;obtain ⟨ka,na,sa,kb,nb,sb,kd,nd,sd,rfl⟩:=aQw hve rfl;have hva:=aD (aO hve (t:=.mk ka na sa) (by simp));have hszb:=aD (jO (ka:=kp) (na:=np) (kb:=kb) (nb:=nb) (aH hvp) (aH (aO hve (t:=.mk kb nb sb) (by simp))));have hszf:=aD (jO (ka:=kp) (na:=np) (kb:=kd) (nb:=nd) (aH hvp) (aH (aO hve (t:=.mk kd nd sd) (by simp))));replace h1:=aD (oX h1);replace hs:Hid ((bd (faV (ty 0) (.mk ka na sa)) fun _=>vb (dZ (.mk kp np sp) (.mk kb nb sb)) (bd (kF (ty 2) (dZ (.mk kp np sp) (.mk kb nb sb))) fun _=>fL (dZ (.mk kp np sp) (.mk kd nd sd))))=some r):=aD hs;clear hve;obtain ⟨bp,op,Ap,cp,rfl,i1,i2,i3,hlp,rp0⟩:=oJ hr;simp only [Nat.zero_mul,Nat.add_zero,Nat.one_mul,Nat.reduceMul] at i1 i2 i3
 go_enter func146,ntmps146;go_upto_region 4 with (go_at_call 141;refine (hE C m cc k n _ 3 c fc ev 1 (by omega) 10 ni [.mk ka na sa,.mk kb nb sb,.mk kd nd sd] _ _ h1.out (hT.ok.below bw2)).mono ?_;rintro e w1 ⟨A3,ci,rfl,hl3,r3,hb1⟩;have hZ1:=iU hb1;have hJ1:=((aC w 105 #[.slice C m cc,.int .i64 k,.int .i64 n,.slice (some ⟨bp,op,none⟩) 3 c,.func (.func fc) #[] ev] rfl).alloc (.cells Zr 32)).keep hb1;have g1:Bw w w1:=bU bw2 hb1)
 refine aW ?_;intro wx hwx;have hJx:=(show Blk wx w.heap.size _ by rw [hwx];exact hJ1.alloc _);have hZx:=(show Blk wx (w.heap.size+1) _ by rw [hwx];exact hZ1.alloc _);have hIx0:Blk wx w1.heap.size (Ro 10 ni A3 3 ci):=by rw [hwx];exact aC _ 32 _ rfl
 have gx:Bw w wx:=by rw [hwx];exact g1.alloc g1.size _
 have r3x:Rd wx A3 0 [.mk ka na sa,.mk kb nb sb,.mk kd nd sd]:=by rw [hwx];exact r3.alloc _
 clear hwx;obtain ⟨bi,oi,Aa,ca,rfl,a1,a2,a3,hla,ra0⟩:=oJ r3x;obtain ⟨Ab,cb,c1,c2,c3,hlb,rb0⟩:=tV r3x;obtain ⟨Ad,cd,d1,d2,d3,hld,rd0⟩:=kd2 r3x;simp only [Nat.zero_mul,Nat.add_zero,Nat.one_mul,Nat.reduceMul] at a1 a2 a3 c1 c2 c3 d1 d2 d3
 have hIx:Blk wx w1.heap.size (Ro 10 ni (some ⟨bi,oi,none⟩) 3 ci):=hIx0;have u2':=aF hIx.three.2.2;have y0':=aF a1;have y1':=aF a2;have y2':=aF a3;have uj0:=aF (hJx.at_ (i:=0) rfl);have uj1:=aF (hJx.at_ (i:=1) rfl);have uj2:=aF (hJx.at_ (i:=2) rfl);have uj3:=aF (hJx.at_ (i:=3) rfl);have uj4:=aF (hJx.at_ (i:=4) rfl);refine eT wx [6] [0,1,2,3,4] 7 2 (lT:=[_,_,_,_,_]) ?_;intro q0 bq0;refine bZ (aD ?_);refine bB 5 ?_
 ·rcases aL hs.out with ⟨b,hf,rfl⟩|⟨u,hf,hs⟩
  ·have qb:=dO b;replace hf:=aD hf;go_wp2_with (go_at_call 156;refine (tK C m cc k n _ 3 c fc ev 0 (by omega) ka na sa Aa ca _ ty _ hf.out ((hT.below gx).below bq0) hv hva.out (ra0.below bq0)).mono ?_;rintro e q1 ⟨he,hbq1⟩;obtain rfl:e = .returned (.int .i64 (cX b)):=he)
   refine aX bq0 hbq1 ?_;intro bq1 lq1;refine cP [6] (lB:=[_]) ?_;have hZ3:=hZx.keep bq1;have g3:=gx.trans (bq1.mono gx.size);obtain ⟨f0,f1,f2,e0,e1,e2⟩:=bW hZ3;go_wp2_with fail
   refine bodyPost_ret (v:=.tuple #[.agg Zr,.int .i64 (cX b)]) (by simp [results,results146,go_sem,f0,f1,f2]) rfl ⟨rfl,?_⟩;exact bP g3
  ·rcases pF hs with ⟨hvb,hs⟩|⟨hvb,rfl⟩
   ·skip
    replace hvb:=aD (show aE (.mk 5 0 [.mk kp np sp,.mk kb nb sb])=true from hvb);replace hf:=aD (zQ hf);replace hs:=aD hs;go_wp2_with (go_at_call 156;refine (kX C m cc k n _ 3 c fc ev 0 (by omega) ka na sa Aa ca _ _ hf.out ((hT.ok.below gx).below bq0) (ra0.below bq0)).mono ?_;rintro e q1 ⟨rfl,hbq1⟩)
    refine aX bq0 hbq1 ?_;intro bq1 lq1;refine cP [6] (lB:=[_]) ?_;have hJ3:=hJx.keep bq1;have hZ3:=hZx.keep bq1;have hI3:=hIx.keep bq1;have g3:=gx.trans (bq1.mono gx.size);have j3:=hJ3.at_ (i:=3) rfl;have p0:=(cM g3) _ _ i1;have p1:=(cM g3) _ _ i2;have p2:=(cM g3) _ _ i3;go_upto_region 8 with fail
    refine aW ?_;intro wu hwu;have hJu:=(show Blk wu w.heap.size _ by rw [hwu];exact hJ3.alloc _);have hZu:=(show Blk wu (w.heap.size+1) _ by rw [hwu];exact hZ3.alloc _);have hIu:=(show Blk wu w1.heap.size _ by rw [hwu];exact hI3.alloc _);have hPu:Blk wu q1.heap.size (Ro kp np Ap sp.length cp):=by rw [hwu];exact aC _ 32 _ rfl
    have gu:Bw w wu:=by rw [hwu];exact g3.alloc g3.size _
    have kxu:Bw wx wu:=by rw [hwu];exact bq1.alloc bq1.size _
    clear hwu j3 p0 p1 p2;have rpu:=rp0.below gu;have rbu:=rb0.below kxu;obtain ⟨v0,v1,v2⟩:=jR hPu;have u2:=aF hIu.three.2.2;have y0:=aF ((cM kxu) _ _ c1);have y1:=aF ((cM kxu) _ _ c2);have y2:=aF ((cM kxu) _ _ c3);go_cut [5,8] (fun vc vp wy=>∃(gz:Nat) (Az:Option Addr) (cz:Nat),vp = .pointer (some ⟨gz,0,none⟩)∧vc = .int .i64 0∧Blk wy gz (Ro 5 0 Az 2 cz)∧Rd wy Az 0 [.mk kp np sp,.mk kb nb sb]∧Bw wu wy∧wu.heap.size≤gz)
    case first=>
     refine eT wu [8,9,10,12,13] [0,1,2,3,4] 14 9 (lT:=[_,_,_,_,_]) ?_;intro q0 bq0;refine bZ (aD ?_);refine nK 5 11 ?_ ?_
     ·go_wp2_with fail
      refine iD ?_;intro q1 hbq1 zq1 seq1;have rq1:Rd q1 (some ⟨q0.heap.size,0,none⟩) 0 [.mk kp np sp,.mk kb nb sb]:=dP (s0:=sp) (s1:=sb) zq1 hlp hlb ((rpu.below bq0).below hbq1) ((rbu.below bq0).below hbq1);refine aX bq0 hbq1 ?_;intro bq1 lq1;refine nK 6 11 ?_ ?_
      ·go_wp2_with (go_at_call 71;refine (aP 5 _ ⟨_,_,_,rfl⟩ _).mono ?_;rintro e q2 ⟨rfl,hbq2⟩)
       have Pq2:=rq1.below hbq2;refine aX bq1 hbq2 ?_;intro bq2 lq2;refine nK 7 11 ?_ ?_
       ·go_wp2_with (go_at_call 99;refine (cJ 5 0 [.mk kp np sp,.mk kb nb sb] _ 2 _ hvb.out Pq2).mono ?_;rintro e q3 ⟨rfl,hbq3⟩)
        have Pq3:=Pq2.below hbq3;refine aX bq2 hbq3 ?_;intro bq3 lq3;refine fB [8,9,10] 3 (lT:=[_,_,_]) ?_;refine bZ (aD ?_);refine bB 11 ?_
        ·go_wp2_with fail
         refine iD ?_;intro q4 hbq4 zq4 seq4;have Pq4:=Pq3.below hbq4;refine aX bq3 hbq4 ?_;intro bq4 lq4;refine cP [12,13] (lB:=[_,_]) ?_;obtain ⟨d0,d1,d2,e0,e1,e2⟩:=bW zq4;have szb:wu.heap.size≤q3.heap.size:=by first|exact bq0.size|exact bq3.size
         go_wp2_with fail
         go_meet
         exact ⟨q3.heap.size,some ⟨q0.heap.size,0,none⟩,2,rfl,rfl,((zq4.set_ 0 _).set_ 1 _).set_ 2 _,bQ zq4 hvb.out Pq4 _ _ _,((bq4.setCell szb _).setCell szb _).setCell szb _,szb⟩
       ·go_wp2_with fail
        refine iD ?_;intro q5 hbq5 zq5 seq5;have Pq5:=Pq2.below hbq5;refine aX bq2 hbq5 ?_;intro bq5 lq5;refine bB 7 ?_
        ·go_wp2_with (go_at_call 99;refine (cJ 5 0 [.mk kp np sp,.mk kb nb sb] _ 2 _ hvb.out Pq5).mono ?_;rintro e q6 ⟨rfl,hbq6⟩)
         have Pq6:=Pq5.below hbq6;have Zq6:=zq5.keep hbq6;refine aX bq5 hbq6 ?_;intro bq6 lq6;refine fB [8,9,10] 2 (lT:=[_,_,_]) ?_;refine bZ (aD ?_);refine cP [12,13] (lB:=[_,_]) ?_;obtain ⟨d0,d1,d2,e0,e1,e2⟩:=bW Zq6;have szb:wu.heap.size≤q2.heap.size:=by first|exact bq0.size|exact bq2.size
         go_wp2_with fail
         go_meet
         exact ⟨q2.heap.size,some ⟨q0.heap.size,0,none⟩,2,rfl,rfl,((Zq6.set_ 0 _).set_ 1 _).set_ 2 _,bQ Zq6 hvb.out Pq6 _ _ _,((bq6.setCell szb _).setCell szb _).setCell szb _,szb⟩
      ·go_wp2_with fail
       refine iD ?_;intro q7 hbq7 zq7 seq7;have Pq7:=rq1.below hbq7;refine aX bq1 hbq7 ?_;intro bq7 lq7;refine bB 6 ?_
       ·go_wp2_with (go_at_call 71;refine (aP 5 _ ⟨_,_,_,rfl⟩ _).mono ?_;rintro e q8 ⟨rfl,hbq8⟩)
        have Pq8:=Pq7.below hbq8;have Zq8:=zq7.keep hbq8;refine aX bq7 hbq8 ?_;intro bq8 lq8;refine bB 7 ?_
        ·go_wp2_with (go_at_call 99;refine (cJ 5 0 [.mk kp np sp,.mk kb nb sb] _ 2 _ hvb.out Pq8).mono ?_;rintro e q9 ⟨rfl,hbq9⟩)
         have Pq9:=Pq8.below hbq9;have Zq9:=Zq8.keep hbq9;refine aX bq8 hbq9 ?_;intro bq9 lq9;refine fB [8,9,10] 2 (lT:=[_,_,_]) ?_;refine bZ (aD ?_);refine cP [12,13] (lB:=[_,_]) ?_;obtain ⟨d0,d1,d2,e0,e1,e2⟩:=bW Zq9;have szb:wu.heap.size≤q1.heap.size:=by first|exact bq0.size|exact bq1.size
         go_wp2_with fail
         go_meet
         exact ⟨q1.heap.size,some ⟨q0.heap.size,0,none⟩,2,rfl,rfl,((Zq9.set_ 0 _).set_ 1 _).set_ 2 _,bQ Zq9 hvb.out Pq9 _ _ _,((bq9.setCell szb _).setCell szb _).setCell szb _,szb⟩
     ·go_wp2_with fail
      refine iD ?_;intro q10 hbq10 zq10 seq10;refine aX bq0 hbq10 ?_;intro bq10 lq10;refine bB 5 ?_
      ·go_wp2_with fail
       refine iD ?_;intro q11 hbq11 zq11 seq11;have rq11:Rd q11 (some ⟨q10.heap.size,0,none⟩) 0 [.mk kp np sp,.mk kb nb sb]:=dP (s0:=sp) (s1:=sb) zq11 hlp hlb ((rpu.below bq10).below hbq11) ((rbu.below bq10).below hbq11);have Zq11:=zq10.keep hbq11;refine aX bq10 hbq11 ?_;intro bq11 lq11;refine bB 6 ?_
       ·go_wp2_with (go_at_call 71;refine (aP 5 _ ⟨_,_,_,rfl⟩ _).mono ?_;rintro e q12 ⟨rfl,hbq12⟩)
        have Zq12:=Zq11.keep hbq12;have Pq12:=rq11.below hbq12;refine aX bq11 hbq12 ?_;intro bq12 lq12;refine bB 7 ?_
        ·go_wp2_with (go_at_call 99;refine (cJ 5 0 [.mk kp np sp,.mk kb nb sb] _ 2 _ hvb.out Pq12).mono ?_;rintro e q13 ⟨rfl,hbq13⟩)
         have Zq13:=Zq12.keep hbq13;have Pq13:=Pq12.below hbq13;refine aX bq12 hbq13 ?_;intro bq13 lq13;refine fB [8,9,10] 2 (lT:=[_,_,_]) ?_;refine bZ (aD ?_);refine cP [12,13] (lB:=[_,_]) ?_;obtain ⟨d0,d1,d2,e0,e1,e2⟩:=bW Zq13;have szb:wu.heap.size≤q0.heap.size:=by first|exact bq0.size|exact bq0.size
         go_wp2_with fail
         go_meet
         exact ⟨q0.heap.size,some ⟨q10.heap.size,0,none⟩,2,rfl,rfl,((Zq13.set_ 0 _).set_ 1 _).set_ 2 _,bQ Zq13 hvb.out Pq13 _ _ _,((bq13.setCell szb _).setCell szb _).setCell szb _,szb⟩
    case rest=>
     obtain ⟨gz,Az,cz,rfl,rfl,hTz,rz,hxy,hgz⟩:=hcut;have gy:=gu.trans (hxy.mono gu.size);have hJy:=hJu.keep hxy;have hZy:=hZu.keep hxy;have hPy:=hPu.keep hxy;have hIy:=hIu.keep hxy;obtain ⟨t0,t1,t2⟩:=hTz.three;have j0:=hJy.at_ (i:=0) rfl;have j1:=hJy.at_ (i:=1) rfl;have j2:=hJy.at_ (i:=2) rfl;have j3:=hJy.at_ (i:=3) rfl;have j4:=hJy.at_ (i:=4) rfl;rcases aL hs.out with ⟨b,h2c,rfl⟩|⟨u,h2c,hs⟩
     ·have qb:=dO b;replace h2c:=aD h2c;go_wp2_with (go_at_call 142;refine (lV C m cc k n _ 3 c fc ev 2 (by omega) 5 0 [.mk kp np sp,.mk kb nb sb] Az cz _ ty _ h2c.out (hT.below gy) hv hvb.out rz).mono ?_;rintro e w5 ⟨he,hb5⟩;obtain rfl:e = .returned (.int .i64 (cX b)):=he;have hZ5:=hZy.keep hb5;have g5:=gy.trans (hb5.mono gy.size);obtain ⟨f0,f1,f2,e0,e1,e2⟩:=bW hZ5)
      refine bodyPost_ret (v:=.tuple #[.agg Zr,.int .i64 (cX b)]) (by simp [results,results146,go_sem,f0,f1,f2]) rfl ⟨rfl,?_⟩;exact bP g5
     replace h2c:=aD (lM h2c);replace hs:=aD (mG hs);go_upto_region 12 with (go_at_call 142;refine (iK C m cc k n _ 3 c fc ev 2 (by omega) 5 0 [.mk kp np sp,.mk kb nb sb] Az cz _ _ h2c.out (hT.ok.below gy) rz).mono ?_;rintro e w5 ⟨rfl,hb5⟩)
     refine aW ?_;intro ws hws;have hZs:=(show Blk ws (w.heap.size+1) _ by rw [hws];exact hZy.keep hb5);have hPs:=(show Blk ws q1.heap.size _ by rw [hws];exact hPy.keep hb5);have hIs:=(show Blk ws w1.heap.size _ by rw [hws];exact hIy.keep hb5);have gs:Bw w ws:=by rw [hws];exact gy.trans (hb5.mono gy.size)
     have kxs:Bw wx ws:=by rw [hws];exact (kxu.trans (hxy.mono kxu.size)).trans (hb5.mono (kxu.trans (hxy.mono kxu.size)).size)
     clear hws;have rps:=rp0.below gs;have rds:=rd0.below kxs;obtain ⟨v0,v1,v2⟩:=jR hPs;have u2:=aF hIs.three.2.2;have y0:=aF ((cM kxs) _ _ d1);have y1:=aF ((cM kxs) _ _ d2);have y2:=aF ((cM kxs) _ _ d3);refine eT ws [8,9,10,11] [0,1,2,3,4] 12 7 (lT:=[_,_,_,_,_]) ?_;intro q0 bq0;refine bZ (aD ?_);refine bB 5 ?_
     ·go_wp2_with fail
      refine iD ?_;intro q1 hbq1 zq1 seq1;have rq1:Rd q1 (some ⟨q0.heap.size,0,none⟩) 0 [.mk kp np sp,.mk kd nd sd]:=dP (s0:=sp) (s1:=sd) zq1 hlp hld ((rps.below bq0).below hbq1) ((rds.below bq0).below hbq1);refine aX bq0 hbq1 ?_;intro bq1 lq1;refine bB 6 ?_
      ·go_wp2_with (go_at_call 71;refine (aP 5 _ ⟨_,_,_,rfl⟩ _).mono ?_;rintro e q2 ⟨rfl,hbq2⟩)
       have Pq2:=rq1.below hbq2;refine aX bq1 hbq2 ?_;intro bq2 lq2;refine bB 7 ?_
       ·rcases hs.out with ⟨hvd,rfl⟩|⟨hvd,rfl⟩
        ·replace hvd:=aD (show aE (.mk 5 0 [.mk kp np sp,.mk kd nd sd])=true from hvd);go_wp2_with (go_at_call 99;refine (cJ 5 0 [.mk kp np sp,.mk kd nd sd] _ 2 _ hvd.out Pq2).mono ?_;rintro e q3 ⟨rfl,hbq3⟩)
         have Pq3:=Pq2.below hbq3;refine aX bq2 hbq3 ?_;intro bq3 lq3;refine fB [8,9] 2 (lT:=[_,_]) ?_;refine bZ (aD ?_);refine cP [10,11] (lB:=[_,_]) ?_;have hZ2:=hZs.keep bq3;obtain ⟨d0,d1,d2,e0,e1,e2⟩:=bW hZ2;have gf:=gs.trans (bq3.mono gs.size);have rP:=Pq3;go_wp2_with fail
         refine bodyPost_ret (v:=.tuple #[.agg (Ro 5 0 (some ⟨q0.heap.size,0,none⟩) 2 2),.int .i64 0]) (by simp [results,results146,go_sem,d0,d1,d2]) rfl ⟨some ⟨q0.heap.size,0,none⟩,2,rfl,by simp,bQ hZ2 hvd.out rP _ _ _,?_⟩;exact ((gf.setCell (by simp) _).setCell (by simp) _).setCell (by simp) _
        ·replace hvd:=aD (show aE (.mk 5 0 [.mk kp np sp,.mk kd nd sd])=false from hvd);go_wp2_with (go_at_call 99;refine (dB 5 0 [.mk kp np sp,.mk kd nd sd] _ 2 _ hszf.out hvd.out Pq2).mono ?_;rintro e q3 ⟨rfl,hbq3⟩)
         have Pq3:=Pq2.below hbq3;refine aX bq2 hbq3 ?_;intro bq3 lq3;refine fB [8,9] 2 (lT:=[_,_]) ?_;refine bZ (aD ?_);refine cP [10,11] (lB:=[_,_]) ?_;have hZ2:=hZs.keep bq3;obtain ⟨d0,d1,d2,e0,e1,e2⟩:=bW hZ2;have gf:=gs.trans (bq3.mono gs.size);have rP:=Pq3;go_wp2_with fail
         refine bodyPost_ret (v:=.tuple #[.agg Zr,.int .i64 2]) (by simp [results,results146,go_sem,d0,d1,d2]) rfl ⟨rfl,?_⟩;exact bP gf
   ·skip
    replace hvb:=aD (show aE (.mk 5 0 [.mk kp np sp,.mk kb nb sb])=false from hvb);replace hf:=aD (zQ hf);go_wp2_with (go_at_call 156;refine (kX C m cc k n _ 3 c fc ev 0 (by omega) ka na sa Aa ca _ _ hf.out ((hT.ok.below gx).below bq0) (ra0.below bq0)).mono ?_;rintro e q1 ⟨rfl,hbq1⟩)
    refine aX bq0 hbq1 ?_;intro bq1 lq1;refine cP [6] (lB:=[_]) ?_;have hJ3:=hJx.keep bq1;have hZ3:=hZx.keep bq1;have hI3:=hIx.keep bq1;have g3:=gx.trans (bq1.mono gx.size);have j3:=hJ3.at_ (i:=3) rfl;have p0:=(cM g3) _ _ i1;have p1:=(cM g3) _ _ i2;have p2:=(cM g3) _ _ i3;go_upto_region 8 with fail
    refine aW ?_;intro wu hwu;have hJu:=(show Blk wu w.heap.size _ by rw [hwu];exact hJ3.alloc _);have hZu:=(show Blk wu (w.heap.size+1) _ by rw [hwu];exact hZ3.alloc _);have hIu:=(show Blk wu w1.heap.size _ by rw [hwu];exact hI3.alloc _);have hPu:Blk wu q1.heap.size (Ro kp np Ap sp.length cp):=by rw [hwu];exact aC _ 32 _ rfl
    have gu:Bw w wu:=by rw [hwu];exact g3.alloc g3.size _
    have kxu:Bw wx wu:=by rw [hwu];exact bq1.alloc bq1.size _
    clear hwu j3 p0 p1 p2;have rpu:=rp0.below gu;have rbu:=rb0.below kxu;obtain ⟨v0,v1,v2⟩:=jR hPu;have u2:=aF hIu.three.2.2;have y0:=aF ((cM kxu) _ _ c1);have y1:=aF ((cM kxu) _ _ c2);have y2:=aF ((cM kxu) _ _ c3);go_cut [5,8] (fun vc vp wy=>∃gz:Nat,vp = .pointer (some ⟨gz,0,none⟩)∧vc = .int .i64 2∧Blk wy gz Zr∧Bw wu wy∧wu.heap.size≤gz)
    case first=>
     refine eT wu [8,9,10,12,13] [0,1,2,3,4] 14 9 (lT:=[_,_,_,_,_]) ?_;intro q0 bq0;refine bZ (aD ?_);refine nK 5 11 ?_ ?_
     ·go_wp2_with fail
      refine iD ?_;intro q1 hbq1 zq1 seq1;have rq1:Rd q1 (some ⟨q0.heap.size,0,none⟩) 0 [.mk kp np sp,.mk kb nb sb]:=dP (s0:=sp) (s1:=sb) zq1 hlp hlb ((rpu.below bq0).below hbq1) ((rbu.below bq0).below hbq1);refine aX bq0 hbq1 ?_;intro bq1 lq1;refine nK 6 11 ?_ ?_
      ·go_wp2_with (go_at_call 71;refine (aP 5 _ ⟨_,_,_,rfl⟩ _).mono ?_;rintro e q2 ⟨rfl,hbq2⟩)
       have Pq2:=rq1.below hbq2;refine aX bq1 hbq2 ?_;intro bq2 lq2;refine nK 7 11 ?_ ?_
       ·go_wp2_with (go_at_call 99;refine (dB 5 0 [.mk kp np sp,.mk kb nb sb] _ 2 _ hszb.out hvb.out Pq2).mono ?_;rintro e q3 ⟨rfl,hbq3⟩)
        have Pq3:=Pq2.below hbq3;refine aX bq2 hbq3 ?_;intro bq3 lq3;refine fB [8,9,10] 3 (lT:=[_,_,_]) ?_;refine bZ (aD ?_);refine bB 11 ?_
        ·go_wp2_with fail
         refine iD ?_;intro q4 hbq4 zq4 seq4;have Pq4:=Pq3.below hbq4;refine aX bq3 hbq4 ?_;intro bq4 lq4;refine cP [12,13] (lB:=[_,_]) ?_;obtain ⟨d0,d1,d2,e0,e1,e2⟩:=bW zq4;have szb:wu.heap.size≤q3.heap.size:=by first|exact bq0.size|exact bq3.size
         go_wp2_with fail
         go_meet
         exact ⟨q3.heap.size,rfl,rfl,((zq4.set_ 0 _).set_ 1 _).set_ 2 _,((bq4.setCell szb _).setCell szb _).setCell szb _,szb⟩
       ·go_wp2_with fail
        refine iD ?_;intro q5 hbq5 zq5 seq5;have Pq5:=Pq2.below hbq5;refine aX bq2 hbq5 ?_;intro bq5 lq5;refine bB 7 ?_
        ·go_wp2_with (go_at_call 99;refine (dB 5 0 [.mk kp np sp,.mk kb nb sb] _ 2 _ hszb.out hvb.out Pq5).mono ?_;rintro e q6 ⟨rfl,hbq6⟩)
         have Pq6:=Pq5.below hbq6;have Zq6:=zq5.keep hbq6;refine aX bq5 hbq6 ?_;intro bq6 lq6;refine fB [8,9,10] 2 (lT:=[_,_,_]) ?_;refine bZ (aD ?_);refine cP [12,13] (lB:=[_,_]) ?_;obtain ⟨d0,d1,d2,e0,e1,e2⟩:=bW Zq6;have szb:wu.heap.size≤q2.heap.size:=by first|exact bq0.size|exact bq2.size
         go_wp2_with fail
         go_meet
         exact ⟨q2.heap.size,rfl,rfl,((Zq6.set_ 0 _).set_ 1 _).set_ 2 _,((bq6.setCell szb _).setCell szb _).setCell szb _,szb⟩
      ·go_wp2_with fail
       refine iD ?_;intro q7 hbq7 zq7 seq7;have Pq7:=rq1.below hbq7;refine aX bq1 hbq7 ?_;intro bq7 lq7;refine bB 6 ?_
       ·go_wp2_with (go_at_call 71;refine (aP 5 _ ⟨_,_,_,rfl⟩ _).mono ?_;rintro e q8 ⟨rfl,hbq8⟩)
        have Pq8:=Pq7.below hbq8;have Zq8:=zq7.keep hbq8;refine aX bq7 hbq8 ?_;intro bq8 lq8;refine bB 7 ?_
        ·go_wp2_with (go_at_call 99;refine (dB 5 0 [.mk kp np sp,.mk kb nb sb] _ 2 _ hszb.out hvb.out Pq8).mono ?_;rintro e q9 ⟨rfl,hbq9⟩)
         have Pq9:=Pq8.below hbq9;have Zq9:=Zq8.keep hbq9;refine aX bq8 hbq9 ?_;intro bq9 lq9;refine fB [8,9,10] 2 (lT:=[_,_,_]) ?_;refine bZ (aD ?_);refine cP [12,13] (lB:=[_,_]) ?_;obtain ⟨d0,d1,d2,e0,e1,e2⟩:=bW Zq9;have szb:wu.heap.size≤q1.heap.size:=by first|exact bq0.size|exact bq1.size
         go_wp2_with fail
         go_meet
         exact ⟨q1.heap.size,rfl,rfl,((Zq9.set_ 0 _).set_ 1 _).set_ 2 _,((bq9.setCell szb _).setCell szb _).setCell szb _,szb⟩
     ·go_wp2_with fail
      refine iD ?_;intro q10 hbq10 zq10 seq10;refine aX bq0 hbq10 ?_;intro bq10 lq10;refine bB 5 ?_
      ·go_wp2_with fail
       refine iD ?_;intro q11 hbq11 zq11 seq11;have rq11:Rd q11 (some ⟨q10.heap.size,0,none⟩) 0 [.mk kp np sp,.mk kb nb sb]:=dP (s0:=sp) (s1:=sb) zq11 hlp hlb ((rpu.below bq10).below hbq11) ((rbu.below bq10).below hbq11);have Zq11:=zq10.keep hbq11;refine aX bq10 hbq11 ?_;intro bq11 lq11;refine bB 6 ?_
       ·go_wp2_with (go_at_call 71;refine (aP 5 _ ⟨_,_,_,rfl⟩ _).mono ?_;rintro e q12 ⟨rfl,hbq12⟩)
        have Zq12:=Zq11.keep hbq12;have Pq12:=rq11.below hbq12;refine aX bq11 hbq12 ?_;intro bq12 lq12;refine bB 7 ?_
        ·go_wp2_with (go_at_call 99;refine (dB 5 0 [.mk kp np sp,.mk kb nb sb] _ 2 _ hszb.out hvb.out Pq12).mono ?_;rintro e q13 ⟨rfl,hbq13⟩)
         have Zq13:=Zq12.keep hbq13;have Pq13:=Pq12.below hbq13;refine aX bq12 hbq13 ?_;intro bq13 lq13;refine fB [8,9,10] 2 (lT:=[_,_,_]) ?_;refine bZ (aD ?_);refine cP [12,13] (lB:=[_,_]) ?_;obtain ⟨d0,d1,d2,e0,e1,e2⟩:=bW Zq13;have szb:wu.heap.size≤q0.heap.size:=by first|exact bq0.size|exact bq0.size
         go_wp2_with fail
         go_meet
         exact ⟨q0.heap.size,rfl,rfl,((Zq13.set_ 0 _).set_ 1 _).set_ 2 _,((bq13.setCell szb _).setCell szb _).setCell szb _,szb⟩
    case rest=>
     obtain ⟨gz,rfl,rfl,hTz,hxy,hgz⟩:=hcut;have gy:=gu.trans (hxy.mono gu.size);have hJy:=hJu.keep hxy;have hZy:=hZu.keep hxy;have hPy:=hPu.keep hxy;have hIy:=hIu.keep hxy;obtain ⟨t0,t1,t2⟩:=hTz.three;have j0:=hJy.at_ (i:=0) rfl;have j1:=hJy.at_ (i:=1) rfl;have j2:=hJy.at_ (i:=2) rfl;have j3:=hJy.at_ (i:=3) rfl;have j4:=hJy.at_ (i:=4) rfl;have qb:=dO false;go_wp2_with (go_at_call 142;refine (kI C m cc k n _ 3 c fc ev 2 (by omega) false 0 0 none 0 0 _).mono ?_;rintro e w5 ⟨he,hb5⟩;obtain rfl:e = .returned (.int .i64 (cX false)):=he;have hZ5:=hZy.keep hb5;have g5:=gy.trans (hb5.mono gy.size);obtain ⟨d0,d1,d2,e0,e1,e2⟩:=bW hZ5)
     refine bodyPost_ret (v:=.tuple #[.agg Zr,.int .i64 (cX false)]) (by simp [results,results146,go_sem,d0,d1,d2]) rfl ⟨rfl,?_⟩;exact bP g5
end Go.Proofs.YtjlaenhcemacdaaGreat
