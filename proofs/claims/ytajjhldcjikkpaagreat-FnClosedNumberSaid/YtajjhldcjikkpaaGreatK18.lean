/- Parts of the proof. No condition. -/
import Derived.Test.YtajjhldcjikkpaaGreatK14
open Go.Proofs.Tryz
namespace Go.Proofs.YtajjhldcjikkpaaGreat
open Go.RowKit
set_option maxHeartbeats 16000000
set_option maxRecDepth 100000
set_option linter.unusedSimpArgs false
set_option linter.unusedVariables false
theorem xE (C:Option Addr)(m cc:Nat)(k n:Int)(A:Option Addr)(c fc:Nat)(ev:Array Value)(kp np:Int)(sp:List Tm)(t1 t2:Tm)(ka na:Int)(sa:List Tm)(k1 n1:Int)(s1:List Tm)(k2 n2:Int)(s2:List Tm)(ty:Nat→Option Tm)(w:World)(hf:wK (ty 0) aCk=true)(hvp:aE (.mk kp np sp)=true)(hva:aE (.mk 5 0 [.mk kp np sp,.mk 7 0 []])=true)(h1c:jC (ty 1) (.mk 5 0 [.mk kp np sp,.mk 7 0 []])=true)
  (hs1 : cG 1 0 (.mk kp np sp) = some (.mk k1 n1 s1)) (hs2 : cG 2 0 (.mk kp np sp) = some (.mk k2 n2 s2)) (hvst : aE (.mk 3 0 [.mk 6 0 [], .mk 3 0 [.mk 5 0 [.mk k1 n1 s1, .mk 1 0 []], .mk 5 0 [.mk k2 n2 s2, .mk 8 0 [.mk 1 1 []]]]]) = true) (h2c : jC (ty 2) (.mk 3 0 [.mk 6 0 [], .mk 3 0 [.mk 5 0 [.mk k1 n1 s1, .mk 1 0 []], .mk 5 0 [.mk k2 n2 s2, .mk 8 0 [.mk 1 1 []]]]]) = true) (h3c : jC (ty 3) (.mk 6 0 []) = true) (hvr : aE (.mk 5 0 [.mk kp np sp, .mk ka na sa]) = true) (hT : TyOk fc ev w ty) (hr : Rd w A 0 [.mk kp np sp, t1, t2, .mk ka na sa]) :
  Calls prog 111 #[.agg #[.slice C m cc,.int .i64 k,.int .i64 n,.slice A 4 c,.func (.func fc) #[] ev]] w (fD w 5 0 [.mk kp np sp,.mk ka na sa]):=by
 replace hf:=aD (show wK (ty 0) (.mk 6 0 [])=true from hf);replace hvp:=aD hvp;replace hva:=aD hva;replace h1c:=aD h1c;replace hs1:=aD hs1;replace hs2:=aD hs2;replace hvst:=aD hvst;replace h2c:=aD h2c;replace h3c:=aD h3c;replace hvr:=aD hvr;obtain ⟨bp,op,Ap,cp,rfl,i1,i2,i3,hlp,rp0⟩:=kZ hr;obtain ⟨Aa,ca,z1,z2,z3,hla,ra0⟩:=kd3 hr;simp only [Nat.zero_mul,Nat.add_zero,Nat.one_mul,Nat.reduceMul] at i1 i2 i3 z1 z2 z3
 have lbp:=kY _ _ i1;go_enter func111,ntmps111;go_upto_region 2 with fail
 refine aMa (show Blk _ w.heap.size #[.slice C m cc,.int .i64 k,.int .i64 n,.slice (some ⟨bp,op,none⟩) 4 c,.func (.func fc) #[] ev] from (((aC _ 95 _ rfl).alloc _).alloc _)) (show Blk _ (w.heap.size+1) Zr from ((aC _ 25 _ (by simp)).alloc _)) (show Blk _ (w.heap.size+1+1) (Ro kp np Ap sp.length cp) from (aC _ 25 _ (by simp))) bw3 ?_;intro wx hJx hZx hPx gx;have u0:=aF (hJx.at_ (i:=0) rfl);have u1:=aF (hJx.at_ (i:=1) rfl);have u2:=aF (hJx.at_ (i:=2) rfl);have u3:=aF (hJx.at_ (i:=3) rfl);have u4:=aF (hJx.at_ (i:=4) rfl);refine dX wx [3] [0] 4 3 (lT:=[_]) ?_;intro q0 bq0;refine bV (aD ?_);refine bG 1 ?_
 ·go_wp2_with (go_at_call 18;refine (aS 6 _ ⟨_,_,_,rfl⟩ _).mono ?_;rintro e q1 ⟨rfl,hbq1⟩)
  refine aY bq0 hbq1 ?_;intro bq1 lq1;refine bG 2 ?_
  ·go_wp2_with (go_at_call 134;refine (lD C m cc k n _ 4 c fc ev 0 (by omega) 6 0 [] none 0 ty _ hf.out ((hT.below gx).below bq1) Rd.nil).mono ?_;rintro e q2 ⟨rfl,hbq2⟩)
   refine aY bq1 hbq2 ?_;intro bq2 lq2;refine cD [3] (lB:=[_]) ?_;go_upto_region 5 with fail
   refine aN ?_;intro wu hwu;have hJu:=(show Blk wu w.heap.size _ by rw [hwu];exact hJx.keep bq2);have hZu:=(show Blk wu (w.heap.size+1) _ by rw [hwu];exact hZx.keep bq2);have hPu:Blk wu (w.heap.size+1+1) (Ro kp np Ap sp.length cp):=by rw [hwu];exact hPx.keep bq2
   have gu:Bw w wu:=by rw [hwu];exact gx.trans (bq2.mono gx.size)
   clear hwu;have rpu:=rp0.below gu;obtain ⟨v0,v1,v2⟩:=iD hPu;go_cut [6,7] (fun vp vc wy=>∃(gz:Nat) (Az:Option Addr) (cz:Nat),vp = .pointer (some ⟨gz,0,none⟩)∧vc = .int .i64 0∧Blk wy gz (Ro 5 0 Az 2 cz)∧Rd wy Az 0 [.mk kp np sp,.mk 7 0 []]∧Bw wu wy∧wu.heap.size≤gz)
   case first=>
    refine dX wu [5,6,7,9,10] [0] 11 10 (lT:=[_]) ?_;intro q0 bq0;refine bV (aD ?_);refine kX 1 8 ?_ ?_
    ·go_wp2_with (go_at_call 18;refine (aS 7 _ ⟨_,_,_,rfl⟩ _).mono ?_;rintro e q1 ⟨rfl,hbq1⟩)
     refine aY bq0 hbq1 ?_;intro bq1 lq1;refine kX 2 8 ?_ ?_
     ·go_wp2_with fail
      refine dO ?_;intro q2 hbq2 zq2 seq2;have rq2:Rd q2 (some ⟨q1.heap.size,0,none⟩) 0 [.mk kp np sp,.mk 7 0 []]:=cT (s0:=sp) (s1:=[]) zq2 hlp (by simp) ((rpu.below bq1).below hbq2) Rd.nil;refine aY bq1 hbq2 ?_;intro bq2 lq2;refine kX 3 8 ?_ ?_
      ·go_wp2_with (go_at_call 18;refine (aS 5 _ ⟨_,_,_,rfl⟩ _).mono ?_;rintro e q3 ⟨rfl,hbq3⟩)
       have Pq3:=rq2.below hbq3;refine aY bq2 hbq3 ?_;intro bq3 lq3;refine kX 4 8 ?_ ?_
       ·go_wp2_with (go_at_call 101;refine (bC 5 0 [.mk kp np sp,.mk 7 0 []] _ 2 _ hva.out Pq3).mono ?_;rintro e q4 ⟨rfl,hbq4⟩)
        have Pq4:=Pq3.below hbq4;refine aY bq3 hbq4 ?_;intro bq4 lq4;refine eS [5,6,7] 3 (lT:=[_,_,_]) ?_;refine bV (aD ?_);refine bG 8 ?_
        ·go_wp2_with fail
         refine dO ?_;intro q5 hbq5 zq5 seq5;have Pq5:=Pq4.below hbq5;refine aY bq4 hbq5 ?_;intro bq5 lq5;refine cD [9,10] (lB:=[_,_]) ?_;obtain ⟨d0,d1,d2,e0,e1,e2⟩:=bW zq5;have szb:wu.heap.size≤q4.heap.size:=by first|exact bq0.size|exact bq4.size
         go_wp2_with fail
         go_meet
         exact ⟨q4.heap.size,some ⟨q1.heap.size,0,none⟩,2,rfl,rfl,((zq5.set_ 0 _).set_ 1 _).set_ 2 _,aZ zq5 hva.out Pq5 _ _ _,((bq5.setCell szb _).setCell szb _).setCell szb _,szb⟩
       ·go_wp2_with fail
        refine dO ?_;intro q6 hbq6 zq6 seq6;have Pq6:=Pq3.below hbq6;refine aY bq3 hbq6 ?_;intro bq6 lq6;refine bG 4 ?_
        ·go_wp2_with (go_at_call 101;refine (bC 5 0 [.mk kp np sp,.mk 7 0 []] _ 2 _ hva.out Pq6).mono ?_;rintro e q7 ⟨rfl,hbq7⟩)
         have Pq7:=Pq6.below hbq7;have Zq7:=zq6.keep hbq7;refine aY bq6 hbq7 ?_;intro bq7 lq7;refine eS [5,6,7] 2 (lT:=[_,_,_]) ?_;refine bV (aD ?_);refine cD [9,10] (lB:=[_,_]) ?_;obtain ⟨d0,d1,d2,e0,e1,e2⟩:=bW Zq7;have szb:wu.heap.size≤q3.heap.size:=by first|exact bq0.size|exact bq3.size
         go_wp2_with fail
         go_meet
         exact ⟨q3.heap.size,some ⟨q1.heap.size,0,none⟩,2,rfl,rfl,((Zq7.set_ 0 _).set_ 1 _).set_ 2 _,aZ Zq7 hva.out Pq7 _ _ _,((bq7.setCell szb _).setCell szb _).setCell szb _,szb⟩
      ·go_wp2_with fail
       refine dO ?_;intro q8 hbq8 zq8 seq8;have Pq8:=rq2.below hbq8;refine aY bq2 hbq8 ?_;intro bq8 lq8;refine bG 3 ?_
       ·go_wp2_with (go_at_call 18;refine (aS 5 _ ⟨_,_,_,rfl⟩ _).mono ?_;rintro e q9 ⟨rfl,hbq9⟩)
        have Pq9:=Pq8.below hbq9;have Zq9:=zq8.keep hbq9;refine aY bq8 hbq9 ?_;intro bq9 lq9;refine bG 4 ?_
        ·go_wp2_with (go_at_call 101;refine (bC 5 0 [.mk kp np sp,.mk 7 0 []] _ 2 _ hva.out Pq9).mono ?_;rintro e q10 ⟨rfl,hbq10⟩)
         have Pq10:=Pq9.below hbq10;have Zq10:=Zq9.keep hbq10;refine aY bq9 hbq10 ?_;intro bq10 lq10;refine eS [5,6,7] 2 (lT:=[_,_,_]) ?_;refine bV (aD ?_);refine cD [9,10] (lB:=[_,_]) ?_;obtain ⟨d0,d1,d2,e0,e1,e2⟩:=bW Zq10;have szb:wu.heap.size≤q2.heap.size:=by first|exact bq0.size|exact bq2.size
         go_wp2_with fail
         go_meet
         exact ⟨q2.heap.size,some ⟨q1.heap.size,0,none⟩,2,rfl,rfl,((Zq10.set_ 0 _).set_ 1 _).set_ 2 _,aZ Zq10 hva.out Pq10 _ _ _,((bq10.setCell szb _).setCell szb _).setCell szb _,szb⟩
     ·go_wp2_with fail
      refine dO ?_;intro q11 hbq11 zq11 seq11;refine aY bq1 hbq11 ?_;intro bq11 lq11;refine bG 2 ?_
      ·go_wp2_with fail
       refine dO ?_;intro q12 hbq12 zq12 seq12;have rq12:Rd q12 (some ⟨q11.heap.size,0,none⟩) 0 [.mk kp np sp,.mk 7 0 []]:=cT (s0:=sp) (s1:=[]) zq12 hlp (by simp) ((rpu.below bq11).below hbq12) Rd.nil;have Zq12:=zq11.keep hbq12;refine aY bq11 hbq12 ?_;intro bq12 lq12;refine bG 3 ?_
       ·go_wp2_with (go_at_call 18;refine (aS 5 _ ⟨_,_,_,rfl⟩ _).mono ?_;rintro e q13 ⟨rfl,hbq13⟩)
        have Zq13:=Zq12.keep hbq13;have Pq13:=rq12.below hbq13;refine aY bq12 hbq13 ?_;intro bq13 lq13;refine bG 4 ?_
        ·go_wp2_with (go_at_call 101;refine (bC 5 0 [.mk kp np sp,.mk 7 0 []] _ 2 _ hva.out Pq13).mono ?_;rintro e q14 ⟨rfl,hbq14⟩)
         have Zq14:=Zq13.keep hbq14;have Pq14:=Pq13.below hbq14;refine aY bq13 hbq14 ?_;intro bq14 lq14;refine eS [5,6,7] 2 (lT:=[_,_,_]) ?_;refine bV (aD ?_);refine cD [9,10] (lB:=[_,_]) ?_;obtain ⟨d0,d1,d2,e0,e1,e2⟩:=bW Zq14;have szb:wu.heap.size≤q1.heap.size:=by first|exact bq0.size|exact bq1.size
         go_wp2_with fail
         go_meet
         exact ⟨q1.heap.size,some ⟨q11.heap.size,0,none⟩,2,rfl,rfl,((Zq14.set_ 0 _).set_ 1 _).set_ 2 _,aZ Zq14 hva.out Pq14 _ _ _,((bq14.setCell szb _).setCell szb _).setCell szb _,szb⟩
    ·go_wp2_with fail
     refine dO ?_;intro q15 hbq15 zq15 seq15;refine aY bq0 hbq15 ?_;intro bq15 lq15;refine bG 1 ?_
     ·go_wp2_with (go_at_call 18;refine (aS 7 _ ⟨_,_,_,rfl⟩ _).mono ?_;rintro e q16 ⟨rfl,hbq16⟩)
      have Zq16:=zq15.keep hbq16;refine aY bq15 hbq16 ?_;intro bq16 lq16;refine bG 2 ?_
      ·go_wp2_with fail
       refine dO ?_;intro q17 hbq17 zq17 seq17;have rq17:Rd q17 (some ⟨q16.heap.size,0,none⟩) 0 [.mk kp np sp,.mk 7 0 []]:=cT (s0:=sp) (s1:=[]) zq17 hlp (by simp) ((rpu.below bq16).below hbq17) Rd.nil;have Zq17:=Zq16.keep hbq17;refine aY bq16 hbq17 ?_;intro bq17 lq17;refine bG 3 ?_
       ·go_wp2_with (go_at_call 18;refine (aS 5 _ ⟨_,_,_,rfl⟩ _).mono ?_;rintro e q18 ⟨rfl,hbq18⟩)
        have Zq18:=Zq17.keep hbq18;have Pq18:=rq17.below hbq18;refine aY bq17 hbq18 ?_;intro bq18 lq18;refine bG 4 ?_
        ·go_wp2_with (go_at_call 101;refine (bC 5 0 [.mk kp np sp,.mk 7 0 []] _ 2 _ hva.out Pq18).mono ?_;rintro e q19 ⟨rfl,hbq19⟩)
         have Zq19:=Zq18.keep hbq19;have Pq19:=Pq18.below hbq19;refine aY bq18 hbq19 ?_;intro bq19 lq19;refine eS [5,6,7] 2 (lT:=[_,_,_]) ?_;refine bV (aD ?_);refine cD [9,10] (lB:=[_,_]) ?_;obtain ⟨d0,d1,d2,e0,e1,e2⟩:=bW Zq19;have szb:wu.heap.size≤q0.heap.size:=by first|exact bq0.size|exact bq0.size
         go_wp2_with fail
         go_meet
         exact ⟨q0.heap.size,some ⟨q16.heap.size,0,none⟩,2,rfl,rfl,((Zq19.set_ 0 _).set_ 1 _).set_ 2 _,aZ Zq19 hva.out Pq19 _ _ _,((bq19.setCell szb _).setCell szb _).setCell szb _,szb⟩
   case rest=>
    obtain ⟨gz,Az,cz,rfl,rfl,hTz,rz,hxy,hgz⟩:=hcut;have gy:=gu.trans (hxy.mono gu.size);have hJy:=hJu.keep hxy;have hZy:=hZu.keep hxy;have hPy:=hPu.keep hxy;have hgw:w.heap.size≤gz:=Nat.le_trans gu.size hgz;have lJ:=hJu.lt;have lZ:=hZu.lt;have lP:=hPu.lt;have hn1:w.heap.size≠gz:=by omega
    have hn2:w.heap.size+1≠gz:=by omega
    have hn3:(w.heap.size+1+1)≠gz:=by omega
    have hn1':gz≠w.heap.size:=by omega
    obtain ⟨t0,t1,t2⟩:=hTz.three;have j0:=hJy.at_ (i:=0) rfl;have j1:=hJy.at_ (i:=1) rfl;have j2:=hJy.at_ (i:=2) rfl;have j3:=hJy.at_ (i:=3) rfl;have j4:=hJy.at_ (i:=4) rfl;clear v0 v1 v2;go_upto_region 13 with (first
     | (go_at_call 108;have _t:=tok6;refine (fC C m cc k n _ 4 c fc ev 2 (by omega) 3 0 [.mk 6 0 [],.mk 3 0 [.mk 5 0 [.mk k1 n1 s1,.mk 1 0 []],.mk 5 0 [.mk k2 n2 s2,.mk 8 0 [.mk 1 1 []]]]] A6 c6 ty _ h2c.out (hT.below (((g6.setCell (p:=⟨gz,0,none⟩) hgw _).setCell (p:=⟨gz,1,none⟩) hgw _).setCell (p:=⟨gz,2,none⟩) hgw _)) r6s).mono ?_;rintro e w7 ⟨rfl,hb7⟩;have hJ7:=(((hJ6.far (p:=⟨gz,0,none⟩) hn1 _).far (p:=⟨gz,1,none⟩) hn1 _).far (p:=⟨gz,2,none⟩) hn1 _).keep hb7;have hZ7:=(((hZ6.far (p:=⟨gz,0,none⟩) hn2 _).far (p:=⟨gz,1,none⟩) hn2 _).far (p:=⟨gz,2,none⟩) hn2 _).keep hb7;have hP7:=(((hP6.far (p:=⟨gz,0,none⟩) hn3 _).far (p:=⟨gz,1,none⟩) hn3 _).far (p:=⟨gz,2,none⟩) hn3 _).keep hb7;have g7:=(((g6.setCell (p:=⟨gz,0,none⟩) hgw _).setCell (p:=⟨gz,1,none⟩) hgw _).setCell (p:=⟨gz,2,none⟩) hgw _).trans (hb7.mono (((g6.setCell (p:=⟨gz,0,none⟩) hgw _).setCell (p:=⟨gz,1,none⟩) hgw _).setCell (p:=⟨gz,2,none⟩) hgw _).size))
     | (go_at_call 135;have _t:=tok5;refine (mB kp np sp Ap cp k1 n1 s1 k2 n2 s2 _ hvp.out hs1.out hs2.out hvst.out (rp0.below g5)).mono ?_;rintro e w6 ⟨A6,c6,rfl,hl6,r6,hb6⟩;have hJ6:=hJ5.keep hb6;have hZ6:=hZ5.keep hb6;have hP6:=hP5.keep hb6;have hG6:=hG5.keep hb6;have g6:=g5.trans (hb6.mono g5.size);clear j0 j1 j2 j3 j4;have j0:=hJ6.at_ (i:=0) rfl;have j1:=hJ6.at_ (i:=1) rfl;have j2:=hJ6.at_ (i:=2) rfl;have j3:=hJ6.at_ (i:=3) rfl;have j4:=hJ6.at_ (i:=4) rfl;obtain ⟨t0,t1,t2,f0,f1,f2⟩:=bW hG6;have lG:=hG5.lt;have r6s:=(((r6.setCell (a:=⟨gz,0,none⟩) (by simp;omega) (.int .i64 3)).setCell (a:=⟨gz,1,none⟩) (by simp;omega) (.int .i64 0)).setCell (a:=⟨gz,2,none⟩) (by simp;omega) (.slice A6 2 c6)).rd;have tok6:=trivial)
     | (go_at_call 108;refine (fC C m cc k n _ 4 c fc ev 1 (by omega) 5 0 [.mk kp np sp,.mk 7 0 []] Az cz ty _ h1c.out (hT.below gy) rz).mono ?_;rintro e w5 ⟨rfl,hb5⟩;have hJ5:=hJy.keep hb5;have hZ5:=hZy.keep hb5;have hP5:=hPy.keep hb5;have hG5:=hTz.keep hb5;have g5:=gy.trans (hb5.mono gy.size);clear t0 t1 t2;obtain ⟨p0,p1,p2⟩:=hP5.three;have tok5:=trivial))
    refine aN ?_;intro wv hwv;have hJv:=(show Blk wv w.heap.size _ by rw [hwv];exact hJ7);have hZv:=(show Blk wv (w.heap.size+1) _ by rw [hwv];exact hZ7);have hPv:=(show Blk wv (w.heap.size+1+1) _ by rw [hwv];exact hP7);have gv:Bw w wv:=by rw [hwv];exact g7
    clear hwv j0 j1 j2 j3 j4;have u0:=aF (hJv.at_ (i:=0) rfl);have u1:=aF (hJv.at_ (i:=1) rfl);have u2:=aF (hJv.at_ (i:=2) rfl);have u3:=aF (hJv.at_ (i:=3) rfl);have u4:=aF (hJv.at_ (i:=4) rfl);refine dX wv [3] [0] 4 3 (lT:=[_]) ?_;intro q0 bq0;refine bV (aD ?_);refine bG 1 ?_
    ·go_wp2_with (go_at_call 18;refine (aS 6 _ ⟨_,_,_,rfl⟩ _).mono ?_;rintro e q1 ⟨rfl,hbq1⟩)
     refine aY bq0 hbq1 ?_;intro bq1 lq1;refine bG 2 ?_
     ·go_wp2_with (go_at_call 104;refine (jB C m cc k n _ 4 c fc ev 3 (by omega) 6 0 [] none 0 ty _ h3c.out ((hT.below gv).below bq1) Rd.nil).mono ?_;rintro e q2 ⟨rfl,hbq2⟩)
      refine aY bq1 hbq2 ?_;intro bq2 lq2;refine cD [3] (lB:=[_]) ?_;go_upto_region 16 with fail
      refine aN ?_;intro ws hws;have hJs:=(show Blk ws w.heap.size _ by rw [hws];exact hJv.keep bq2);have hZs:=(show Blk ws (w.heap.size+1) _ by rw [hws];exact hZv.keep bq2);have hPs:=(show Blk ws (w.heap.size+1+1) _ by rw [hws];exact hPv.keep bq2);have gs:Bw w ws:=by rw [hws];exact gv.trans ((bq2).mono gv.size)
      clear hws;have rps:=rp0.below gs;have ras:=ra0.below gs;obtain ⟨v0,v1,v2⟩:=iD hPs;have u3:=aF (hJs.at_ (i:=3) rfl);have y0:=aF ((bU gs) _ _ z1);have y1:=aF ((bU gs) _ _ z2);have y2:=aF ((bU gs) _ _ z3);refine dX ws [9,10,11,12] [0,1,2,3,4,5] 13 7 (lT:=[_,_,_,_,_,_]) ?_;intro q0 bq0;refine bV (aD ?_);refine bG 6 ?_
      ·go_wp2_with fail
       refine dO ?_;intro q1 hbq1 zq1 seq1;have rq1:Rd q1 (some ⟨q0.heap.size,0,none⟩) 0 [.mk kp np sp,.mk ka na sa]:=cT (s0:=sp) (s1:=sa) zq1 hlp hla ((rps.below bq0).below hbq1) ((ras.below bq0).below hbq1);refine aY bq0 hbq1 ?_;intro bq1 lq1;refine bG 7 ?_
       ·go_wp2_with (go_at_call 18;refine (aS 5 _ ⟨_,_,_,rfl⟩ _).mono ?_;rintro e q2 ⟨rfl,hbq2⟩)
        have Pq2:=rq1.below hbq2;refine aY bq1 hbq2 ?_;intro bq2 lq2;refine bG 8 ?_
        ·go_wp2_with (go_at_call 101;refine (bC 5 0 [.mk kp np sp,.mk ka na sa] _ 2 _ hvr.out Pq2).mono ?_;rintro e q3 ⟨rfl,hbq3⟩)
         have Pq3:=Pq2.below hbq3;refine aY bq2 hbq3 ?_;intro bq3 lq3;refine eS [9,10] 2 (lT:=[_,_]) ?_;refine bV (aD ?_);refine cD [11,12] (lB:=[_,_]) ?_;have hZ2:=hZs.keep bq3;obtain ⟨d0,d1,d2,e0,e1,e2⟩:=bW hZ2;have gf:=gs.trans (bq3.mono gs.size);have rP:=Pq3;go_wp2_with fail
         refine bodyPost_ret (v:=.tuple #[.agg (Ro 5 0 (some ⟨q0.heap.size,0,none⟩) 2 2),.int .i64 0]) (by simp [results,results111,go_sem,d0,d1,d2]) rfl ⟨some ⟨q0.heap.size,0,none⟩,2,rfl,by simp,aZ hZ2 hvr.out rP _ _ _,?_⟩;exact ((gf.setCell (by simp) _).setCell (by simp) _).setCell (by simp) _
end Go.Proofs.YtajjhldcjikkpaaGreat
