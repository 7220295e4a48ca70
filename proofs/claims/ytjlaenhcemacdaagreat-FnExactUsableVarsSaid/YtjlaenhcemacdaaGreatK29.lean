/- Parts of the proof. No condition. -/
import Derived.Test.YtjlaenhcemacdaaGreatK25
import Derived.Test.YtjlaenhcemacdaaGreatK28
open Go.Proofs.Tryz
namespace Go.Proofs.YtjlaenhcemacdaaGreat
open Go.RowKit
set_option maxHeartbeats 16000000
set_option maxRecDepth 100000
set_option linter.unusedSimpArgs false
set_option linter.unusedVariables false
theorem aLp {α β γ:Type}(o:Option (Rs α))(f:α→Option (Rs β))(g:β→Option (Rs γ)):bd (bd o f) g=bd o fun a=>bd (f a) g:=by
 cases o with
 | none=>rfl
 | some x=>cases x<;>rfl
theorem aBo {u t:Tm}(hu:aE u=true)(ht:aE t=true)(hv:aE (bX u 0 0 t)=false):fM 0 u t=none:=by
 rw [nA hu ht,vO,if_neg (by rw [hv];decide)]
theorem vW {u t:Tm}(hu:aE u=true)(ht:aE t=true)(hv:aE (bX u 0 0 t)=true):fM 0 u t=some (bX u 0 0 t):=by
 rw [nA hu ht,vO,if_pos hv]
theorem sA (w:World):Calls prog 143 #[.agg Zr] w fun e w'=>e = .returned (.agg Zr)∧Bw w w':=by
 go_enter func143,ntmps143;go_wp2_with fail
 refine bodyPost_ret (v:=.agg Zr) (by simp [results,results143,go_sem]) rfl ⟨rfl,?_⟩;exact bw2
theorem aJm {s:Tm}{t:Tm}{k:Int}(h:bd (some (lD s)) (kN k)=some (.ok t)):aE t=true∧t.k=k:=nJ (o:=some (.ok s)) h
theorem aCc (C:Option Addr)(m cc:Nat)(k n:Int)(A:Option Addr)(c fc:Nat)(ev:Array Value)(kp np:Int)(sp:List Tm)(ka na:Int)(sa:List Tm)(t2':Tm)(r:Rs Tm)(ty:Nat→Option (Rs Tm))(w:World)
  (hs : (bd (pJ (ty 0)) fun _ => bd (some (lD (.mk kp np sp))) fun h => bd (kN 13 h) fun h => bd (kF (ty 1) (aI h.ks 0)) fun _ => vb (bX (.mk ka na sa) 0 0 (aI h.ks 1)) (bd (kF (ty 2) (bX (.mk ka na sa) 0 0 (aI h.ks 1))) fun _ => some (.ok (.mk kp np sp)))) = some r)
  (hT : TyX fc ev w ty) (hv : TyV ty) (hvx : aE (.mk ka na sa) = true) (hvp : aE (.mk kp np sp) = true) (hr : Rd w A 0 [.mk kp np sp, .mk ka na sa, t2']) :
  Calls prog 147 #[.agg #[.slice C m cc,.int .i64 k,.int .i64 n,.slice A 3 c,.func (.func fc) #[] ev]] w (pK w r):=by
 rcases aL hs with ⟨b,h1,rfl⟩|⟨l,h1,hs⟩
 ·have qb:=dO b;replace h1:=aD h1;clear hs hvx hvp;go_enter func147,ntmps147;go_wp2_with (go_at_call 155;refine (fU C m cc k n _ 3 c fc ev 0 (by omega) _ ty _ h1.out (hT.below bw2) hv).mono ?_;rintro e w1 ⟨rfl,hb1⟩;have hZ1:=iU hb1;have g1:Bw w w1:=bU bw2 hb1;obtain ⟨d0,d1,d2,e0,e1,e2⟩:=bW hZ1)
  refine bodyPost_ret (v:=.tuple #[.agg Zr,.int .i64 (cX b)]) (by simp [results,results147,go_sem,d0,d1,d2]) rfl ⟨rfl,?_⟩;exact bP g1
 rw [← aLp] at hs;have hzx:=aH hvx;have hshx:=aD (aZ hvx);have hvx':=aD hvx;replace h1:=aD (wH h1);replace hvp:=aD hvp;clear hvx;obtain ⟨bp,op,Ap,cp,rfl,i1,i2,i3,hlp,rp0⟩:=oJ hr;obtain ⟨Aa,ca,a1,a2,a3,hla,ra0⟩:=tV hr;simp only [Nat.zero_mul,Nat.add_zero,Nat.one_mul,Nat.reduceMul] at i1 i2 i3 a1 a2 a3
 rcases aL hs with ⟨b,hsh,rfl⟩|⟨h,hsh,hs⟩
 ·have qb:=dO b;replace hsh:=aD hsh;clear hs;go_enter func147,ntmps147;go_upto_region 5 with (first
   | (go_at_call 107;have _t:=tok1;refine (iA kp np sp Ap cp 13 _ _ hvp.out hsh.out (rp0.below g1)).mono ?_;rintro e w2 ⟨rfl,hb2⟩;have hZ2:=hZ1.keep hb2;have hJ2:=hJ1.keep hb2;have g2:=g1.trans (hb2.mono g1.size);clear j3 p0 p1 p2)
   | (go_at_call 155;refine (iX C m cc k n _ 3 c fc ev 0 (by omega) l _ _ h1.out (hT.ok.below bw2)).mono ?_;rintro e w1 ⟨rfl,hb1⟩;have hZ1:=iU hb1;have hJ1:=((aC w 105 #[.slice C m cc,.int .i64 k,.int .i64 n,.slice (some ⟨bp,op,none⟩) 3 c,.func (.func fc) #[] ev] rfl).alloc (.cells Zr 32)).keep hb1;have g1:Bw w w1:=bU bw2 hb1;have j3:=hJ1.at_ (i:=3) rfl;have p0:=(cM g1) _ _ i1;have p1:=(cM g1) _ _ i2;have p2:=(cM g1) _ _ i3;have tok1:=trivial))
  refine aW ?_;intro wx hwx;have hJx:=(show Blk wx w.heap.size _ by rw [hwx];exact hJ2.alloc _);have hZx:=(show Blk wx (w.heap.size+1) _ by rw [hwx];exact hZ2.alloc _);have h6x:Blk wx w2.heap.size Zr:=by rw [hwx];exact aC _ 32 _ rfl
  have gx:Bw w wx:=by rw [hwx];exact g2.alloc g2.size _
  clear hwx;have u0:=aF (hJx.at_ (i:=0) rfl);have u1:=aF (hJx.at_ (i:=1) rfl);have u2:=aF (hJx.at_ (i:=2) rfl);have u3:=aF (hJx.at_ (i:=3) rfl);have u4:=aF (hJx.at_ (i:=4) rfl);obtain ⟨v0,v1,v2⟩:=jR h6x;refine eT wx [5] [0,1,3] 6 3 (lT:=[_,_,_]) ?_;intro q0 bq0;refine bZ (aD ?_);refine bB 2 ?_
  ·go_wp2_with (go_at_call 143;refine (sA _).mono ?_;rintro e q1 ⟨rfl,hbq1⟩)
   refine aX bq0 hbq1 ?_;intro bq1 lq1;refine bB 4 ?_
   ·go_wp2_with (go_at_call 142;refine (kI C m cc k n _ 3 c fc ev 1 (by omega) b 0 0 none 0 0 _).mono ?_;rintro e q2 ⟨he,hbq2⟩;obtain rfl:e = .returned (.int .i64 (cX b)):=he)
    refine aX bq1 hbq2 ?_;intro bq2 lq2;refine cP [5] (lB:=[_]) ?_;have hZ3:=hZx.keep bq2;have g3:=gx.trans (bq2.mono gx.size);obtain ⟨d0,d1,d2,e0,e1,e2⟩:=bW hZ3;go_wp2_with fail
    refine bodyPost_ret (v:=.tuple #[.agg Zr,.int .i64 (cX b)]) (by simp [results,results147,go_sem,d0,d1,d2]) rfl ⟨rfl,?_⟩;exact bP g3
 obtain ⟨hvh,hkh⟩:=aJm hsh;obtain ⟨kh,n3,sh⟩:=h;obtain rfl:kh=13:=hkh;obtain ⟨kd,nd,sd,ke,ne,se,rfl⟩:=vZ hvh rfl;have hvd:=aD (aO hvh (t:=.mk kd nd sd) (by simp));have hvb:=aO hvh (t:=.mk ke ne se) (by simp);have hzb:=aH hvb;have hshb:=aD (aZ hvb);replace hvb:=aD hvb;replace hsh:=aD (aMk hsh);replace hs:Hid ((bd (kF (ty 1) (.mk kd nd sd)) fun _=>vb (bX (.mk ka na sa) 0 0 (.mk ke ne se)) (bd (kF (ty 2) (bX (.mk ka na sa) 0 0 (.mk ke ne se))) fun _=>some (.ok (.mk kp np sp))))=some r):=aD hs;clear hvh;go_enter func147,ntmps147;go_upto_region 5 with (first
  | (go_at_call 107;have _t:=tok1;refine (lF kp np sp Ap cp 13 n3 [.mk kd nd sd,.mk ke ne se] _ hsh.out (rp0.below g1)).mono ?_;rintro e w2 ⟨A3,c3,rfl,hl3,r3,hb2⟩;have hZ2:=hZ1.keep hb2;have hJ2:=hJ1.keep hb2;have g2:=g1.trans (hb2.mono g1.size);clear j3 p0 p1 p2)
  | (go_at_call 155;refine (iX C m cc k n _ 3 c fc ev 0 (by omega) l _ _ h1.out (hT.ok.below bw2)).mono ?_;rintro e w1 ⟨rfl,hb1⟩;have hZ1:=iU hb1;have hJ1:=((aC w 105 #[.slice C m cc,.int .i64 k,.int .i64 n,.slice (some ⟨bp,op,none⟩) 3 c,.func (.func fc) #[] ev] rfl).alloc (.cells Zr 32)).keep hb1;have g1:Bw w w1:=bU bw2 hb1;have j3:=hJ1.at_ (i:=3) rfl;have p0:=(cM g1) _ _ i1;have p1:=(cM g1) _ _ i2;have p2:=(cM g1) _ _ i3;have tok1:=trivial))
 refine aW ?_;intro wx hwx;have hJx:=(show Blk wx w.heap.size _ by rw [hwx];exact hJ2.alloc _);have hZx:=(show Blk wx (w.heap.size+1) _ by rw [hwx];exact hZ2.alloc _);have h6x0:Blk wx w2.heap.size (Ro 13 n3 A3 2 c3):=by rw [hwx];exact aC _ 32 _ rfl
 have gx:Bw w wx:=by rw [hwx];exact g2.alloc g2.size _
 have r3x:Rd wx A3 0 [.mk kd nd sd,.mk ke ne se]:=by rw [hwx];exact r3.alloc _
 clear hwx;obtain ⟨be,oe,x1,x2,x3,Ae,ce,rfl,hk2,c1,c2,c3',hle,re0⟩:=r3x.at_ (j:=1) (by simp);injection hk2 with e1 e2 e3;subst e1 e2 e3;simp only [Nat.one_mul] at c1 c2 c3'
 have h6x:=h6x0;have u0:=aF (hJx.at_ (i:=0) rfl);have u1:=aF (hJx.at_ (i:=1) rfl);have u2:=aF (hJx.at_ (i:=2) rfl);have u3:=aF (hJx.at_ (i:=3) rfl);have u4:=aF (hJx.at_ (i:=4) rfl);obtain ⟨v0,v1,v2⟩:=jR h6x;refine eT wx [5] [0,1,3] 6 3 (lT:=[_,_,_]) ?_;intro q0 bq0;refine bZ (aD ?_);refine bB 2 ?_
 ·go_wp2_with (go_at_call 143;refine (oQ 13 n3 kd nd sd [.mk ke ne se] _ c3 _ (r3x.below bq0) (by simp)).mono ?_;rintro e q1 ⟨Ak,ck,rfl,hlk,rkq1,hbq1⟩)
  refine aX bq0 hbq1 ?_;intro bq1 lq1;refine bB 4 ?_
  ·rcases aL hs.out with ⟨b,h2c,rfl⟩|⟨u,h2c,hs⟩
   ·have qb:=dO b;replace h2c:=aD h2c;go_wp2_with (go_at_call 142;refine (lV C m cc k n _ 3 c fc ev 1 (by omega) kd nd sd Ak ck _ ty _ h2c.out ((hT.below gx).below bq1) hv hvd.out rkq1).mono ?_;rintro e q2 ⟨he,hbq2⟩;obtain rfl:e = .returned (.int .i64 (cX b)):=he)
    refine aX bq1 hbq2 ?_;intro bq2 lq2;refine cP [5] (lB:=[_]) ?_;have hZ3:=hZx.keep bq2;have g3:=gx.trans (bq2.mono gx.size);obtain ⟨d0,d1,d2,e0,e1,e2⟩:=bW hZ3;go_wp2_with fail
    refine bodyPost_ret (v:=.tuple #[.agg Zr,.int .i64 (cX b)]) (by simp [results,results147,go_sem,d0,d1,d2]) rfl ⟨rfl,?_⟩;exact bP g3
   ·rcases pF hs with ⟨hvz0,hs⟩|⟨hvz0,rfl⟩
    ·skip
     have hsu0:=vW hvx'.out hvb.out hvz0;obtain ⟨kz,nz,sz,hz⟩:∃a b l,bX (.mk ka na sa) 0 0 (.mk ke ne se) = .mk a b l:=by cases bX (.mk ka na sa) 0 0 (.mk ke ne se) with|mk a b l=>exact ⟨a,b,l,rfl⟩
     rw [hz] at hsu0 hvz0 hs;have hvz:=aD hvz0;have hsu:=aD hsu0;replace h2c:=aD (lM h2c);replace hs:=aD hs;clear hsu0 hvz0 hz;go_wp2_with (go_at_call 142;refine (iK C m cc k n _ 3 c fc ev 1 (by omega) kd nd sd Ak ck _ _ h2c.out ((hT.ok.below gx).below bq1) rkq1).mono ?_;rintro e q2 ⟨rfl,hbq2⟩)
     have Kq2:=rkq1.below hbq2;refine aX bq1 hbq2 ?_;intro bq2 lq2;refine cP [5] (lB:=[_]) ?_;go_upto_region 8 with fail
     refine aW ?_;intro wu hwu;have hJu:=(show Blk wu w.heap.size _ by rw [hwu];exact hJx.keep bq2);have hZu:=(show Blk wu (w.heap.size+1) _ by rw [hwu];exact hZx.keep bq2);have h6u:=(show Blk wu w2.heap.size _ by rw [hwu];exact h6x.keep bq2);have gu:Bw w wu:=by rw [hwu];exact gx.trans (bq2.mono gx.size)
     have kxu:Bw wx wu:=by rw [hwu];exact bq2
     clear hwu u0 u1 u2 u3 u4 v0 v1 v2;have reu:=re0.below kxu;have rau:=ra0.below gu;have v2:=aF h6u.three.2.2;have u3:=aF (hJu.at_ (i:=3) rfl);have y0:=aF ((cM kxu) _ _ c1);have y1:=aF ((cM kxu) _ _ c2);have y2:=aF ((cM kxu) _ _ c3');have z0:=aF ((cM gu) _ _ a1);have z1:=aF ((cM gu) _ _ a2);have z2:=aF ((cM gu) _ _ a3);go_cut [7,9] (fun vc vp wy=>∃(gz:Nat) (Az:Option Addr) (cz:Nat),vp = .pointer (some ⟨gz,0,none⟩)∧vc = .int .i64 0∧Blk wy gz (Ro kz nz Az sz.length cz)∧Rd wy Az 0 sz∧Bw wu wy∧wu.heap.size≤gz)
     case first=>
      refine eT wu [10,11,13,14,15,17,18] [0,1,2,3,4,5,6,7,8] 19 10 (lT:=[_,_,_,_,_,_,_,_,_]) ?_;intro q0 bq0;refine bZ (aD ?_);refine nK 9 16 ?_ ?_
      ·go_wp2_with (go_at_call 95;refine (fH ke ne se Ae ce 0 ka na sa Aa ca _ (by omega) hshx.out (by omega) (rau.below bq0) (by omega) hshb.out (reu.below bq0)).mono ?_;rw [hsu.out];intro e q1 hgo;obtain ⟨A7,c7,rfl,hl7,hfq1,hbq1⟩:=cS hgo;clear hgo)
       have rdq1:=hfq1.rd;refine aX bq0 hbq1 ?_;intro bq1 lq1;refine fB [10,11] 7 (lT:=[_,_]) ?_;refine bZ (aD ?_);refine nK 12 16 ?_ ?_
       ·go_wp2_with (go_at_call 99;refine (cJ kz nz sz A7 c7 _ hvz.out rdq1).mono ?_;rintro e q2 ⟨rfl,hbq2⟩)
        have Oq2:=rdq1.below hbq2;refine aX bq1 hbq2 ?_;intro bq2 lq2;refine fB [13,14,15] 3 (lT:=[_,_,_]) ?_;refine bZ (aD ?_);refine bB 16 ?_
        ·go_wp2_with fail
         refine iD ?_;intro q3 hbq3 zq3 seq3;have Oq3:=Oq2.below hbq3;refine aX bq2 hbq3 ?_;intro bq3 lq3;refine cP [17,18] (lB:=[_,_]) ?_;obtain ⟨d0,d1,d2,e0,e1,e2⟩:=bW zq3;have szb:wu.heap.size≤q2.heap.size:=by first|exact bq0.size|exact bq2.size
         go_wp2_with fail
         go_meet
         exact ⟨q2.heap.size,A7,c7,rfl,rfl,((zq3.set_ 0 _).set_ 1 _).set_ 2 _,bQ zq3 hvz.out Oq3 _ _ _,((bq3.setCell szb _).setCell szb _).setCell szb _,szb⟩
       ·go_wp2_with fail
        refine iD ?_;intro q4 hbq4 zq4 seq4;have Oq4:=rdq1.below hbq4;refine aX bq1 hbq4 ?_;intro bq4 lq4;refine bB 12 ?_
        ·go_wp2_with (go_at_call 99;refine (cJ kz nz sz A7 c7 _ hvz.out Oq4).mono ?_;rintro e q5 ⟨rfl,hbq5⟩)
         have Oq5:=Oq4.below hbq5;have Zq5:=zq4.keep hbq5;refine aX bq4 hbq5 ?_;intro bq5 lq5;refine fB [13,14,15] 2 (lT:=[_,_,_]) ?_;refine bZ (aD ?_);refine cP [17,18] (lB:=[_,_]) ?_;obtain ⟨d0,d1,d2,e0,e1,e2⟩:=bW Zq5;have szb:wu.heap.size≤q1.heap.size:=by first|exact bq0.size|exact bq1.size
         go_wp2_with fail
         go_meet
         exact ⟨q1.heap.size,A7,c7,rfl,rfl,((Zq5.set_ 0 _).set_ 1 _).set_ 2 _,bQ Zq5 hvz.out Oq5 _ _ _,((bq5.setCell szb _).setCell szb _).setCell szb _,szb⟩
      ·go_wp2_with fail
       refine iD ?_;intro q6 hbq6 zq6 seq6;refine aX bq0 hbq6 ?_;intro bq6 lq6;refine bB 9 ?_
       ·go_wp2_with (go_at_call 95;refine (fH ke ne se Ae ce 0 ka na sa Aa ca _ (by omega) hshx.out (by omega) (rau.below bq6) (by omega) hshb.out (reu.below bq6)).mono ?_;rw [hsu.out];intro e q7 hgo;obtain ⟨A7,c7,rfl,hl7,hfq7,hbq7⟩:=cS hgo;clear hgo)
        have rdq7:=hfq7.rd;have Zq7:=zq6.keep hbq7;refine aX bq6 hbq7 ?_;intro bq7 lq7;refine fB [10,11] 6 (lT:=[_,_]) ?_;refine bZ (aD ?_);refine bB 12 ?_
        ·go_wp2_with (go_at_call 99;refine (cJ kz nz sz A7 c7 _ hvz.out rdq7).mono ?_;rintro e q8 ⟨rfl,hbq8⟩)
         have Zq8:=Zq7.keep hbq8;have Oq8:=rdq7.below hbq8;refine aX bq7 hbq8 ?_;intro bq8 lq8;refine fB [13,14,15] 2 (lT:=[_,_,_]) ?_;refine bZ (aD ?_);refine cP [17,18] (lB:=[_,_]) ?_;obtain ⟨d0,d1,d2,e0,e1,e2⟩:=bW Zq8;have szb:wu.heap.size≤q0.heap.size:=by first|exact bq0.size|exact bq0.size
         go_wp2_with fail
         go_meet
         exact ⟨q0.heap.size,A7,c7,rfl,rfl,((Zq8.set_ 0 _).set_ 1 _).set_ 2 _,bQ Zq8 hvz.out Oq8 _ _ _,((bq8.setCell szb _).setCell szb _).setCell szb _,szb⟩
     case rest=>
      obtain ⟨gz,Az,cz,rfl,rfl,hTz,rz,hxy,hgz⟩:=hcut;have gy:=gu.trans (hxy.mono gu.size);have hJy:=hJu.keep hxy;have hZy:=hZu.keep hxy;obtain ⟨t0,t1,t2⟩:=hTz.three;have j0:=hJy.at_ (i:=0) rfl;have j1:=hJy.at_ (i:=1) rfl;have j2:=hJy.at_ (i:=2) rfl;have j3:=hJy.at_ (i:=3) rfl;have j4:=hJy.at_ (i:=4) rfl;rcases aL hs.out with ⟨b,h3c,rfl⟩|⟨u,h3c,hs⟩
      ·have qb:=dO b;replace h3c:=aD h3c;go_wp2_with (go_at_call 142;refine (lV C m cc k n _ 3 c fc ev 2 (by omega) kz nz sz Az cz _ ty _ h3c.out (hT.below gy) hv hvz.out rz).mono ?_;rintro e w5 ⟨he,hb5⟩;obtain rfl:e = .returned (.int .i64 (cX b)):=he;have hZ5:=hZy.keep hb5;have g5:=gy.trans (hb5.mono gy.size);obtain ⟨d0,d1,d2,e0,e1,e2⟩:=bW hZ5)
       refine bodyPost_ret (v:=.tuple #[.agg Zr,.int .i64 (cX b)]) (by simp [results,results147,go_sem,d0,d1,d2]) rfl ⟨rfl,?_⟩;exact bP g5
      replace h3c:=aD (lM h3c);obtain rfl:=(Option.some.inj hs).symm;clear hs;go_upto_region 12 with (go_at_call 142;refine (iK C m cc k n _ 3 c fc ev 2 (by omega) kz nz sz Az cz _ _ h3c.out (hT.ok.below gy) rz).mono ?_;rintro e w5 ⟨rfl,hb5⟩)
      refine aW ?_;intro ws hws;have hZs:=(show Blk ws (w.heap.size+1) _ by rw [hws];exact hZy.keep hb5);have hJs:=(show Blk ws w.heap.size _ by rw [hws];exact hJy.keep hb5);have gs:Bw w ws:=by rw [hws];exact gy.trans (hb5.mono gy.size)
      clear hws j0 j1 j2 j3 j4 t0 t1 t2;have rps:=rp0.below gs;have v3:=hJs.at_ (i:=3) rfl;have p0:=(cM gs) _ _ i1;have p1:=(cM gs) _ _ i2;have p2:=(cM gs) _ _ i3;obtain ⟨d0,d1,d2,e0,e1,e2⟩:=bW hZs;go_wp2_with fail
      refine bodyPost_ret (v:=.tuple #[.agg (Ro kp np Ap sp.length cp),.int .i64 0]) (by simp [results,results147,go_sem,d0,d1,d2]) rfl ⟨Ap,cp,rfl,hlp,bQ hZs hvp.out rps _ _ _,?_⟩;exact ((gs.setCell (by simp) _).setCell (by simp) _).setCell (by simp) _
    ·skip
     have hsu:=aD (aBo hvx'.out hvb.out hvz0);replace h2c:=aD (lM h2c);go_wp2_with (go_at_call 142;refine (iK C m cc k n _ 3 c fc ev 1 (by omega) kd nd sd Ak ck _ _ h2c.out ((hT.ok.below gx).below bq1) rkq1).mono ?_;rintro e q2 ⟨rfl,hbq2⟩)
     have Kq2:=rkq1.below hbq2;refine aX bq1 hbq2 ?_;intro bq2 lq2;refine cP [5] (lB:=[_]) ?_;go_upto_region 8 with fail
     refine aW ?_;intro wu hwu;have hJu:=(show Blk wu w.heap.size _ by rw [hwu];exact hJx.keep bq2);have hZu:=(show Blk wu (w.heap.size+1) _ by rw [hwu];exact hZx.keep bq2);have h6u:=(show Blk wu w2.heap.size _ by rw [hwu];exact h6x.keep bq2);have gu:Bw w wu:=by rw [hwu];exact gx.trans (bq2.mono gx.size)
     have kxu:Bw wx wu:=by rw [hwu];exact bq2
     clear hwu u0 u1 u2 u3 u4 v0 v1 v2;have reu:=re0.below kxu;have rau:=ra0.below gu;have v2:=aF h6u.three.2.2;have u3:=aF (hJu.at_ (i:=3) rfl);have y0:=aF ((cM kxu) _ _ c1);have y1:=aF ((cM kxu) _ _ c2);have y2:=aF ((cM kxu) _ _ c3');have z0:=aF ((cM gu) _ _ a1);have z1:=aF ((cM gu) _ _ a2);have z2:=aF ((cM gu) _ _ a3);go_cut [7,9] (fun vc vp wy=>∃gz:Nat,vp = .pointer (some ⟨gz,0,none⟩)∧vc = .int .i64 2∧Blk wy gz Zr∧Bw wu wy∧wu.heap.size≤gz)
     case first=>
      refine eT wu [10,11,13,14,15,17,18] [0,1,2,3,4,5,6,7,8] 19 10 (lT:=[_,_,_,_,_,_,_,_,_]) ?_;intro q0 bq0;refine bZ (aD ?_);refine nK 9 16 ?_ ?_
      ·go_wp2_with (go_at_call 95;refine (fH ke ne se Ae ce 0 ka na sa Aa ca _ (by omega) hshx.out (by omega) (rau.below bq0) (by omega) hshb.out (reu.below bq0)).mono ?_;rw [hsu.out];intro e q1 hgo;obtain ⟨rfl,hbq1⟩:=eH hgo;clear hgo)
       refine aX bq0 hbq1 ?_;intro bq1 lq1;refine fB [10,11] 7 (lT:=[_,_]) ?_;refine bZ (aD ?_);refine nK 12 16 ?_ ?_
       ·go_wp2_with (go_at_call 99;refine (gX _).mono ?_;rintro e q2 ⟨rfl,hbq2⟩)
        refine aX bq1 hbq2 ?_;intro bq2 lq2;refine fB [13,14,15] 3 (lT:=[_,_,_]) ?_;refine bZ (aD ?_);refine bB 16 ?_
        ·go_wp2_with fail
         refine iD ?_;intro q3 hbq3 zq3 seq3;refine aX bq2 hbq3 ?_;intro bq3 lq3;refine cP [17,18] (lB:=[_,_]) ?_;obtain ⟨d0,d1,d2,e0,e1,e2⟩:=bW zq3;have szb:wu.heap.size≤q2.heap.size:=by first|exact bq0.size|exact bq2.size
         go_wp2_with fail
         go_meet
         exact ⟨q2.heap.size,rfl,rfl,((zq3.set_ 0 _).set_ 1 _).set_ 2 _,((bq3.setCell szb _).setCell szb _).setCell szb _,szb⟩
       ·go_wp2_with fail
        refine iD ?_;intro q4 hbq4 zq4 seq4;refine aX bq1 hbq4 ?_;intro bq4 lq4;refine bB 12 ?_
        ·go_wp2_with (go_at_call 99;refine (gX _).mono ?_;rintro e q5 ⟨rfl,hbq5⟩)
         have Zq5:=zq4.keep hbq5;refine aX bq4 hbq5 ?_;intro bq5 lq5;refine fB [13,14,15] 2 (lT:=[_,_,_]) ?_;refine bZ (aD ?_);refine cP [17,18] (lB:=[_,_]) ?_;obtain ⟨d0,d1,d2,e0,e1,e2⟩:=bW Zq5;have szb:wu.heap.size≤q1.heap.size:=by first|exact bq0.size|exact bq1.size
         go_wp2_with fail
         go_meet
         exact ⟨q1.heap.size,rfl,rfl,((Zq5.set_ 0 _).set_ 1 _).set_ 2 _,((bq5.setCell szb _).setCell szb _).setCell szb _,szb⟩
      ·go_wp2_with fail
       refine iD ?_;intro q6 hbq6 zq6 seq6;refine aX bq0 hbq6 ?_;intro bq6 lq6;refine bB 9 ?_
       ·go_wp2_with (go_at_call 95;refine (fH ke ne se Ae ce 0 ka na sa Aa ca _ (by omega) hshx.out (by omega) (rau.below bq6) (by omega) hshb.out (reu.below bq6)).mono ?_;rw [hsu.out];intro e q7 hgo;obtain ⟨rfl,hbq7⟩:=eH hgo;clear hgo)
        have Zq7:=zq6.keep hbq7;refine aX bq6 hbq7 ?_;intro bq7 lq7;refine fB [10,11] 6 (lT:=[_,_]) ?_;refine bZ (aD ?_);refine bB 12 ?_
        ·go_wp2_with (go_at_call 99;refine (gX _).mono ?_;rintro e q8 ⟨rfl,hbq8⟩)
         have Zq8:=Zq7.keep hbq8;refine aX bq7 hbq8 ?_;intro bq8 lq8;refine fB [13,14,15] 2 (lT:=[_,_,_]) ?_;refine bZ (aD ?_);refine cP [17,18] (lB:=[_,_]) ?_;obtain ⟨d0,d1,d2,e0,e1,e2⟩:=bW Zq8;have szb:wu.heap.size≤q0.heap.size:=by first|exact bq0.size|exact bq0.size
         go_wp2_with fail
         go_meet
         exact ⟨q0.heap.size,rfl,rfl,((Zq8.set_ 0 _).set_ 1 _).set_ 2 _,((bq8.setCell szb _).setCell szb _).setCell szb _,szb⟩
     case rest=>
      obtain ⟨gz,rfl,rfl,hTz,hxy,hgz⟩:=hcut;have gy:=gu.trans (hxy.mono gu.size);have hJy:=hJu.keep hxy;have hZy:=hZu.keep hxy;obtain ⟨t0,t1,t2⟩:=hTz.three;have j0:=hJy.at_ (i:=0) rfl;have j1:=hJy.at_ (i:=1) rfl;have j2:=hJy.at_ (i:=2) rfl;have j3:=hJy.at_ (i:=3) rfl;have j4:=hJy.at_ (i:=4) rfl;have qb:=dO false;go_wp2_with (go_at_call 142;refine (kI C m cc k n _ 3 c fc ev 2 (by omega) false 0 0 none 0 0 _).mono ?_;rintro e w5 ⟨he,hb5⟩;obtain rfl:e = .returned (.int .i64 (cX false)):=he;have hZ5:=hZy.keep hb5;have g5:=gy.trans (hb5.mono gy.size);obtain ⟨d0,d1,d2,e0,e1,e2⟩:=bW hZ5)
      refine bodyPost_ret (v:=.tuple #[.agg Zr,.int .i64 (cX false)]) (by simp [results,results147,go_sem,d0,d1,d2]) rfl ⟨rfl,?_⟩;exact bP g5
theorem aCw (C:Option Addr)(m cc:Nat)(k n:Int)(A:Option Addr)(la c fc:Nat)(ev:Array Value)(b:Bool)(ty:Nat→Option (Rs Tm))(w:World)(hs:qT (ty 0) 13=some (.no b))(hT:TyX fc ev w ty)(hv:TyV ty) :
  Calls prog 148 #[.agg #[.slice C m cc,.int .i64 k,.int .i64 n,.slice A la c,.func (.func fc) #[] ev]] w (pK w (.no b)):=by
 have qb:=dO b;replace hs:=aD hs;go_enter func148,ntmps148;go_wp2_with (go_at_call 141;refine (iT C m cc k n A la c fc ev 0 (by omega) 13 _ ty _ hs.out (hT.below bw2) hv).mono ?_;rintro e w1 ⟨rfl,hb1⟩;have hZ1:=iU hb1;have g1:Bw w w1:=bU bw2 hb1;obtain ⟨d0,d1,d2,e0,e1,e2,lz⟩:=dJ hZ1;have n1':w.heap.size+1≠w1.heap.size:=(by omega))
 have y:=fun (o:Obj)=>(((((hZ1.set_ 0 (.int .i64 0)).set_ 1 (.int .i64 0)).set_ 2 (.slice none 0 0)).alloc o:Blk _ _ Zr)).three
 refine bodyPost_ret (v:=.tuple #[.agg Zr,.int .i64 (cX b)]) (by simp [results,results148,go_sem,y,d0,d1,d2]) rfl ⟨rfl,?_⟩;exact (bP g1).alloc (by simp [World.setCell];exact g1.size) _
theorem aEr (K:Int)(F:Nat)(hK:(K=3∧F=139)∨(K=13∧F=139)∨(K=4∧F=140)∨(K=9∧F=144)∨(K=10∧F=145)∨(K=12∧F=146)∨(K=14∧F=147)∨(K=15∧F=148)∨(K=16∧F=148))(C:Option Addr)(m cc:Nat)(n:Int)(A:Option Addr)(la c fc:Nat)(ev:Array Value)(b:Bool)(w:World)
  (hc : Hid (∀ w', Bw w w' → Calls prog F #[.agg #[.slice C m cc, .int .i64 K, .int .i64 n, .slice A la c, .func (.func fc) #[] ev]] w' (pK w' (.no b)))) :
  Calls prog 118 #[.agg #[.slice C m cc,.int .i64 K,.int .i64 n,.slice A la c,.func (.func fc) #[] ev]] w (pK w (.no b)):=by
 rcases hK with ⟨rfl,rfl⟩|⟨rfl,rfl⟩|⟨rfl,rfl⟩|⟨rfl,rfl⟩|⟨rfl,rfl⟩|⟨rfl,rfl⟩|⟨rfl,rfl⟩|⟨rfl,rfl⟩|⟨rfl,rfl⟩
 all_goals
  go_enter func118,ntmps118;go_wp2_with ((first|go_at_call 139|go_at_call 140|go_at_call 144|go_at_call 145|go_at_call 146|go_at_call 147|go_at_call 148);refine (hc.out _ bw3).mono ?_;rintro e w1 ⟨rfl,hb1⟩;have hZ1:Blk w1 (w.heap.size+1) Zr:=((aC (n:=w.heap.size+1) (w.alloc (.cells #[.slice C m cc,.int .i64 _,.int .i64 n,.slice A la c,.func (.func fc) #[] ev] 105)) 32 Zr (by simp)).alloc (.cells (Ro _ n A la c) 32)).keep hb1;have g1:Bw w w1:=bU bw3 hb1;obtain ⟨d0,d1,d2,e0,e1,e2⟩:=bW hZ1)
  refine bodyPost_ret (v:=.tuple #[.agg Zr,.int .i64 (cX b)]) (by simp [results,results118,go_sem,d0,d1,d2]) rfl ⟨rfl,?_⟩;exact bP g1
theorem aDf (C:Option Addr)(m cc:Nat)(A:Option Addr)(la c fc:Nat)(ev:Array Value)(w:World) :
  Calls prog 118 #[.agg #[.slice C m cc,.int .i64 2,.int .i64 3,.slice A la c,.func (.func fc) #[] ev]] w (pK w (.no true)):=by
 go_enter func118,ntmps118;go_wp2_with fail
 refine bodyPost_ret (v:=.tuple #[.agg Zr,.int .i64 1]) (by simp [results,results118,go_sem]) rfl ⟨rfl,?_⟩;exact bw3
theorem aBr (C:Option Addr)(m cc:Nat)(n:Int)(A:Option Addr)(la c fc:Nat)(ev:Array Value)(w:World)(hn:(m:Int)≤n) :
  Calls prog 118 #[.agg #[.slice C m cc,.int .i64 1,.int .i64 n,.slice A la c,.func (.func fc) #[] ev]] w (pK w (.no true)):=by
 have q1:decide ((m:Int)≤n)=true:=decide_eq_true hn;go_enter func118,ntmps118;go_wp2_with fail
 refine bodyPost_ret (v:=.tuple #[.agg Zr,.int .i64 1]) (by simp [results,results118,go_sem]) rfl ⟨rfl,?_⟩;exact bw3
theorem aBi (C:Option Addr)(m cc:Nat)(n:Int)(A:Option Addr)(la c fc:Nat)(ev:Array Value)(b:Bool)(ty:Nat→Option (Rs Tm))(w:World)(hs:kF (ty 0) (.mk 6 0 [])=some (.no b))(hT:TyX fc ev w ty)(hv:TyV ty) :
  Calls prog 118 #[.agg #[.slice C m cc,.int .i64 8,.int .i64 n,.slice A la c,.func (.func fc) #[] ev]] w (pK w (.no b)):=by
 have qb:=dO b;have hs':=aD hs;clear hs;go_enter func118,ntmps118;go_upto_region 16 with fail
 refine sT (show Blk _ w.heap.size #[.slice C m cc,.int .i64 8,.int .i64 n,.slice A la c,.func (.func fc) #[] ev] from (((aC _ 105 _ rfl).alloc _).alloc _)) (show Blk _ (w.heap.size+1) Zr from ((aC _ 32 _ (by simp)).alloc _)) bw3 ?_;intro wx hJx hZx gx;have u0:=aF (hJx.at_ (i:=0) rfl);have u1:=aF (hJx.at_ (i:=1) rfl);have u2:=aF (hJx.at_ (i:=2) rfl);have u3:=aF (hJx.at_ (i:=3) rfl);have u4:=aF (hJx.at_ (i:=4) rfl);refine eT wx [3] [0] 4 3 (lT:=[_]) ?_;intro q0 bq0;refine bZ (aD ?_);refine bB 1 ?_
 ·go_wp2_with (go_at_call 71;refine (aP 6 _ ⟨_,_,_,rfl⟩ _).mono ?_;rintro e q1 ⟨rfl,hbq1⟩)
  refine aX bq0 hbq1 ?_;intro bq1 lq1;refine bB 2 ?_
  ·go_wp2_with (go_at_call 138;refine (gP C m cc 8 n A la c fc ev 0 (by omega) 6 0 [] none 0 _ ty _ hs'.out ((hT.below gx).below bq1) hv qN Rd.nil).mono ?_;rintro e q2 ⟨he,hbq2⟩;obtain rfl:e = .returned (.int .i64 (cX b)):=he)
   refine aX bq1 hbq2 ?_;intro bq2 lq2;refine cP [3] (lB:=[_]) ?_;have hZ3:=hZx.keep bq2;have g3:=gx.trans (bq2.mono gx.size);obtain ⟨d0,d1,d2,e0,e1,e2⟩:=bW hZ3;go_wp2_with fail
   refine bodyPost_ret (v:=.tuple #[.agg Zr,.int .i64 (cX b)]) (by simp [results,results118,go_sem,d0,d1,d2]) rfl ⟨rfl,?_⟩;exact bP g3
theorem aCb (C:Option Addr)(m cc:Nat)(n:Int)(A:Option Addr)(c fc:Nat)(ev:Array Value)(b:Bool)(ty:Nat→Option (Rs Tm))(w:World)(h1:qT (ty 0) 3=some (.no b))(hT:TyX fc ev w ty)(hv:TyV ty) :
  Calls prog 118 #[.agg #[.slice C m cc,.int .i64 5,.int .i64 n,.slice A 2 c,.func (.func fc) #[] ev]] w (pK w (.no b)):=by
 have qb:=dO b;have h1':=aD h1;clear h1;go_enter func118,ntmps118;go_upto_region 27 with (go_at_call 141;refine (iT C m cc 5 n _ 2 c fc ev 0 (by omega) 3 _ ty _ h1'.out (hT.below bw3) hv).mono ?_;rintro e w1 ⟨rfl,hb1⟩;have hJ1:=(((aC w 105 #[.slice C m cc,.int .i64 5,.int .i64 n,.slice A 2 c,.func (.func fc) #[] ev] rfl).alloc (.cells Zr 32)).alloc (.cells (Ro 5 n A 2 c) 32)).keep hb1;have hZ1:Blk w1 (w.heap.size+1) Zr:=((aC (n:=w.heap.size+1) (w.alloc (.cells #[.slice C m cc,.int .i64 5,.int .i64 n,.slice A 2 c,.func (.func fc) #[] ev] 105)) 32 Zr (by simp)).alloc (.cells (Ro 5 n A 2 c) 32)).keep hb1;have hT1:=aMn hb1;have g1:Bw w w1:=bU bw3 hb1)
 refine aW ?_;intro wx hwx;have hJx:=(show Blk wx w.heap.size _ by rw [hwx];exact hJ1.alloc _);have hZx:=(show Blk wx (w.heap.size+1) _ by rw [hwx];exact hZ1.alloc _);have h6x:Blk wx w1.heap.size Zr:=by rw [hwx];exact aC _ 32 _ rfl
 have gx:Bw w wx:=by rw [hwx];exact g1.alloc g1.size _
 clear hwx;have u0:=aF (hJx.at_ (i:=0) rfl);have u1:=aF (hJx.at_ (i:=1) rfl);have u2:=aF (hJx.at_ (i:=2) rfl);have u3:=aF (hJx.at_ (i:=3) rfl);have u4:=aF (hJx.at_ (i:=4) rfl);obtain ⟨v0,v1,v2⟩:=jR h6x;refine eT wx [5] [0,1,3] 6 3 (lT:=[_,_,_]) ?_;intro q0 bq0;refine bZ (aD ?_);refine bB 2 ?_
 ·go_wp2_with (go_at_call 143;refine (sA _).mono ?_;rintro e q1 ⟨rfl,hbq1⟩)
  refine aX bq0 hbq1 ?_;intro bq1 lq1;refine bB 4 ?_
  ·go_wp2_with (go_at_call 142;refine (kI C m cc 5 n _ 2 c fc ev 1 (by omega) b 0 0 none 0 0 _).mono ?_;rintro e q2 ⟨he,hbq2⟩;obtain rfl:e = .returned (.int .i64 (cX b)):=he)
   refine aX bq1 hbq2 ?_;intro bq2 lq2;refine cP [5] (lB:=[_]) ?_;have hZ3:=hZx.keep bq2;have g3:=gx.trans (bq2.mono gx.size);obtain ⟨d0,d1,d2,e0,e1,e2⟩:=bW hZ3;go_wp2_with fail
   refine bodyPost_ret (v:=.tuple #[.agg Zr,.int .i64 (cX b)]) (by simp [results,results118,go_sem,d0,d1,d2]) rfl ⟨rfl,?_⟩;exact bP g3
theorem zY (C:Option Addr)(m cc:Nat)(n:Int)(A:Option Addr)(c fc:Nat)(ev:Array Value)(t0:Tm)(kx nx:Int)(sx:List Tm)(n3 ka na:Int)(sa:List Tm)(kb nb:Int)(sb:List Tm)(b:Bool)(ty:Nat→Option (Rs Tm))(w:World)(h1:qT (ty 0) 3=some (.ok (.mk 3 n3 [.mk ka na sa,.mk kb nb sb])))(h2:kF (ty 1) (.mk ka na sa)=some (.no b))(hT:TyX fc ev w ty)(hv:TyV ty)(hr:Rd w A 0 [t0,.mk kx nx sx]) :
  Calls prog 118 #[.agg #[.slice C m cc,.int .i64 5,.int .i64 n,.slice A 2 c,.func (.func fc) #[] ev]] w (pK w (.no b)):=by
 have qb:=dO b;have hva:=aD (aO (nJ h1).1 (t:=.mk ka na sa) (by simp));have h1':=aD (oX h1);have h2c:=aD h2;clear h1 h2;obtain ⟨bf,of_,x1,x2,x3,Ax,cx,rfl,hk1,i1,i2,i3,hlx,rx0⟩:=hr.at_ (j:=1) (by simp);injection hk1 with e1 e2 e3;subst e1 e2 e3;simp only [Nat.one_mul] at i1 i2 i3
 go_enter func118,ntmps118;go_upto_region 27 with (go_at_call 141;refine (hE C m cc 5 n _ 2 c fc ev 0 (by omega) 3 n3 [.mk ka na sa,.mk kb nb sb] _ _ h1'.out (hT.ok.below bw3)).mono ?_;rintro e w1 ⟨A3,c3,rfl,hl3,r3,hb1⟩;have hJ1:=(((aC w 105 #[.slice C m cc,.int .i64 5,.int .i64 n,.slice (some ⟨bf,of_,none⟩) 2 c,.func (.func fc) #[] ev] rfl).alloc (.cells Zr 32)).alloc (.cells (Ro 5 n (some ⟨bf,of_,none⟩) 2 c) 32)).keep hb1;have hZ1:Blk w1 (w.heap.size+1) Zr:=((aC (n:=w.heap.size+1) (w.alloc (.cells #[.slice C m cc,.int .i64 5,.int .i64 n,.slice (some ⟨bf,of_,none⟩) 2 c,.func (.func fc) #[] ev] 105)) 32 Zr (by simp)).alloc (.cells (Ro 5 n (some ⟨bf,of_,none⟩) 2 c) 32)).keep hb1;have hT1:=aMn hb1;have g1:Bw w w1:=bU bw3 hb1)
 refine aW ?_;intro wx hwx;have hJx:=(show Blk wx w.heap.size _ by rw [hwx];exact hJ1.alloc _);have hZx:=(show Blk wx (w.heap.size+1) _ by rw [hwx];exact hZ1.alloc _);have hTx:=(show Blk wx (w.heap.size+1+1) _ by rw [hwx];exact hT1.alloc _);have h6x0:Blk wx w1.heap.size (Ro 3 n3 A3 2 c3):=by rw [hwx];exact aC _ 32 _ rfl
 have gx:Bw w wx:=by rw [hwx];exact g1.alloc g1.size _
 have r3x:Rd wx A3 0 [.mk ka na sa,.mk kb nb sb]:=by rw [hwx];exact r3.alloc _
 clear hwx;obtain ⟨bb,ob,x1,x2,x3,Ab,cb,rfl,hk2,p1,p2,p3,hlb,rb⟩:=r3x.at_ (j:=1) (by simp);injection hk2 with e1 e2 e3;subst e1 e2 e3;simp only [Nat.one_mul] at p1 p2 p3
 have h6x:=h6x0;have u0:=aF (hJx.at_ (i:=0) rfl);have u1:=aF (hJx.at_ (i:=1) rfl);have u2:=aF (hJx.at_ (i:=2) rfl);have u3:=aF (hJx.at_ (i:=3) rfl);have u4:=aF (hJx.at_ (i:=4) rfl);obtain ⟨v0,v1,v2⟩:=jR h6x;refine eT wx [5] [0,1,3] 6 3 (lT:=[_,_,_]) ?_;intro q0 bq0;refine bZ (aD ?_);refine bB 2 ?_
 ·go_wp2_with (go_at_call 143;refine (oQ 3 n3 ka na sa [.mk kb nb sb] _ c3 _ (r3x.below bq0) (by simp)).mono ?_;rintro e q1 ⟨Ak,ck,rfl,hlk,rkq1,hbq1⟩)
  refine aX bq0 hbq1 ?_;intro bq1 lq1;refine bB 4 ?_
  ·go_wp2_with (go_at_call 142;refine (lV C m cc 5 n _ 2 c fc ev 1 (by omega) ka na sa Ak ck _ ty _ h2c.out ((hT.below gx).below bq1) hv hva.out rkq1).mono ?_;rintro e q2 ⟨he,hbq2⟩;obtain rfl:e = .returned (.int .i64 (cX b)):=he)
   refine aX bq1 hbq2 ?_;intro bq2 lq2;refine cP [5] (lB:=[_]) ?_;have hZ3:=hZx.keep bq2;have g3:=gx.trans (bq2.mono gx.size);obtain ⟨d0,d1,d2,e0,e1,e2⟩:=bW hZ3;go_wp2_with fail
   refine bodyPost_ret (v:=.tuple #[.agg Zr,.int .i64 (cX b)]) (by simp [results,results118,go_sem,d0,d1,d2]) rfl ⟨rfl,?_⟩;exact bP g3
theorem zP (C:Option Addr)(m cc:Nat)(n:Int)(A:Option Addr)(c fc:Nat)(ev:Array Value)(b:Bool)(ty:Nat→Option (Rs Tm))(w:World)(h1:ty 0=some (.no b))(hT:TyX fc ev w ty) :
  Calls prog 118 #[.agg #[.slice C m cc,.int .i64 11,.int .i64 n,.slice A 1 c,.func (.func fc) #[] ev]] w (pK w (.no b)):=by
 have qb:=dO b;obtain ⟨b2,b3,rfl,rfl⟩:=hT.1;all_goals
  have h1':=aD h1;clear h1;go_enter func118,ntmps118;go_wp2_with (go_at_call 116;refine (hT.2 0 _ (by omega) h1'.out _ bw3 _ (by rfl)).mono ?_;rintro e w1 ⟨rfl,hb1⟩;have hZ1:Blk w1 (w.heap.size+1) Zr:=((aC (n:=w.heap.size+1) (w.alloc (.cells #[.slice C m cc,.int .i64 11,.int .i64 n,.slice A 1 c,.func (.func _) #[] _] 105)) 32 Zr (by simp)).alloc (.cells (Ro 11 n A 1 c) 32)).keep hb1;have g1:Bw w w1:=bU bw3 hb1;obtain ⟨d0,d1,d2,e0,e1,e2,lz⟩:=dJ hZ1;have n1':w.heap.size+1≠w1.heap.size:=(by omega))
  have y:=fun (o:Obj)=>(((((hZ1.set_ 0 (.int .i64 0)).set_ 1 (.int .i64 0)).set_ 2 (.slice none 0 0)).alloc o:Blk _ _ Zr)).three
  refine bodyPost_ret (v:=.tuple #[.agg Zr,.int .i64 (cX b)]) (by simp [results,results118,go_sem,y,d0,d1,d2]) rfl ⟨rfl,?_⟩;exact (bP g1).alloc (by simp [World.setCell];exact g1.size) _
theorem wW (C:Option Addr)(m cc:Nat)(n:Int)(A:Option Addr)(c fc:Nat)(ev:Array Value)(kt nt:Int)(st:List Tm)(b:Bool)(ty:Nat→Option (Rs Tm))(w:World)(h1:ty 0=some (.ok (.mk kt nt st)))(hT:TyX fc ev w ty)
  (hL : Hid (∀ (Ao : Option Addr) (co : Nat) (w' : World), Bw w w' → Rd w' Ao 0 st → Calls prog 49 #[.slice C m cc, .agg (Ro kt nt Ao st.length co)] w' (GtI w' (.no b)))) :
  Calls prog 118 #[.agg #[.slice C m cc,.int .i64 11,.int .i64 n,.slice A 1 c,.func (.func fc) #[] ev]] w (pK w (.no b)):=by
 have qb:=dO b;obtain ⟨b2,b3,rfl,rfl⟩:=hT.1;all_goals
  have h1':=aD h1;clear h1;go_enter func118,ntmps118;go_wp2_with (first
   | (go_at_call 49;have _t:=tok1;refine (hL.out A1 c1 _ (g1.alloc g1.size _) (r1.alloc _)).mono ?_;rintro e w2 ⟨rfl,hb2⟩;have hJ2:=(hJ1.alloc (.cells (Ro kt nt A1 st.length c1) 32)).keep hb2;have hZ2:=(hZ1.alloc (.cells (Ro kt nt A1 st.length c1) 32)).keep hb2;have hT2:=(hT1.alloc (.cells (Ro kt nt A1 st.length c1) 32)).keep hb2;have h92:=aTa hb2;have r12:=(r1.alloc (.cells (Ro kt nt A1 st.length c1) 32)).below hb2;have g2:=(g1.alloc g1.size (.cells (Ro kt nt A1 st.length c1) 32)).trans (hb2.mono (by have:=g1.size;simp;omega));obtain ⟨d0,d1,d2,e0,e1,e2⟩:=bW hZ2)
   | (go_at_call 116;refine (hT.2 0 _ (by omega) h1'.out _ bw3 _ (by rfl)).mono ?_;rintro e w1 ⟨A1,c1,rfl,hl1,r1,hb1⟩;have hJ1:=(((aC w 105 #[.slice C m cc,.int .i64 11,.int .i64 n,.slice A 1 c,.func (.func 116) #[] #[.pointer (some ⟨b2,0,none⟩),.pointer (some ⟨b3,0,none⟩)]] rfl).alloc (.cells Zr 32)).alloc (.cells (Ro 11 n A 1 c) 32)).keep hb1;have hZ1:Blk w1 (w.heap.size+1) Zr:=((aC (n:=w.heap.size+1) (w.alloc (.cells #[.slice C m cc,.int .i64 11,.int .i64 n,.slice A 1 c,.func (.func 116) #[] #[.pointer (some ⟨b2,0,none⟩),.pointer (some ⟨b3,0,none⟩)]] 105)) 32 Zr (by simp)).alloc (.cells (Ro 11 n A 1 c) 32)).keep hb1;have hT1:=aMn hb1;have g1:Bw w w1:=bU bw3 hb1;have lJ:=hJ1.lt;have lZ:=hZ1.lt;have lT:=hT1.lt;have j0:=hJ1.at_ (i:=0) rfl;have j1:=hJ1.at_ (i:=1) rfl;have j2:=hJ1.at_ (i:=2) rfl;have j3:=hJ1.at_ (i:=3) rfl;have j4:=hJ1.at_ (i:=4) rfl;have tok1:=trivial))
  refine bodyPost_ret (v:=.tuple #[.agg Zr,.int .i64 (cX b)]) (by simp [results,results118,go_sem,d0,d1,d2]) rfl ⟨rfl,?_⟩;exact bP g2
theorem yB {u t:Tm}{r:Rs Tm}(hu:aE u=true)(ht:aE t=true)(h:fL (bX u 0 0 t)=some r):(∃kr nr sr,fM 0 u t=some (.mk kr nr sr)∧aE (.mk kr nr sr)=true∧r = .ok (.mk kr nr sr))∨(fM 0 u t=none∧r = .no false):=by
 rcases mG h with ⟨h1,rfl⟩|⟨h1,rfl⟩
 ·have hs:=vW hu ht h1;cases hz:bX u 0 0 t with
  | mk a b l=>rw [hz] at hs h1;exact .inl ⟨a,b,l,hs,h1,rfl⟩
 ·exact .inr ⟨by rw [nA hu ht,vO,if_neg (by rw [h1];simp)],rfl⟩
theorem aCv {b:Int}{t:Tm}{r:Rs Tm}(hb:0≤b)(ht:aE t=true)(h:fL (bT b 0 t)=some r):(∃kr nr sr,bD b 0 t=some (.mk kr nr sr)∧aE (.mk kr nr sr)=true∧r = .ok (.mk kr nr sr))∨(bD b 0 t=none∧r = .no false):=by
 rcases mG h with ⟨h1,rfl⟩|⟨h1,rfl⟩
 ·have hs:=nB hb ht h1;cases hz:bT b 0 t with
  | mk x y l=>rw [hz] at hs h1;exact .inl ⟨x,y,l,hs,h1,rfl⟩
 ·refine .inr ⟨?_,rfl⟩;cases hs:bD b 0 t with
  | none=>rfl
  | some u=>
   have h2:=fS (aZ ht) (by rw [hs];rfl:(bD b 0 t).isSome=true);have h3:=zG hs;rw [hs] at h2;rw [show u=bT b 0 t from h2,h1] at h3;cases h3
theorem aOn {ka na kt nt:Int}{sa st:List Tm}(h1:aG st≤400)(h2:aG sa≤400):aG [.mk kt nt st,.mk ka na sa,.mk ka na sa]≤1000000:=by
 simp only [aG,Tm.size];omega
theorem aEo (C:Option Addr)(m cc:Nat)(n:Int)(A:Option Addr)(c fc:Nat)(ev:Array Value)(t0:Tm)(kx nx:Int)(sx:List Tm)(n3 ka na:Int)(sa:List Tm)(kb nb:Int)(sb:List Tm)(r:Rs Tm)(ty:Nat→Option Tm)(w:World)(h1:fmS (ty 0) 3=some (.mk 3 n3 [.mk ka na sa,.mk kb nb sb]))(h2:aDi (ty 1) (.mk ka na sa)=true)(hvx:aE (.mk kx nx sx)=true)(hr0:fL (bX (.mk kx nx sx) 0 0 (.mk kb nb sb))=some r)(hT:TyOk fc ev w ty)(hr:Rd w A 0 [t0,.mk kx nx sx]) :
  Calls prog 118 #[.agg #[.slice C m cc,.int .i64 5,.int .i64 n,.slice A 2 c,.func (.func fc) #[] ev]] w (pK w r):=by
 obtain ⟨_,_,he,hv3⟩:=nE h1;injection he with e1 e2 e3;subst e2 e3;have hvb:=aO hv3 (t:=.mk kb nb sb) (by simp);have hzx:=aH hvx;have hzb:=aH hvb;have hshx:=aD (aZ hvx);have hshb:=aD (aZ hvb);have h1':=aD h1;have h2c:=aD h2;have hsp:=aD (yB hvx hvb hr0);clear h1 h2 hv3 hvb hvx hr0;obtain ⟨bf,of_,x1,x2,x3,Ax,cx,rfl,hk1,i1,i2,i3,hlx,rx0⟩:=hr.at_ (j:=1) (by simp);injection hk1 with e1 e2 e3;subst e1 e2 e3;simp only [Nat.one_mul] at i1 i2 i3
 go_enter func118,ntmps118;go_upto_region 27 with (go_at_call 141;refine (hE C m cc 5 n _ 2 c fc ev 0 (by omega) 3 n3 [.mk ka na sa,.mk kb nb sb] ty _ h1'.out (hT.below bw3)).mono ?_;rintro e w1 ⟨A3,c3,rfl,hl3,r3,hb1⟩;have hJ1:=(((aC w 105 #[.slice C m cc,.int .i64 5,.int .i64 n,.slice (some ⟨bf,of_,none⟩) 2 c,.func (.func fc) #[] ev] rfl).alloc (.cells Zr 32)).alloc (.cells (Ro 5 n (some ⟨bf,of_,none⟩) 2 c) 32)).keep hb1;have hZ1:Blk w1 (w.heap.size+1) Zr:=((aC (n:=w.heap.size+1) (w.alloc (.cells #[.slice C m cc,.int .i64 5,.int .i64 n,.slice (some ⟨bf,of_,none⟩) 2 c,.func (.func fc) #[] ev] 105)) 32 Zr (by simp)).alloc (.cells (Ro 5 n (some ⟨bf,of_,none⟩) 2 c) 32)).keep hb1;have hT1:=aMn hb1;have g1:Bw w w1:=bU bw3 hb1)
 refine aW ?_;intro wx hwx;have hJx:=(show Blk wx w.heap.size _ by rw [hwx];exact hJ1.alloc _);have hZx:=(show Blk wx (w.heap.size+1) _ by rw [hwx];exact hZ1.alloc _);have hTx:=(show Blk wx (w.heap.size+1+1) _ by rw [hwx];exact hT1.alloc _);have h6x0:Blk wx w1.heap.size (Ro 3 n3 A3 2 c3):=by rw [hwx];exact aC _ 32 _ rfl
 have gx:Bw w wx:=by rw [hwx];exact g1.alloc g1.size _
 have r3x:Rd wx A3 0 [.mk ka na sa,.mk kb nb sb]:=by rw [hwx];exact r3.alloc _
 clear hwx;obtain ⟨bb,ob,x1,x2,x3,Ab,cb,rfl,hk2,p1,p2,p3,hlb,rb⟩:=r3x.at_ (j:=1) (by simp);injection hk2 with e1 e2 e3;subst e1 e2 e3;simp only [Nat.one_mul] at p1 p2 p3
 have h6x:=h6x0;have u0:=aF (hJx.at_ (i:=0) rfl);have u1:=aF (hJx.at_ (i:=1) rfl);have u2:=aF (hJx.at_ (i:=2) rfl);have u3:=aF (hJx.at_ (i:=3) rfl);have u4:=aF (hJx.at_ (i:=4) rfl);obtain ⟨v0,v1,v2⟩:=jR h6x;refine eT wx [5] [0,1,3] 6 3 (lT:=[_,_,_]) ?_;intro q0 bq0;refine bZ (aD ?_);refine bB 2 ?_
 ·go_wp2_with (go_at_call 143;refine (oQ 3 n3 ka na sa [.mk kb nb sb] _ c3 _ (r3x.below bq0) (by simp)).mono ?_;rintro e q1 ⟨Ak,ck,rfl,hlk,rkq1,hbq1⟩)
  refine aX bq0 hbq1 ?_;intro bq1 lq1;refine bB 4 ?_
  ·go_wp2_with (go_at_call 142;refine (iK C m cc 5 n _ 2 c fc ev 1 (by omega) ka na sa Ak ck ty _ h2c.out ((hT.below gx).below bq1) rkq1).mono ?_;rintro e q2 ⟨rfl,hbq2⟩)
   have Kq2:=rkq1.below hbq2;refine aX bq1 hbq2 ?_;intro bq2 lq2;refine cP [5] (lB:=[_]) ?_;go_upto_region 30 with fail
   refine aW ?_;intro ws hws;have hZs:=(show Blk ws (w.heap.size+1) _ by rw [hws];exact hZx.keep bq2);have hTs:=(show Blk ws (w.heap.size+1+1) _ by rw [hws];exact hTx.keep bq2);have h6s:=(show Blk ws w1.heap.size _ by rw [hws];exact h6x.keep bq2);have gs:Bw w ws:=by rw [hws];exact gx.trans (bq2.mono gx.size)
   have kxs:Bw wx ws:=by rw [hws];exact bq2
   clear hws u0 u1 u2 u3 u4 v0 v1 v2;have rbs:=rb.below kxs;have rxs:=rx0.below gs;have t2':=aF hTs.three.2.2;have s2':=aF h6s.three.2.2;have y0:=aF ((cM kxs) _ _ p1);have y1:=aF ((cM kxs) _ _ p2);have y2:=aF ((cM kxs) _ _ p3);have z0:=aF ((cM gs) _ _ i1);have z1:=aF ((cM gs) _ _ i2);have z2:=aF ((cM gs) _ _ i3);refine eT ws [9,10,12,13,14,15] [0,1,2,3,4,5,6,7] 16 8 (lT:=[_,_,_,_,_,_,_,_]) ?_;intro q0 bq0;refine bZ (aD ?_);refine bB 8 ?_
   ·rcases hsp.out with ⟨kr,nr,sr,hsu,hvr,rfl⟩|⟨hsu,rfl⟩
    ·replace hsu:=aD hsu;replace hvr:=aD hvr;go_wp2_with (go_at_call 95;refine (fH kb nb sb Ab cb 0 kx nx sx Ax cx _ (by omega) hshx.out (by omega) (rxs.below bq0) (by omega) hshb.out (rbs.below bq0)).mono ?_;rw [hsu.out];intro e q1 hgo;obtain ⟨A7,c7,rfl,hl7,hfq1,hbq1⟩:=cS hgo;clear hgo)
     have rdq1:=hfq1.rd;refine aX bq0 hbq1 ?_;intro bq1 lq1;refine fB [9,10] 5 (lT:=[_,_]) ?_;refine bZ (aD ?_);refine bB 11 ?_
     ·go_wp2_with (go_at_call 99;refine (cJ kr nr sr A7 c7 _ hvr.out rdq1).mono ?_;rintro e q2 ⟨rfl,hbq2⟩)
      have Oq2:=rdq1.below hbq2;refine aX bq1 hbq2 ?_;intro bq2 lq2;refine fB [12,13] 2 (lT:=[_,_]) ?_;refine bZ (aD ?_);refine cP [14,15] (lB:=[_,_]) ?_;have hZ2:=hZs.keep bq2;obtain ⟨d0,d1,d2,e0,e1,e2⟩:=bW hZ2;have gf:=gs.trans (bq2.mono gs.size);have rP:=Oq2;go_wp2_with fail
      refine bodyPost_ret (v:=.tuple #[.agg (Ro kr nr A7 sr.length c7),.int .i64 0]) (by simp [results,results118,go_sem,d0,d1,d2]) rfl ⟨A7,c7,rfl,hl7,bQ hZ2 hvr.out rP _ _ _,?_⟩;exact ((gf.setCell (by simp) _).setCell (by simp) _).setCell (by simp) _
    ·replace hsu:=aD hsu;go_wp2_with (go_at_call 95;refine (fH kb nb sb Ab cb 0 kx nx sx Ax cx _ (by omega) hshx.out (by omega) (rxs.below bq0) (by omega) hshb.out (rbs.below bq0)).mono ?_;rw [hsu.out];intro e q1 hgo;obtain ⟨rfl,hbq1⟩:=eH hgo;clear hgo)
     refine aX bq0 hbq1 ?_;intro bq1 lq1;refine fB [9,10] 5 (lT:=[_,_]) ?_;refine bZ (aD ?_);refine bB 11 ?_
     ·go_wp2_with (go_at_call 99;refine (gX _).mono ?_;rintro e q2 ⟨rfl,hbq2⟩)
      refine aX bq1 hbq2 ?_;intro bq2 lq2;refine fB [12,13] 2 (lT:=[_,_]) ?_;refine bZ (aD ?_);refine cP [14,15] (lB:=[_,_]) ?_;have hZ2:=hZs.keep bq2;obtain ⟨d0,d1,d2,e0,e1,e2⟩:=bW hZ2;have gf:=gs.trans (bq2.mono gs.size);go_wp2_with fail
      refine bodyPost_ret (v:=.tuple #[.agg Zr,.int .i64 2]) (by simp [results,results118,go_sem,d0,d1,d2]) rfl ⟨rfl,?_⟩;exact bP gf
theorem aJl (C:Option Addr)(m cc:Nat)(n:Int)(A:Option Addr)(c fc:Nat)(ev:Array Value)(kp np:Int)(sp:List Tm)(n3 kd nd:Int)(sd:List Tm)(ke ne:Int)(se:List Tm)(r:Rs Tm)(ty:Nat→Option Tm)(w:World)(h1:fmS (ty 0) 13=some (.mk 13 n3 [.mk kd nd sd,.mk ke ne se]))(hvx:aE (.mk 15 0 [.mk kp np sp])=true)(hr0:fL (bX (.mk 15 0 [.mk kp np sp]) 0 0 (.mk ke ne se))=some r)(hT:TyOk fc ev w ty)(hr:Rd w A 0 [.mk kp np sp]) :
  Calls prog 148 #[.agg #[.slice C m cc,.int .i64 16,.int .i64 n,.slice A 1 c,.func (.func fc) #[] ev]] w (pK w r):=by
 obtain ⟨_,_,he,hv3⟩:=nE h1;injection he with e1 e2 e3;subst e2 e3;have hvb:=aO hv3 (t:=.mk ke ne se) (by simp);have hzx:=aH hvx;have hzb:=aH hvb;have hshx:=aD (aZ hvx);have hshb:=aD (aZ hvb);replace h1:=aD h1;have hsp:=aD (yB hvx hvb hr0);clear hv3 hvb hvx hr0;obtain ⟨bp,op,Ap,cp,rfl,i1,i2,i3,hlp,rp0⟩:=oJ hr;simp only [Nat.zero_mul,Nat.add_zero] at i1 i2 i3
 go_enter func148,ntmps148;go_upto_region 2 with (go_at_call 141;refine (hE C m cc 16 n _ 1 c fc ev 0 (by omega) 13 n3 [.mk kd nd sd,.mk ke ne se] ty _ h1.out (hT.below bw2)).mono ?_;rintro e w1 ⟨A3,c3,rfl,hl3,r3,hb1⟩;have hZ1:=iU hb1;have hJ1:=((aC w 105 #[.slice C m cc,.int .i64 16,.int .i64 n,.slice (some ⟨bp,op,none⟩) 1 c,.func (.func fc) #[] ev] rfl).alloc (.cells Zr 32)).keep hb1;have g1:Bw w w1:=bU bw2 hb1)
 refine aW ?_;intro wx hwx;have hJx:=(show Blk wx w.heap.size _ by rw [hwx];exact hJ1.alloc _);have hZx:=(show Blk wx (w.heap.size+1) _ by rw [hwx];exact hZ1.alloc _);have h6x0:Blk wx w1.heap.size (Ro 13 n3 A3 2 c3):=by rw [hwx];exact aC _ 32 _ rfl
 have gx:Bw w wx:=by rw [hwx];exact g1.alloc g1.size _
 have r3x:Rd wx A3 0 [.mk kd nd sd,.mk ke ne se]:=by rw [hwx];exact r3.alloc _
 clear hwx;have u1:=hJx.at_ (i:=1) rfl;go_upto_region 6 with fail
 refine aW ?_;intro ws hws;have hJs:=(show Blk ws w.heap.size _ by rw [hws];exact hJx);have hZs:=(show Blk ws (w.heap.size+1) _ by rw [hws];exact hZx);have h6s0:Blk ws w1.heap.size (Ro 13 n3 A3 2 c3):=by rw [hws];exact h6x0
 have gs:Bw w ws:=by rw [hws];exact gx
 have r3s:Rd ws A3 0 [.mk kd nd sd,.mk ke ne se]:=by rw [hws];exact r3x
 clear hws u1;obtain ⟨be,oe,x1,x2,x3,Ae,ce,rfl,hk2,c1,c2,c3',hle,res⟩:=r3s.at_ (j:=1) (by simp);injection hk2 with e1 e2 e3;subst e1 e2 e3;simp only [Nat.one_mul] at c1 c2 c3'
 have h6s:=h6s0;have rps:=rp0.below gs;have v2:=aF h6s.three.2.2;have u3:=aF (hJs.at_ (i:=3) rfl);obtain ⟨y0,y1,y2⟩:=qD c1 c2 c3';have z0:=aF ((cM gs) _ _ i1);have z1:=aF ((cM gs) _ _ i2);have z2:=aF ((cM gs) _ _ i3);refine eT ws [12,13,15,16,17,18] [0,1,2,3,4,5,6,7,8] 19 10 (lT:=[_,_,_,_,_,_,_,_,_]) ?_;intro q0 bq0;refine bZ (aD ?_);refine bB 9 ?_
 ·go_wp2_with fail
  refine iD ?_;intro q1 hbq1 zq1 seq1;have rq1:Rd q1 (some ⟨q0.heap.size,0,none⟩) 0 [.mk kp np sp]:=aAx (s0:=sp) zq1 hlp ((rps.below bq0).below hbq1);refine aX bq0 hbq1 ?_;intro bq1 lq1;refine bB 10 ?_
  ·go_wp2_with (go_at_call 71;refine (aP 15 _ ⟨_,_,_,rfl⟩ _).mono ?_;rintro e q2 ⟨rfl,hbq2⟩)
   have Pq2:=rq1.below hbq2;refine aX bq1 hbq2 ?_;intro bq2 lq2;refine bB 11 ?_
   ·rcases hsp.out with ⟨kr,nr,sr,hsu,hvr,rfl⟩|⟨hsu,rfl⟩
    ·replace hsu:=aD hsu;replace hvr:=aD hvr;go_wp2_with (go_at_call 95;refine (fH ke ne se Ae ce 0 15 0 [.mk kp np sp] (some ⟨q0.heap.size,0,none⟩) 1 _ (by omega) hshx.out (by omega) Pq2 (by omega) hshb.out (res.below bq2)).mono ?_;rw [hsu.out];intro e q3 hgo;obtain ⟨A7,c7,rfl,hl7,hfq3,hbq3⟩:=cS hgo;clear hgo)
     have rdq3:=hfq3.rd;have Pq3:=Pq2.below hbq3;refine aX bq2 hbq3 ?_;intro bq3 lq3;refine fB [12,13] 5 (lT:=[_,_]) ?_;refine bZ (aD ?_);refine bB 14 ?_
     ·go_wp2_with (go_at_call 99;refine (cJ kr nr sr A7 c7 _ hvr.out rdq3).mono ?_;rintro e q4 ⟨rfl,hbq4⟩)
      have Pq4:=Pq3.below hbq4;have Oq4:=rdq3.below hbq4;refine aX bq3 hbq4 ?_;intro bq4 lq4;refine fB [15,16] 2 (lT:=[_,_]) ?_;refine bZ (aD ?_);refine cP [17,18] (lB:=[_,_]) ?_;have hZ2:=hZs.keep bq4;obtain ⟨d0,d1,d2,e0,e1,e2⟩:=bW hZ2;have gf:=gs.trans (bq4.mono gs.size);have rP:=Oq4;go_wp2_with fail
      refine bodyPost_ret (v:=.tuple #[.agg (Ro kr nr A7 sr.length c7),.int .i64 0]) (by simp [results,results148,go_sem,d0,d1,d2]) rfl ⟨A7,c7,rfl,hl7,bQ hZ2 hvr.out rP _ _ _,?_⟩;exact ((gf.setCell (by simp) _).setCell (by simp) _).setCell (by simp) _
    ·replace hsu:=aD hsu;go_wp2_with (go_at_call 95;refine (fH ke ne se Ae ce 0 15 0 [.mk kp np sp] (some ⟨q0.heap.size,0,none⟩) 1 _ (by omega) hshx.out (by omega) Pq2 (by omega) hshb.out (res.below bq2)).mono ?_;rw [hsu.out];intro e q3 hgo;obtain ⟨rfl,hbq3⟩:=eH hgo;clear hgo)
     have Pq3:=Pq2.below hbq3;refine aX bq2 hbq3 ?_;intro bq3 lq3;refine fB [12,13] 5 (lT:=[_,_]) ?_;refine bZ (aD ?_);refine bB 14 ?_
     ·go_wp2_with (go_at_call 99;refine (gX _).mono ?_;rintro e q4 ⟨rfl,hbq4⟩)
      have Pq4:=Pq3.below hbq4;refine aX bq3 hbq4 ?_;intro bq4 lq4;refine fB [15,16] 2 (lT:=[_,_]) ?_;refine bZ (aD ?_);refine cP [17,18] (lB:=[_,_]) ?_;have hZ2:=hZs.keep bq4;obtain ⟨d0,d1,d2,e0,e1,e2⟩:=bW hZ2;have gf:=gs.trans (bq4.mono gs.size);go_wp2_with fail
      refine bodyPost_ret (v:=.tuple #[.agg Zr,.int .i64 2]) (by simp [results,results148,go_sem,d0,d1,d2]) rfl ⟨rfl,?_⟩;exact bP gf
theorem aEj (ctx:List Tm)(C:Option Addr)(cc nn p:Nat)(A:Option Addr)(la c fc:Nat)(ev:Array Value)(ku nu:Int)(su:List Tm)(r:Rs Tm)(w:World)(hm:ctx.length≤20)(hp:p+1+nn=ctx.length)(hpl:p<ctx.length)(hg:ctx[p] = .mk ku nu su)(hvu:aE (.mk ku nu su)=true)(hr0:fL (bT ((nn:Int)+1) 0 (.mk ku nu su))=some r)(hr:Rd w C 0 ctx) :
  Calls prog 118 #[.agg #[.slice C ctx.length cc,.int .i64 1,.int .i64 nn,.slice A la c,.func (.func fc) #[] ev]] w (pK w r):=by
 have hz:=aH hvu;have hsh:=aZ hvu;obtain ⟨bc,oc,x1,x2,x3,Au,cu,rfl,hk1,i1,i2,i3,hlu,ru⟩:=hr.at_ hpl;rw [hg] at hk1;injection hk1 with e1 e2 e3;subst e1 e2 e3;have hS:=aD (fun (w:World) (hr:Rd w Au 0 su)=>fK ku nu su Au cu ((nn:Int)+1) 0 w (by omega) (by omega) (by omega) hsh hr);have hsp:=aD (aCv (b:=(nn:Int)+1) (by omega) hvu hr0);clear hr0 hvu hsh hg;go_enter func118,ntmps118;go_upto_region 6 with fail
 refine aRv (show Blk _ w.heap.size #[.slice (some ⟨bc,oc,none⟩) ctx.length cc,.int .i64 1,.int .i64 nn,.slice A la c,.func (.func fc) #[] ev] from (((aC _ 105 _ rfl).alloc _).alloc _)) (show Blk _ (w.heap.size+1) Zr from ((aC _ 32 _ (by simp)).alloc _)) (show Blk _ (w.heap.size+1+1) (Ro 1 nn A la c) from (aC _ 32 _ (by simp))) bw3 ?_;intro ws hJs hZs hTs gs;have rus:=ru.below gs;have wq1:IntKind.i64.wrap ((ctx.length:Int) - 1)=(ctx.length:Int) - 1:=IntWalk.i64_in _ (by omega);have wq2:IntKind.i64.wrap ((ctx.length:Int) - 1 - (nn:Int))=(p:Int):=by rw [show (ctx.length:Int) - 1 - (nn:Int)=(p:Int) from by omega];exact IntWalk.i64_in _ (by omega)
 have wq3:IntKind.i64.wrap ((nn:Int)+1)=(nn:Int)+1:=IntWalk.i64_in _ (by omega);have wq4:(0:Int)≤(p:Int):=by omega
 have wq5:(p:Int)<(ctx.length:Int):=by omega
 have u0:=aF (hJs.at_ (i:=0) rfl);have t1':=aF hTs.three.2.1;have z0:=aF ((cM gs) _ _ i1);have z1:=aF ((cM gs) _ _ i2);have z2:=aF ((cM gs) _ _ i3);refine eT ws [15,16,18,19,20,21] [0,1,2,3,4,5,6,7,8,9,10,11,12,13] 22 8 (lT:=[_,_,_,_,_,_,_,_,_,_,_,_,_,_]) ?_;intro q0 bq0;refine bZ (aD ?_);refine bB 14 ?_
 ·rcases hsp.out with ⟨kr,nr,sr,hsu,hvr,rfl⟩|⟨hsu,rfl⟩
  ·replace hsu:=aD hsu;have hvr':=aD hvr;go_wp2_with (go_at_call 50;refine (hS.out _ (rus.below bq0)).mono ?_;rw [hsu.out];intro e q1 hgo;obtain ⟨A7,c7,rfl,hl7,hfq1,hbq1⟩:=cS hgo;clear hgo)
   have rdq1:=hfq1.rd;refine aX bq0 hbq1 ?_;intro bq1 lq1;refine fB [15,16] 5 (lT:=[_,_]) ?_;refine bZ (aD ?_);refine bB 17 ?_
   ·go_wp2_with (go_at_call 99;refine (cJ kr nr sr A7 c7 _ hvr'.out rdq1).mono ?_;rintro e q2 ⟨rfl,hbq2⟩)
    have Oq2:=rdq1.below hbq2;refine aX bq1 hbq2 ?_;intro bq2 lq2;refine fB [18,19] 2 (lT:=[_,_]) ?_;refine bZ (aD ?_);refine cP [20,21] (lB:=[_,_]) ?_;have hZ2:=hZs.keep bq2;obtain ⟨d0,d1,d2,e0,e1,e2⟩:=bW hZ2;have gf:=gs.trans (bq2.mono gs.size);have rP:=Oq2;go_wp2_with fail
    refine bodyPost_ret (v:=.tuple #[.agg (Ro kr nr A7 sr.length c7),.int .i64 0]) (by simp [results,results118,go_sem,d0,d1,d2]) rfl ⟨A7,c7,rfl,hl7,bQ hZ2 hvr'.out rP _ _ _,?_⟩;exact ((gf.setCell (by simp) _).setCell (by simp) _).setCell (by simp) _
  ·replace hsu:=aD hsu;go_wp2_with (go_at_call 50;refine (hS.out _ (rus.below bq0)).mono ?_;rw [hsu.out];intro e q1 hgo;obtain ⟨rfl,hbq1⟩:=eH hgo;clear hgo)
   refine aX bq0 hbq1 ?_;intro bq1 lq1;refine fB [15,16] 5 (lT:=[_,_]) ?_;refine bZ (aD ?_);refine bB 17 ?_
   ·go_wp2_with (go_at_call 99;refine (gX _).mono ?_;rintro e q2 ⟨rfl,hbq2⟩)
    refine aX bq1 hbq2 ?_;intro bq2 lq2;refine fB [18,19] 2 (lT:=[_,_]) ?_;refine bZ (aD ?_);refine cP [20,21] (lB:=[_,_]) ?_;have hZ2:=hZs.keep bq2;obtain ⟨d0,d1,d2,e0,e1,e2⟩:=bW hZ2;have gf:=gs.trans (bq2.mono gs.size);go_wp2_with fail
    refine bodyPost_ret (v:=.tuple #[.agg Zr,.int .i64 2]) (by simp [results,results118,go_sem,d0,d1,d2]) rfl ⟨rfl,?_⟩;exact bP gf
theorem aBt (C:Option Addr)(m cc:Nat)(n:Int)(A:Option Addr)(c fc:Nat)(ev:Array Value)(ka na:Int)(sa:List Tm)(kt nt:Int)(st:List Tm)(l:Int)(r:Rs Tm)(ty:Nat→Option Tm)(w:World)(h1:ty 0=some (.mk kt nt st))(hvt:aE (.mk kt nt st)=true)(hva:aE (.mk ka na sa)=true)(hr0:fL (.mk 10 0 [.mk kt nt st,.mk ka na sa,.mk ka na sa])=some r)(hT:TyOk fc ev w ty)(hr:Rd w A 0 [.mk ka na sa])
  (hL : Hid (∀ (Ao : Option Addr) (co : Nat) (w' : World), Bw w w' → Rd w' Ao 0 st → Calls prog 49 #[.slice C m cc, .agg (Ro kt nt Ao st.length co)] w' fun e w'' => e = .returned (.tuple #[.int .i64 l, .int .i64 0]) ∧ Below w'.heap.size w' w'')) :
  Calls prog 118 #[.agg #[.slice C m cc,.int .i64 11,.int .i64 n,.slice A 1 c,.func (.func fc) #[] ev]] w (pK w r):=by
 have hsp:=aD (mG hr0);have hszf:=aD (aOn (ka:=ka) (na:=na) (kt:=kt) (nt:=nt) (aH hvt) (aH hva));clear hr0 hvt hva;obtain ⟨b2,b3,rfl,rfl⟩:=hT.1;all_goals
  have h1':=aD h1;obtain ⟨ba,oa,Aa,ca,rfl,i1,i2,i3,hla,ra0⟩:=oJ hr;simp only [Nat.zero_mul,Nat.add_zero,Nat.one_mul,Nat.reduceMul] at i1 i2 i3
  go_enter func118,ntmps118;go_upto_region 42 with (first
   | (go_at_call 49;have _t:=tok1;refine (hL.out A1 c1 _ (g1.alloc g1.size _) (r1.alloc _)).mono ?_;rintro e w2 ⟨rfl,hb2⟩;have hJ2:=(hJ1.alloc (.cells (Ro kt nt A1 st.length c1) 32)).keep hb2;have hZ2:=(hZ1.alloc (.cells (Ro kt nt A1 st.length c1) 32)).keep hb2;have hT2:=(hT1.alloc (.cells (Ro kt nt A1 st.length c1) 32)).keep hb2;have h92:=aTa hb2;have r12:=(r1.alloc (.cells (Ro kt nt A1 st.length c1) 32)).below hb2;have g2:=(g1.alloc g1.size (.cells (Ro kt nt A1 st.length c1) 32)).trans (hb2.mono (by have:=g1.size;simp;omega)))
   | (go_at_call 116;refine (hT.2 0 kt nt st (by omega) h1'.out _ bw3 _ (by rfl)).mono ?_;rintro e w1 ⟨A1,c1,rfl,hl1,r1,hb1⟩;have hJ1:=(((aC w 105 #[.slice C m cc,.int .i64 11,.int .i64 n,.slice (some ⟨ba,oa,none⟩) 1 c,.func (.func 116) #[] #[.pointer (some ⟨b2,0,none⟩),.pointer (some ⟨b3,0,none⟩)]] rfl).alloc (.cells Zr 32)).alloc (.cells (Ro 11 n (some ⟨ba,oa,none⟩) 1 c) 32)).keep hb1;have hZ1:Blk w1 (w.heap.size+1) Zr:=((aC (n:=w.heap.size+1) (w.alloc (.cells #[.slice C m cc,.int .i64 11,.int .i64 n,.slice (some ⟨ba,oa,none⟩) 1 c,.func (.func 116) #[] #[.pointer (some ⟨b2,0,none⟩),.pointer (some ⟨b3,0,none⟩)]] 105)) 32 Zr (by simp)).alloc (.cells (Ro 11 n (some ⟨ba,oa,none⟩) 1 c) 32)).keep hb1;have hT1:=aMn hb1;have g1:Bw w w1:=bU bw3 hb1;have lJ:=hJ1.lt;have lZ:=hZ1.lt;have lT:=hT1.lt;have j0:=hJ1.at_ (i:=0) rfl;have j1:=hJ1.at_ (i:=1) rfl;have j2:=hJ1.at_ (i:=2) rfl;have j3:=hJ1.at_ (i:=3) rfl;have j4:=hJ1.at_ (i:=4) rfl;have tok1:=trivial))
  refine aW ?_;intro ws hws;have hZs:=(show Blk ws (w.heap.size+1) _ by rw [hws];exact hZ2);have hTs:=(show Blk ws (w.heap.size+1+1) _ by rw [hws];exact hT2);have h9s:=(show Blk ws w1.heap.size _ by rw [hws];exact h92);have r1s:=(show Rd ws A1 0 st by rw [hws];exact r12);have gs:Bw w ws:=by rw [hws];exact g2
  clear hws j0 j1 j2 j3 j4;have ras:=ra0.below gs;have t2':=aF hTs.three.2.2;obtain ⟨v0,v1,v2⟩:=jR h9s;have z0:=aF ((cM gs) _ _ i1);have z1:=aF ((cM gs) _ _ i2);have z2:=aF ((cM gs) _ _ i3);refine eT ws [12,13,14,15] [0,1,2,3,4,5,6,7,8] 16 7 (lT:=[_,_,_,_,_,_,_,_,_]) ?_;intro q0 bq0;refine bZ (aD ?_);refine bB 9 ?_
  ·go_wp2_with fail
   refine iD ?_;intro q1 hbq1 zq1 seq1;have rq1:Rd q1 (some ⟨q0.heap.size,0,none⟩) 0 [.mk kt nt st,.mk ka na sa,.mk ka na sa]:=aNb (s0:=st) (s1:=sa) (s2:=sa) zq1 hl1 hla hla ((r1s.below bq0).below hbq1) ((ras.below bq0).below hbq1) ((ras.below bq0).below hbq1);refine aX bq0 hbq1 ?_;intro bq1 lq1;refine bB 10 ?_
   ·go_wp2_with (go_at_call 71;refine (aP 10 _ ⟨_,_,_,rfl⟩ _).mono ?_;rintro e q2 ⟨rfl,hbq2⟩)
    have Pq2:=rq1.below hbq2;refine aX bq1 hbq2 ?_;intro bq2 lq2;refine bB 11 ?_
    ·rcases hsp.out with ⟨hv',rfl⟩|⟨hv',rfl⟩
     ·replace hv':=aD hv';go_wp2_with (go_at_call 99;refine (cJ 10 0 [.mk kt nt st,.mk ka na sa,.mk ka na sa] _ 3 _ hv'.out Pq2).mono ?_;rintro e q3 ⟨rfl,hbq3⟩)
      have Pq3:=Pq2.below hbq3;refine aX bq2 hbq3 ?_;intro bq3 lq3;refine fB [12,13] 2 (lT:=[_,_]) ?_;refine bZ (aD ?_);refine cP [14,15] (lB:=[_,_]) ?_;have hZ2:=hZs.keep bq3;obtain ⟨d0,d1,d2,e0,e1,e2⟩:=bW hZ2;have gf:=gs.trans (bq3.mono gs.size);have rP:=Pq3;go_wp2_with fail
      refine bodyPost_ret (v:=.tuple #[.agg (Ro 10 0 (some ⟨q0.heap.size,0,none⟩) 3 3),.int .i64 0]) (by simp [results,results118,go_sem,d0,d1,d2]) rfl ⟨some ⟨q0.heap.size,0,none⟩,3,rfl,by simp,bQ hZ2 hv'.out rP _ _ _,?_⟩;exact ((gf.setCell (by simp) _).setCell (by simp) _).setCell (by simp) _
     ·replace hv':=aD hv';go_wp2_with (go_at_call 99;refine (dB 10 0 [.mk kt nt st,.mk ka na sa,.mk ka na sa] _ 3 _ hszf.out hv'.out Pq2).mono ?_;rintro e q3 ⟨rfl,hbq3⟩)
      have Pq3:=Pq2.below hbq3;refine aX bq2 hbq3 ?_;intro bq3 lq3;refine fB [12,13] 2 (lT:=[_,_]) ?_;refine bZ (aD ?_);refine cP [14,15] (lB:=[_,_]) ?_;have hZ2:=hZs.keep bq3;obtain ⟨d0,d1,d2,e0,e1,e2⟩:=bW hZ2;have gf:=gs.trans (bq3.mono gs.size);have rP:=Pq3;go_wp2_with fail
      refine bodyPost_ret (v:=.tuple #[.agg Zr,.int .i64 2]) (by simp [results,results118,go_sem,d0,d1,d2]) rfl ⟨rfl,?_⟩;exact bP gf
end Go.Proofs.YtjlaenhcemacdaaGreat
