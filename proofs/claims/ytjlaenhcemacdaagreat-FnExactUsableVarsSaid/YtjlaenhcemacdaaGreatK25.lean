/- Parts of the proof. No condition. -/
import Derived.Test.YtjlaenhcemacdaaGreatK21
import Derived.Test.YtjlaenhcemacdaaGreatK24
open Go.Proofs.Tryz
namespace Go.Proofs.YtjlaenhcemacdaaGreat
open Go.RowKit
set_option maxHeartbeats 8000000
set_option maxRecDepth 100000
set_option linter.unusedSimpArgs false
set_option linter.unusedVariables false
theorem aLf {N:Nat}(ih:nD N)(ctx:List Tm)(C:Option Addr)(cc:Nat)(k n:Int)(A:Option Addr)(c:Nat)(ka na:Int)(sa:List Tm)(kb nb:Int)(sb:List Tm)(r:Rs Tm)(w:World)(hs:aKd (bH N) ctx (.mk ka na sa) (.mk kb nb sb)=some r)(hva:aE (.mk ka na sa)=true)(hvb:aE (.mk kb nb sb)=true)(hvc:∀u,u∈ctx→aE u=true)(hm:ctx.length≤20)(hrc:Rd w C 0 ctx)(hr:Rd w A 0 [.mk ka na sa,.mk kb nb sb]) :
  Calls prog 120 #[.slice C ctx.length cc,.agg (Ro k n A 2 c)] w (oS w r):=by
 obtain ⟨bk,ok,Aa,ca,rfl,a1,a2,a3,hla,ra⟩:=oJ hr;obtain ⟨Ab,cb,b1,b2,b3,hlb,rb⟩:=tV hr;simp only [Nat.zero_mul,Nat.add_zero,Nat.one_mul,Nat.reduceMul] at a1 a2 a3 b1 b2 b3
 have lbp:=mI _ _ a1;rcases aL hs with ⟨b,h1,rfl⟩|⟨li,h1,hs⟩
 ·have hS1:=aD (fun (w:World) (hrc:Rd w C 0 ctx) (hra:Rd w Aa 0 sa)=>dV ih ctx C cc ka na sa Aa ca _ w h1 hva hvc (by omega) hrc hra);have qb:=eO b;clear hs h1 hva hvb hvc ih;go_enter func120,ntmps120;go_wp2_with (go_at_call 43;refine (hS1.out _ ((hrc.alloc _).alloc _) ((ra.alloc _).alloc _)).mono ?_;rintro e w1 ⟨l1,rfl,hb1⟩;have hTw1:Blk w1 w.heap.size (Ro k n (some ⟨bk,ok,none⟩) 2 c):=((aC w 32 (Ro k n (some ⟨bk,ok,none⟩) 2 c) rfl).alloc _).keep hb1;have hZw1:Blk w1 (w.heap.size+1) Zr:=(aC _ 32 Zr (by simp)).keep hb1;have kww1:Bw w w1:=bU bw2 hb1;obtain ⟨d0,d1,d2,e0,e1,e2,lz⟩:=dJ hZw1)
  refine bodyPost_ret (v:=.tuple #[.agg Zr,.int .i64 (cX b)]) (by simp [results,results120,go_sem,d0,d1,d2]) rfl ⟨0,0,none,0,0,rfl,?_⟩;exact ((kww1.setCell (by simp<;>omega) _).setCell (by simp<;>omega) _).setCell (by simp<;>omega) _
 ·have hS1:=aD (fun (w:World) (hrc:Rd w C 0 ctx) (hra:Rd w Aa 0 sa)=>dV ih ctx C cc ka na sa Aa ca _ w h1 hva hvc (by omega) hrc hra);rcases aL hs with ⟨b,h2,rfl⟩|⟨⟨k1,n1,s1⟩,h2,hs⟩
  ·obtain ⟨cx,hcx⟩:∃cx,ctx++[.mk ka na sa]=cx:=⟨_,rfl⟩;have hP:=aD (show ∀(w:World) (hrc:Rd w C 0 ctx) (hra:Rd w Aa 0 sa),Calls prog 91 #[.slice C ctx.length cc,.agg (Ro ka na Aa sa.length ca)] w (aDl w cx) from fun w hrc hra=>by rw [← hcx];exact pA ctx C cc ka na sa Aa ca w (by omega) hla hrc hra);have hcl:cx.length≤21:=(by rw [← hcx];simp;omega);have hcv:∀u,u∈cx→aE u=true:=(by rw [← hcx];exact fun u hu=>(List.mem_append.1 hu).elim (hvc u) (fun h=>by rw [List.mem_singleton.1 h];exact hva));rw [hcx] at h2;clear hcx;have hI:=aD (fun (D:Option Addr) (d:Nat) (w:World) (hrD:Rd w D 0 cx) (hrb:Rd w Ab 0 sb)=>gtz (ih cx kb nb sb _ h2 hvb hcv hcl D d Ab cb w hrD hrb));have qb:=eO b;clear hs h1 h2 hva hvb hvc ih hcv;go_enter func120,ntmps120;go_upto_region 4 with (go_at_call 43;refine (hS1.out _ ((hrc.alloc _).alloc _) ((ra.alloc _).alloc _)).mono ?_;rintro e w1 ⟨rfl,hb1⟩;have hTw1:Blk w1 w.heap.size (Ro k n (some ⟨bk,ok,none⟩) 2 c):=((aC w 32 (Ro k n (some ⟨bk,ok,none⟩) 2 c) rfl).alloc _).keep hb1;have hZw1:Blk w1 (w.heap.size+1) Zr:=(aC _ 32 Zr (by simp)).keep hb1;have kww1:Bw w w1:=bU bw2 hb1)
   refine sT hTw1 hZw1 kww1 ?_;intro wx hTwx hZwx kwwx;have v2:=aF hTwx.three.2.2;obtain ⟨ua1,ua2,ua3⟩:=iG kwwx a1 a2 a3;obtain ⟨ub1,ub2,ub3⟩:=iG kwwx b1 b2 b3;go_cut [8,9] (fun vp vc wy=>∃(gz:Nat),vp = .pointer (some ⟨gz,0,none⟩)∧vc = .int .i64 (cX b)∧Bw wx wy)
   case first=>
    refine eT wx [11,12,13,15,16] [0,1,2,3,4,6,7,8,9] 17 8 (lT:=[_,_,_,_,_,_,_,_,_]) ?_;intro q0 bq0;refine bZ (aD ?_);refine nK 5 14 ?_ ?_
    ·go_wp2_with (go_at_call 91;refine (hP.out _ ((hrc.below kwwx).below bq0) ((ra.below kwwx).below bq0)).mono ?_;rintro e q1 ⟨D,d,rfl,rDq1,hbq1⟩)
     refine aX bq0 hbq1 ?_;intro bq1 lq1;refine nK 10 14 ?_ ?_
     ·go_wp2_with (go_at_call 74;refine (hI.out _ _ _ rDq1 ((rb.below kwwx).below bq1)).mono ?_;rintro e q2 ⟨k1,n1,A1,l1,c1,rfl,hbq2⟩)
      have Dq2:=rDq1.below hbq2;refine aX bq1 hbq2 ?_;intro bq2 lq2;refine fB [11,12,13] 3 (lT:=[_,_,_]) ?_;refine bZ (aD ?_);refine bB 14 ?_
      ·go_wp2_with fail
       refine aS ?_;intro q3 hn;have hbq3:Bw q2 q3:=by rw [hn];exact bw1
       have zq3:Blk q3 q2.heap.size Zr:=by rw [hn];exact aC _ 32 _ rfl
       have seq3:q2.heap.size<q3.heap.size:=by rw [hn];simp
       clear hn;have Dq3:=Dq2.below hbq3;refine aX bq2 hbq3 ?_;intro bq3 lq3;refine cP [15,16] (lB:=[_,_]) ?_;refine gS (aD ?_);obtain ⟨d0,d1,d2,e0,e1,e2⟩:=bW zq3;have szb:wx.heap.size≤q2.heap.size:=bq2.size;go_wp2_with fail
       go_meet
       exact ⟨q2.heap.size,rfl,rfl,((bq3.setCell szb _).setCell szb _).setCell szb _⟩
     ·go_wp2_with fail
      refine aS ?_;intro q4 hn;have hbq4:Bw q1 q4:=by rw [hn];exact bw1
      have zq4:Blk q4 q1.heap.size Zr:=by rw [hn];exact aC _ 32 _ rfl
      have seq4:q1.heap.size<q4.heap.size:=by rw [hn];simp
      clear hn;have Dq4:=rDq1.below hbq4;refine aX bq1 hbq4 ?_;intro bq4 lq4;refine bB 10 ?_
      ·go_wp2_with (go_at_call 74;refine (hI.out _ _ _ Dq4 ((rb.below kwwx).below bq4)).mono ?_;rintro e q5 ⟨k1,n1,A1,l1,c1,rfl,hbq5⟩)
       have Dq5:=Dq4.below hbq5;have Zq5:=zq4.keep hbq5;refine aX bq4 hbq5 ?_;intro bq5 lq5;refine fB [11,12,13] 2 (lT:=[_,_,_]) ?_;refine bZ (aD ?_);refine cP [15,16] (lB:=[_,_]) ?_;refine gS (aD ?_);obtain ⟨d0,d1,d2,e0,e1,e2⟩:=bW Zq5;have szb:wx.heap.size≤q1.heap.size:=bq1.size;go_wp2_with fail
       go_meet
       exact ⟨q1.heap.size,rfl,rfl,((bq5.setCell szb _).setCell szb _).setCell szb _⟩
    ·go_wp2_with fail
     refine aS ?_;intro q6 hn;have hbq6:Bw q0 q6:=by rw [hn];exact bw1
     have zq6:Blk q6 q0.heap.size Zr:=by rw [hn];exact aC _ 32 _ rfl
     have seq6:q0.heap.size<q6.heap.size:=by rw [hn];simp
     clear hn;refine aX bq0 hbq6 ?_;intro bq6 lq6;refine bB 5 ?_
     ·go_wp2_with (go_at_call 91;refine (hP.out _ ((hrc.below kwwx).below bq6) ((ra.below kwwx).below bq6)).mono ?_;rintro e q7 ⟨D,d,rfl,rDq7,hbq7⟩)
      have Zq7:=zq6.keep hbq7;refine aX bq6 hbq7 ?_;intro bq7 lq7;refine bB 10 ?_
      ·go_wp2_with (go_at_call 74;refine (hI.out _ _ _ rDq7 ((rb.below kwwx).below bq7)).mono ?_;rintro e q8 ⟨k1,n1,A1,l1,c1,rfl,hbq8⟩)
       have Zq8:=Zq7.keep hbq8;have Dq8:=rDq7.below hbq8;refine aX bq7 hbq8 ?_;intro bq8 lq8;refine fB [11,12,13] 2 (lT:=[_,_,_]) ?_;refine bZ (aD ?_);refine cP [15,16] (lB:=[_,_]) ?_;refine gS (aD ?_);obtain ⟨d0,d1,d2,e0,e1,e2⟩:=bW Zq8;have szb:wx.heap.size≤q0.heap.size:=bq0.size;go_wp2_with fail
       go_meet
       exact ⟨q0.heap.size,rfl,rfl,((bq8.setCell szb _).setCell szb _).setCell szb _⟩
   case rest=>
    obtain ⟨gz,rfl,rfl,hxy⟩:=hcut;have hZy:=hZwx.keep hxy;have gy:=kwwx.trans (hxy.mono kwwx.size);obtain ⟨d0,d1,d2,e0,e1,e2,lz⟩:=dJ hZy;go_wp2_with fail
    refine bodyPost_ret (v:=.tuple #[.agg Zr,.int .i64 (cX b)]) (by simp [results,results120,go_sem,d0,d1,d2]) rfl ⟨0,0,none,0,0,rfl,?_⟩;exact ((gy.setCell (by simp<;>omega) _).setCell (by simp<;>omega) _).setCell (by simp<;>omega) _
  ·obtain ⟨cx,hcx⟩:∃cx,ctx++[.mk ka na sa]=cx:=⟨_,rfl⟩;have hP:=aD (show ∀(w:World) (hrc:Rd w C 0 ctx) (hra:Rd w Aa 0 sa),Calls prog 91 #[.slice C ctx.length cc,.agg (Ro ka na Aa sa.length ca)] w (aDl w cx) from fun w hrc hra=>by rw [← hcx];exact pA ctx C cc ka na sa Aa ca w (by omega) hla hrc hra);have hcl:cx.length≤21:=(by rw [← hcx];simp;omega);have hcv:∀u,u∈cx→aE u=true:=(by rw [← hcx];exact fun u hu=>(List.mem_append.1 hu).elim (hvc u) (fun h=>by rw [List.mem_singleton.1 h];exact hva));rw [hcx] at h2;clear hcx;have hI:=aD (fun (D:Option Addr) (d:Nat) (w:World) (hrD:Rd w D 0 cx) (hrb:Rd w Ab 0 sb)=>gtz (ih cx kb nb sb _ h2 hvb hcv hcl D d Ab cb w hrD hrb));have hv1:=aD (cY h2);have hvl:=aD (show ∀t,t∈[Tm.mk ka na sa,Tm.mk k1 n1 s1]→aE t=true from fun t ht=>by
    have hd:=cY h2;rcases List.mem_cons.1 ht with rfl|ht
    ·exact hva
    ·rw [List.mem_singleton.1 ht];exact hd)
   rcases aL hs with ⟨b,h3,rfl⟩|⟨⟨k8,n8,s8⟩,h3,hs⟩
   ·have hB:=aD (fun (A:Option Addr) (c:Nat) (w:World) (hrc:Rd w C 0 ctx) (hr:Rd w A 0 [.mk ka na sa,.mk k1 n1 s1])=>qG ih ctx C cc 3 0 A c ka na sa k1 n1 s1 _ w h3 hva (cY h2) hvc hm hrc hr);clear hs h1 h2 h3 hva hvb hvc ih hcv;go_enter func120,ntmps120;go_upto_region 4 with (go_at_call 43;refine (hS1.out _ ((hrc.alloc _).alloc _) ((ra.alloc _).alloc _)).mono ?_;rintro e w1 ⟨rfl,hb1⟩;have hTw1:Blk w1 w.heap.size (Ro k n (some ⟨bk,ok,none⟩) 2 c):=((aC w 32 (Ro k n (some ⟨bk,ok,none⟩) 2 c) rfl).alloc _).keep hb1;have hZw1:Blk w1 (w.heap.size+1) Zr:=(aC _ 32 Zr (by simp)).keep hb1;have kww1:Bw w w1:=bU bw2 hb1)
    refine sT hTw1 hZw1 kww1 ?_;intro wx hTwx hZwx kwwx;have v2:=aF hTwx.three.2.2;obtain ⟨ua1,ua2,ua3⟩:=iG kwwx a1 a2 a3;obtain ⟨ub1,ub2,ub3⟩:=iG kwwx b1 b2 b3;go_cut [8,9] (fun vp vc wy=>∃(gz:Nat) (Az:Option Addr) (cz:Nat),vp = .pointer (some ⟨gz,0,none⟩)∧vc = .int .i64 0∧s1.length≤9223372036854775807∧Blk wy gz (Ro k1 n1 Az s1.length cz)∧Rd wy Az 0 s1∧Bw wx wy∧wx.heap.size≤gz)
    case first=>
     refine eT wx [11,12,13,15,16] [0,1,2,3,4,6,7,8,9] 17 8 (lT:=[_,_,_,_,_,_,_,_,_]) ?_;intro q0 bq0;refine bZ (aD ?_);refine nK 5 14 ?_ ?_
     ·go_wp2_with (go_at_call 91;refine (hP.out _ ((hrc.below kwwx).below bq0) ((ra.below kwwx).below bq0)).mono ?_;rintro e q1 ⟨D,d,rfl,rDq1,hbq1⟩)
      refine aX bq0 hbq1 ?_;intro bq1 lq1;refine nK 10 14 ?_ ?_
      ·go_wp2_with (go_at_call 74;refine (hI.out _ _ _ rDq1 ((rb.below kwwx).below bq1)).mono ?_;rintro e q2 ⟨A1,c1,rfl,hl1,rUq2,hbq2⟩)
       have Dq2:=rDq1.below hbq2;refine aX bq1 hbq2 ?_;intro bq2 lq2;refine fB [11,12,13] 3 (lT:=[_,_,_]) ?_;refine bZ (aD ?_);refine bB 14 ?_
       ·go_wp2_with fail
        refine aS ?_;intro q3 hn;have hbq3:Bw q2 q3:=by rw [hn];exact bw1
        have zq3:Blk q3 q2.heap.size Zr:=by rw [hn];exact aC _ 32 _ rfl
        have seq3:q2.heap.size<q3.heap.size:=by rw [hn];simp
        clear hn;have Dq3:=Dq2.below hbq3;have Uq3:=rUq2.below hbq3;refine aX bq2 hbq3 ?_;intro bq3 lq3;refine cP [15,16] (lB:=[_,_]) ?_;refine gS (aD ?_);obtain ⟨d0,d1,d2,e0,e1,e2⟩:=bW zq3;have szb:wx.heap.size≤q2.heap.size:=bq2.size;go_wp2_with fail
        go_meet
        exact ⟨q2.heap.size,A1,c1,rfl,rfl,hl1,((zq3.set_ 0 _).set_ 1 _).set_ 2 _,iM zq3 hv1.out Uq3 _ _ _,((bq3.setCell szb _).setCell szb _).setCell szb _,szb⟩
      ·go_wp2_with fail
       refine aS ?_;intro q4 hn;have hbq4:Bw q1 q4:=by rw [hn];exact bw1
       have zq4:Blk q4 q1.heap.size Zr:=by rw [hn];exact aC _ 32 _ rfl
       have seq4:q1.heap.size<q4.heap.size:=by rw [hn];simp
       clear hn;have Dq4:=rDq1.below hbq4;refine aX bq1 hbq4 ?_;intro bq4 lq4;refine bB 10 ?_
       ·go_wp2_with (go_at_call 74;refine (hI.out _ _ _ Dq4 ((rb.below kwwx).below bq4)).mono ?_;rintro e q5 ⟨A1,c1,rfl,hl1,rUq5,hbq5⟩)
        have Dq5:=Dq4.below hbq5;have Zq5:=zq4.keep hbq5;refine aX bq4 hbq5 ?_;intro bq5 lq5;refine fB [11,12,13] 2 (lT:=[_,_,_]) ?_;refine bZ (aD ?_);refine cP [15,16] (lB:=[_,_]) ?_;refine gS (aD ?_);obtain ⟨d0,d1,d2,e0,e1,e2⟩:=bW Zq5;have szb:wx.heap.size≤q1.heap.size:=bq1.size;go_wp2_with fail
        go_meet
        exact ⟨q1.heap.size,A1,c1,rfl,rfl,hl1,((Zq5.set_ 0 _).set_ 1 _).set_ 2 _,iM Zq5 hv1.out rUq5 _ _ _,((bq5.setCell szb _).setCell szb _).setCell szb _,szb⟩
     ·go_wp2_with fail
      refine aS ?_;intro q6 hn;have hbq6:Bw q0 q6:=by rw [hn];exact bw1
      have zq6:Blk q6 q0.heap.size Zr:=by rw [hn];exact aC _ 32 _ rfl
      have seq6:q0.heap.size<q6.heap.size:=by rw [hn];simp
      clear hn;refine aX bq0 hbq6 ?_;intro bq6 lq6;refine bB 5 ?_
      ·go_wp2_with (go_at_call 91;refine (hP.out _ ((hrc.below kwwx).below bq6) ((ra.below kwwx).below bq6)).mono ?_;rintro e q7 ⟨D,d,rfl,rDq7,hbq7⟩)
       have Zq7:=zq6.keep hbq7;refine aX bq6 hbq7 ?_;intro bq7 lq7;refine bB 10 ?_
       ·go_wp2_with (go_at_call 74;refine (hI.out _ _ _ rDq7 ((rb.below kwwx).below bq7)).mono ?_;rintro e q8 ⟨A1,c1,rfl,hl1,rUq8,hbq8⟩)
        have Zq8:=Zq7.keep hbq8;have Dq8:=rDq7.below hbq8;refine aX bq7 hbq8 ?_;intro bq8 lq8;refine fB [11,12,13] 2 (lT:=[_,_,_]) ?_;refine bZ (aD ?_);refine cP [15,16] (lB:=[_,_]) ?_;refine gS (aD ?_);obtain ⟨d0,d1,d2,e0,e1,e2⟩:=bW Zq8;have szb:wx.heap.size≤q0.heap.size:=bq0.size;go_wp2_with fail
        go_meet
        exact ⟨q0.heap.size,A1,c1,rfl,rfl,hl1,((Zq8.set_ 0 _).set_ 1 _).set_ 2 _,iM Zq8 hv1.out rUq8 _ _ _,((bq8.setCell szb _).setCell szb _).setCell szb _,szb⟩
    case rest=>
     obtain ⟨gz,Az,cz,rfl,rfl,hlz,hGy,rUy,hxy,hgz⟩:=hcut;clear v2 ua1 ua2 ua3 ub1 ub2 ub3;have hTy:=hTwx.keep hxy;have hZy:=hZwx.keep hxy;have gy:=kwwx.trans (hxy.mono kwwx.size);go_upto_region 7 with fail
     refine aBe hTy hZy hGy gy ?_;intro wu hTwu hZwu hGwu kwwu hwu;have rUu:Rd wu Az 0 s1:=by rw [hwu];exact rUy
     clear hwu;have v2:=aF hTwu.three.2.2;obtain ⟨z0,z1,z2⟩:=jR hGwu;obtain ⟨ua1,ua2,ua3⟩:=iG kwwu a1 a2 a3;go_cut [10] (fun vp wz=>∃(gp:Nat) (Ap:Option Addr) (cp:Nat),vp = .pointer (some ⟨gp,0,none⟩)∧Blk wz gp (Ro 3 0 Ap 2 cp)∧Rd wz Ap 0 [.mk ka na sa,.mk k1 n1 s1]∧Bw wu wz∧wu.heap.size≤gp)
     case first=>
      refine eT wu [8] [0,1,2,3,4] 9 4 (lT:=[_,_,_,_,_]) ?_;intro q0 bq0;refine bZ (aD ?_);refine nK 5 7 ?_ ?_
      ·go_wp2_with fail
       refine aS ?_;intro q1 hn;have hbq1:Bw q0 q1:=by rw [hn];exact bw1
       have zq1:Blk q1 q0.heap.size #[.int .i64 ka,.int .i64 na,.slice Aa sa.length ca,.int .i64 k1,.int .i64 n1,.slice Az s1.length cz]:=by rw [hn];exact aC _ 32 _ rfl
       have seq1:q0.heap.size<q1.heap.size:=by rw [hn];simp
       clear hn;refine aX bq0 hbq1 ?_;intro bq1 lq1;refine nK 6 7 ?_ ?_
       ·go_wp2_with (go_at_call 67;refine (bK 3 (aN hla ((ra.below kwwu).below bq1).rdp (aN hlz (rUu.below bq1).rdp cC)) 2 rfl (by omega) _ _ zq1).mono ?_;rintro e q2 ⟨A7,c7,rfl,r7q2,hbq2⟩)
        have Bq2:=zq1.keep hbq2;refine aX bq1 hbq2 ?_;intro bq2 lq2;refine bB 7 ?_
        ·go_wp2_with fail
         refine aS ?_;intro q3 hn;have hbq3:Bw q2 q3:=by rw [hn];exact bw1
         have zq3:Blk q3 q2.heap.size Zr:=by rw [hn];exact aC _ 32 _ rfl
         have seq3:q2.heap.size<q3.heap.size:=by rw [hn];simp
         clear hn;have Bq3:=Bq2.keep hbq3;have Nq3:=r7q2.below hbq3;refine aX bq2 hbq3 ?_;intro bq3 lq3;refine cP [8] (lB:=[_]) ?_;refine gS (aD ?_);obtain ⟨d0,d1,d2,e0,e1,e2⟩:=bW zq3;have szb:wu.heap.size≤q2.heap.size:=bq2.size;go_wp2_with fail
         go_meet
         exact ⟨q2.heap.size,A7,c7,rfl,((zq3.set_ 0 _).set_ 1 _).set_ 2 _,eB zq3 hvl.out Nq3 _ _ _,((bq3.setCell szb _).setCell szb _).setCell szb _,szb⟩
       ·go_wp2_with fail
        refine aS ?_;intro q4 hn;have hbq4:Bw q1 q4:=by rw [hn];exact bw1
        have zq4:Blk q4 q1.heap.size Zr:=by rw [hn];exact aC _ 32 _ rfl
        have seq4:q1.heap.size<q4.heap.size:=by rw [hn];simp
        clear hn;have Bq4:=zq1.keep hbq4;refine aX bq1 hbq4 ?_;intro bq4 lq4;refine bB 6 ?_
        ·go_wp2_with (go_at_call 67;refine (bK 3 (aN hla ((ra.below kwwu).below bq4).rdp (aN hlz (rUu.below bq4).rdp cC)) 2 rfl (by omega) _ _ Bq4).mono ?_;rintro e q5 ⟨A7,c7,rfl,r7q5,hbq5⟩)
         have Bq5:=Bq4.keep hbq5;have Zq5:=zq4.keep hbq5;refine aX bq4 hbq5 ?_;intro bq5 lq5;refine cP [8] (lB:=[_]) ?_;refine gS (aD ?_);obtain ⟨d0,d1,d2,e0,e1,e2⟩:=bW Zq5;have szb:wu.heap.size≤q1.heap.size:=bq1.size;go_wp2_with fail
         go_meet
         exact ⟨q1.heap.size,A7,c7,rfl,((Zq5.set_ 0 _).set_ 1 _).set_ 2 _,eB Zq5 hvl.out r7q5 _ _ _,((bq5.setCell szb _).setCell szb _).setCell szb _,szb⟩
      ·go_wp2_with fail
       refine aS ?_;intro q6 hn;have hbq6:Bw q0 q6:=by rw [hn];exact bw1
       have zq6:Blk q6 q0.heap.size Zr:=by rw [hn];exact aC _ 32 _ rfl
       have seq6:q0.heap.size<q6.heap.size:=by rw [hn];simp
       clear hn;refine aX bq0 hbq6 ?_;intro bq6 lq6;refine bB 5 ?_
       ·go_wp2_with fail
        refine aS ?_;intro q7 hn;have hbq7:Bw q6 q7:=by rw [hn];exact bw1
        have zq7:Blk q7 q6.heap.size #[.int .i64 ka,.int .i64 na,.slice Aa sa.length ca,.int .i64 k1,.int .i64 n1,.slice Az s1.length cz]:=by rw [hn];exact aC _ 32 _ rfl
        have seq7:q6.heap.size<q7.heap.size:=by rw [hn];simp
        clear hn;have Zq7:=zq6.keep hbq7;refine aX bq6 hbq7 ?_;intro bq7 lq7;refine bB 6 ?_
        ·go_wp2_with (go_at_call 67;refine (bK 3 (aN hla ((ra.below kwwu).below bq7).rdp (aN hlz (rUu.below bq7).rdp cC)) 2 rfl (by omega) _ _ zq7).mono ?_;rintro e q8 ⟨A7,c7,rfl,r7q8,hbq8⟩)
         have Zq8:=Zq7.keep hbq8;have Bq8:=zq7.keep hbq8;refine aX bq7 hbq8 ?_;intro bq8 lq8;refine cP [8] (lB:=[_]) ?_;refine gS (aD ?_);obtain ⟨d0,d1,d2,e0,e1,e2⟩:=bW Zq8;have szb:wu.heap.size≤q0.heap.size:=bq0.size;go_wp2_with fail
         go_meet
         exact ⟨q0.heap.size,A7,c7,rfl,((Zq8.set_ 0 _).set_ 1 _).set_ 2 _,eB Zq8 hvl.out r7q8 _ _ _,((bq8.setCell szb _).setCell szb _).setCell szb _,szb⟩
     case rest=>
      obtain ⟨gp,Ap,cp,rfl,hPz,rPz,hyz,hgp⟩:=hcut;clear v2 z0 z1 z2 ua1 ua2 ua3;have hZz:=hZwu.keep hyz;have gz1:=kwwu.trans (hyz.mono kwwu.size);obtain ⟨p0,p1,p2⟩:=hPz.three;have lpz:=hPz.lt;have lzz:=hZwu.lt;have npz:gp≠w.heap.size+1:=by omega
      go_wp2_with (go_at_call 119;refine (hB.out _ _ _ (hrc.below gz1) rPz).mono ?_;rintro e w8 ⟨k8,n8,A8,l8,c8,rfl,hb8⟩;have hP8:=(hPz.keep hb8).alloc (.cells (Ro k8 n8 A8 l8 c8) 32);have hZ8:=(hZz.keep hb8).alloc (.cells (Ro k8 n8 A8 l8 c8) 32);have g8:=(gz1.trans (hb8.mono gz1.size)).alloc (by have:=gz1.size;have:=hb8.size;omega) (.cells (Ro k8 n8 A8 l8 c8) 32);have rP8:=(rPz.below hb8).alloc (.cells (Ro k8 n8 A8 l8 c8) 32);clear p0 p1 p2;obtain ⟨p0,p1,p2⟩:=hP8.three;obtain ⟨d0,d1,d2,e0,e1,e2,lz⟩:=dJ hZ8;have lp8:=hP8.lt)
      refine bodyPost_ret (v:=.tuple #[.agg (Ro 3 0 Ap 2 cp),.int .i64 (cX b)]) (by simp [results,results120,go_sem,d0,d1,d2]) rfl ⟨3,0,Ap,2,cp,rfl,?_⟩;exact bP g8
   ·have hB:=aD (fun (A:Option Addr) (c:Nat) (w:World) (hrc:Rd w C 0 ctx) (hr:Rd w A 0 [.mk ka na sa,.mk k1 n1 s1])=>qG ih ctx C cc 3 0 A c ka na sa k1 n1 s1 _ w h3 hva (cY h2) hvc hm hrc hr);injection hs with hs;subst hs;clear h1 h2 h3 hva hvb hvc ih hcv;go_enter func120,ntmps120;go_upto_region 4 with (go_at_call 43;refine (hS1.out _ ((hrc.alloc _).alloc _) ((ra.alloc _).alloc _)).mono ?_;rintro e w1 ⟨rfl,hb1⟩;have hTw1:Blk w1 w.heap.size (Ro k n (some ⟨bk,ok,none⟩) 2 c):=((aC w 32 (Ro k n (some ⟨bk,ok,none⟩) 2 c) rfl).alloc _).keep hb1;have hZw1:Blk w1 (w.heap.size+1) Zr:=(aC _ 32 Zr (by simp)).keep hb1;have kww1:Bw w w1:=bU bw2 hb1)
    refine sT hTw1 hZw1 kww1 ?_;intro wx hTwx hZwx kwwx;have v2:=aF hTwx.three.2.2;obtain ⟨ua1,ua2,ua3⟩:=iG kwwx a1 a2 a3;obtain ⟨ub1,ub2,ub3⟩:=iG kwwx b1 b2 b3;go_cut [8,9] (fun vp vc wy=>∃(gz:Nat) (Az:Option Addr) (cz:Nat),vp = .pointer (some ⟨gz,0,none⟩)∧vc = .int .i64 0∧s1.length≤9223372036854775807∧Blk wy gz (Ro k1 n1 Az s1.length cz)∧Rd wy Az 0 s1∧Bw wx wy∧wx.heap.size≤gz)
    case first=>
     refine eT wx [11,12,13,15,16] [0,1,2,3,4,6,7,8,9] 17 8 (lT:=[_,_,_,_,_,_,_,_,_]) ?_;intro q0 bq0;refine bZ (aD ?_);refine nK 5 14 ?_ ?_
     ·go_wp2_with (go_at_call 91;refine (hP.out _ ((hrc.below kwwx).below bq0) ((ra.below kwwx).below bq0)).mono ?_;rintro e q1 ⟨D,d,rfl,rDq1,hbq1⟩)
      refine aX bq0 hbq1 ?_;intro bq1 lq1;refine nK 10 14 ?_ ?_
      ·go_wp2_with (go_at_call 74;refine (hI.out _ _ _ rDq1 ((rb.below kwwx).below bq1)).mono ?_;rintro e q2 ⟨A1,c1,rfl,hl1,rUq2,hbq2⟩)
       have Dq2:=rDq1.below hbq2;refine aX bq1 hbq2 ?_;intro bq2 lq2;refine fB [11,12,13] 3 (lT:=[_,_,_]) ?_;refine bZ (aD ?_);refine bB 14 ?_
       ·go_wp2_with fail
        refine aS ?_;intro q3 hn;have hbq3:Bw q2 q3:=by rw [hn];exact bw1
        have zq3:Blk q3 q2.heap.size Zr:=by rw [hn];exact aC _ 32 _ rfl
        have seq3:q2.heap.size<q3.heap.size:=by rw [hn];simp
        clear hn;have Dq3:=Dq2.below hbq3;have Uq3:=rUq2.below hbq3;refine aX bq2 hbq3 ?_;intro bq3 lq3;refine cP [15,16] (lB:=[_,_]) ?_;refine gS (aD ?_);obtain ⟨d0,d1,d2,e0,e1,e2⟩:=bW zq3;have szb:wx.heap.size≤q2.heap.size:=bq2.size;go_wp2_with fail
        go_meet
        exact ⟨q2.heap.size,A1,c1,rfl,rfl,hl1,((zq3.set_ 0 _).set_ 1 _).set_ 2 _,iM zq3 hv1.out Uq3 _ _ _,((bq3.setCell szb _).setCell szb _).setCell szb _,szb⟩
      ·go_wp2_with fail
       refine aS ?_;intro q4 hn;have hbq4:Bw q1 q4:=by rw [hn];exact bw1
       have zq4:Blk q4 q1.heap.size Zr:=by rw [hn];exact aC _ 32 _ rfl
       have seq4:q1.heap.size<q4.heap.size:=by rw [hn];simp
       clear hn;have Dq4:=rDq1.below hbq4;refine aX bq1 hbq4 ?_;intro bq4 lq4;refine bB 10 ?_
       ·go_wp2_with (go_at_call 74;refine (hI.out _ _ _ Dq4 ((rb.below kwwx).below bq4)).mono ?_;rintro e q5 ⟨A1,c1,rfl,hl1,rUq5,hbq5⟩)
        have Dq5:=Dq4.below hbq5;have Zq5:=zq4.keep hbq5;refine aX bq4 hbq5 ?_;intro bq5 lq5;refine fB [11,12,13] 2 (lT:=[_,_,_]) ?_;refine bZ (aD ?_);refine cP [15,16] (lB:=[_,_]) ?_;refine gS (aD ?_);obtain ⟨d0,d1,d2,e0,e1,e2⟩:=bW Zq5;have szb:wx.heap.size≤q1.heap.size:=bq1.size;go_wp2_with fail
        go_meet
        exact ⟨q1.heap.size,A1,c1,rfl,rfl,hl1,((Zq5.set_ 0 _).set_ 1 _).set_ 2 _,iM Zq5 hv1.out rUq5 _ _ _,((bq5.setCell szb _).setCell szb _).setCell szb _,szb⟩
     ·go_wp2_with fail
      refine aS ?_;intro q6 hn;have hbq6:Bw q0 q6:=by rw [hn];exact bw1
      have zq6:Blk q6 q0.heap.size Zr:=by rw [hn];exact aC _ 32 _ rfl
      have seq6:q0.heap.size<q6.heap.size:=by rw [hn];simp
      clear hn;refine aX bq0 hbq6 ?_;intro bq6 lq6;refine bB 5 ?_
      ·go_wp2_with (go_at_call 91;refine (hP.out _ ((hrc.below kwwx).below bq6) ((ra.below kwwx).below bq6)).mono ?_;rintro e q7 ⟨D,d,rfl,rDq7,hbq7⟩)
       have Zq7:=zq6.keep hbq7;refine aX bq6 hbq7 ?_;intro bq7 lq7;refine bB 10 ?_
       ·go_wp2_with (go_at_call 74;refine (hI.out _ _ _ rDq7 ((rb.below kwwx).below bq7)).mono ?_;rintro e q8 ⟨A1,c1,rfl,hl1,rUq8,hbq8⟩)
        have Zq8:=Zq7.keep hbq8;have Dq8:=rDq7.below hbq8;refine aX bq7 hbq8 ?_;intro bq8 lq8;refine fB [11,12,13] 2 (lT:=[_,_,_]) ?_;refine bZ (aD ?_);refine cP [15,16] (lB:=[_,_]) ?_;refine gS (aD ?_);obtain ⟨d0,d1,d2,e0,e1,e2⟩:=bW Zq8;have szb:wx.heap.size≤q0.heap.size:=bq0.size;go_wp2_with fail
        go_meet
        exact ⟨q0.heap.size,A1,c1,rfl,rfl,hl1,((Zq8.set_ 0 _).set_ 1 _).set_ 2 _,iM Zq8 hv1.out rUq8 _ _ _,((bq8.setCell szb _).setCell szb _).setCell szb _,szb⟩
    case rest=>
     obtain ⟨gz,Az,cz,rfl,rfl,hlz,hGy,rUy,hxy,hgz⟩:=hcut;clear v2 ua1 ua2 ua3 ub1 ub2 ub3;have hTy:=hTwx.keep hxy;have hZy:=hZwx.keep hxy;have gy:=kwwx.trans (hxy.mono kwwx.size);go_upto_region 7 with fail
     refine aBe hTy hZy hGy gy ?_;intro wu hTwu hZwu hGwu kwwu hwu;have rUu:Rd wu Az 0 s1:=by rw [hwu];exact rUy
     clear hwu;have v2:=aF hTwu.three.2.2;obtain ⟨z0,z1,z2⟩:=jR hGwu;obtain ⟨ua1,ua2,ua3⟩:=iG kwwu a1 a2 a3;go_cut [10] (fun vp wz=>∃(gp:Nat) (Ap:Option Addr) (cp:Nat),vp = .pointer (some ⟨gp,0,none⟩)∧Blk wz gp (Ro 3 0 Ap 2 cp)∧Rd wz Ap 0 [.mk ka na sa,.mk k1 n1 s1]∧Bw wu wz∧wu.heap.size≤gp)
     case first=>
      refine eT wu [8] [0,1,2,3,4] 9 4 (lT:=[_,_,_,_,_]) ?_;intro q0 bq0;refine bZ (aD ?_);refine nK 5 7 ?_ ?_
      ·go_wp2_with fail
       refine aS ?_;intro q1 hn;have hbq1:Bw q0 q1:=by rw [hn];exact bw1
       have zq1:Blk q1 q0.heap.size #[.int .i64 ka,.int .i64 na,.slice Aa sa.length ca,.int .i64 k1,.int .i64 n1,.slice Az s1.length cz]:=by rw [hn];exact aC _ 32 _ rfl
       have seq1:q0.heap.size<q1.heap.size:=by rw [hn];simp
       clear hn;refine aX bq0 hbq1 ?_;intro bq1 lq1;refine nK 6 7 ?_ ?_
       ·go_wp2_with (go_at_call 67;refine (bK 3 (aN hla ((ra.below kwwu).below bq1).rdp (aN hlz (rUu.below bq1).rdp cC)) 2 rfl (by omega) _ _ zq1).mono ?_;rintro e q2 ⟨A7,c7,rfl,r7q2,hbq2⟩)
        have Bq2:=zq1.keep hbq2;refine aX bq1 hbq2 ?_;intro bq2 lq2;refine bB 7 ?_
        ·go_wp2_with fail
         refine aS ?_;intro q3 hn;have hbq3:Bw q2 q3:=by rw [hn];exact bw1
         have zq3:Blk q3 q2.heap.size Zr:=by rw [hn];exact aC _ 32 _ rfl
         have seq3:q2.heap.size<q3.heap.size:=by rw [hn];simp
         clear hn;have Bq3:=Bq2.keep hbq3;have Nq3:=r7q2.below hbq3;refine aX bq2 hbq3 ?_;intro bq3 lq3;refine cP [8] (lB:=[_]) ?_;refine gS (aD ?_);obtain ⟨d0,d1,d2,e0,e1,e2⟩:=bW zq3;have szb:wu.heap.size≤q2.heap.size:=bq2.size;go_wp2_with fail
         go_meet
         exact ⟨q2.heap.size,A7,c7,rfl,((zq3.set_ 0 _).set_ 1 _).set_ 2 _,eB zq3 hvl.out Nq3 _ _ _,((bq3.setCell szb _).setCell szb _).setCell szb _,szb⟩
       ·go_wp2_with fail
        refine aS ?_;intro q4 hn;have hbq4:Bw q1 q4:=by rw [hn];exact bw1
        have zq4:Blk q4 q1.heap.size Zr:=by rw [hn];exact aC _ 32 _ rfl
        have seq4:q1.heap.size<q4.heap.size:=by rw [hn];simp
        clear hn;have Bq4:=zq1.keep hbq4;refine aX bq1 hbq4 ?_;intro bq4 lq4;refine bB 6 ?_
        ·go_wp2_with (go_at_call 67;refine (bK 3 (aN hla ((ra.below kwwu).below bq4).rdp (aN hlz (rUu.below bq4).rdp cC)) 2 rfl (by omega) _ _ Bq4).mono ?_;rintro e q5 ⟨A7,c7,rfl,r7q5,hbq5⟩)
         have Bq5:=Bq4.keep hbq5;have Zq5:=zq4.keep hbq5;refine aX bq4 hbq5 ?_;intro bq5 lq5;refine cP [8] (lB:=[_]) ?_;refine gS (aD ?_);obtain ⟨d0,d1,d2,e0,e1,e2⟩:=bW Zq5;have szb:wu.heap.size≤q1.heap.size:=bq1.size;go_wp2_with fail
         go_meet
         exact ⟨q1.heap.size,A7,c7,rfl,((Zq5.set_ 0 _).set_ 1 _).set_ 2 _,eB Zq5 hvl.out r7q5 _ _ _,((bq5.setCell szb _).setCell szb _).setCell szb _,szb⟩
      ·go_wp2_with fail
       refine aS ?_;intro q6 hn;have hbq6:Bw q0 q6:=by rw [hn];exact bw1
       have zq6:Blk q6 q0.heap.size Zr:=by rw [hn];exact aC _ 32 _ rfl
       have seq6:q0.heap.size<q6.heap.size:=by rw [hn];simp
       clear hn;refine aX bq0 hbq6 ?_;intro bq6 lq6;refine bB 5 ?_
       ·go_wp2_with fail
        refine aS ?_;intro q7 hn;have hbq7:Bw q6 q7:=by rw [hn];exact bw1
        have zq7:Blk q7 q6.heap.size #[.int .i64 ka,.int .i64 na,.slice Aa sa.length ca,.int .i64 k1,.int .i64 n1,.slice Az s1.length cz]:=by rw [hn];exact aC _ 32 _ rfl
        have seq7:q6.heap.size<q7.heap.size:=by rw [hn];simp
        clear hn;have Zq7:=zq6.keep hbq7;refine aX bq6 hbq7 ?_;intro bq7 lq7;refine bB 6 ?_
        ·go_wp2_with (go_at_call 67;refine (bK 3 (aN hla ((ra.below kwwu).below bq7).rdp (aN hlz (rUu.below bq7).rdp cC)) 2 rfl (by omega) _ _ zq7).mono ?_;rintro e q8 ⟨A7,c7,rfl,r7q8,hbq8⟩)
         have Zq8:=Zq7.keep hbq8;have Bq8:=zq7.keep hbq8;refine aX bq7 hbq8 ?_;intro bq8 lq8;refine cP [8] (lB:=[_]) ?_;refine gS (aD ?_);obtain ⟨d0,d1,d2,e0,e1,e2⟩:=bW Zq8;have szb:wu.heap.size≤q0.heap.size:=bq0.size;go_wp2_with fail
         go_meet
         exact ⟨q0.heap.size,A7,c7,rfl,((Zq8.set_ 0 _).set_ 1 _).set_ 2 _,eB Zq8 hvl.out r7q8 _ _ _,((bq8.setCell szb _).setCell szb _).setCell szb _,szb⟩
     case rest=>
      obtain ⟨gp,Ap,cp,rfl,hPz,rPz,hyz,hgp⟩:=hcut;clear v2 z0 z1 z2 ua1 ua2 ua3;have hZz:=hZwu.keep hyz;have gz1:=kwwu.trans (hyz.mono kwwu.size);obtain ⟨p0,p1,p2⟩:=hPz.three;have lpz:=hPz.lt;have lzz:=hZwu.lt;have npz:gp≠w.heap.size+1:=by omega
      go_wp2_with (go_at_call 119;refine (hB.out _ _ _ (hrc.below gz1) rPz).mono ?_;rintro e w8 ⟨A8,c8,rfl,hl8,r8,hb8⟩;have hP8:=(hPz.keep hb8).alloc (.cells (Ro k8 n8 A8 s8.length c8) 32);have hZ8:=(hZz.keep hb8).alloc (.cells (Ro k8 n8 A8 s8.length c8) 32);have g8:=(gz1.trans (hb8.mono gz1.size)).alloc (by have:=gz1.size;have:=hb8.size;omega) (.cells (Ro k8 n8 A8 s8.length c8) 32);have rP8:=(rPz.below hb8).alloc (.cells (Ro k8 n8 A8 s8.length c8) 32);clear p0 p1 p2;obtain ⟨p0,p1,p2⟩:=hP8.three;obtain ⟨d0,d1,d2,e0,e1,e2,lz⟩:=dJ hZ8;have lp8:=hP8.lt)
      refine bodyPost_ret (v:=.tuple #[.agg (Ro 3 0 Ap 2 cp),.int .i64 0]) (by simp [results,results120,go_sem,d0,d1,d2]) rfl ⟨Ap,cp,rfl,by simp,eB hZ8 hvl.out rP8 _ _ _,?_⟩;exact bP g8
theorem aMe {by_ k n n':Int}{ks s:List Tm}(h:bT by_ 0 (.mk k n ks) = .mk k n' s):(if k=1∧0≤n then n+by_ else n)=n'∧bN by_ k 0 0 ks=s:=by
 rw [bT] at h;injection h with _ h2 h3;exact ⟨h2,h3⟩
mutual
def oY:Tm→Bool
 | .mk k _ ks=>(k != 0) && xV ks
def xV:List Tm→Bool
 | []=>true
 | t::ts=>oY t && xV ts
end
theorem shape_nz:(∀(t:Tm) (d:Nat),shape d t=true→oY t=true)∧∀(ts:List Tm) (d:Nat),(∀t,t∈ts→shape d t=true)→xV ts=true:=by
 refine bA (fun k n ks ih d h=>?_) (fun d _=>rfl) (fun t ts h1 h2 d h=>?_)
 ·obtain ⟨q,rfl,ha,_,_,hk⟩:=bY h;rw [oY,ih q hk,Bool.and_true,bne_iff_ne];rintro rfl;have:aU 0 = -1:=rfl;omega
 ·rw [xV,h1 d (h t (by simp)),h2 d (fun u hu=>h u (by simp [hu]))];rfl
theorem aAy (by_:Int):(∀(t:Tm) (c:Int),oY (bT by_ c t)=oY t)∧∀(ts:List Tm) (k c:Int) (i:Nat),xV (bN by_ k c i ts)=xV ts:=by
 refine bA (fun k n ks ih c=>?_) (fun k c i=>rfl) (fun t ts h1 h2 k c i=>?_)
 ·rw [bT,oY,oY,ih]
 ·rw [bN,xV,xV,h1,h2]
theorem aMg {w:World}{z:Nat}(hZ:Blk w z Zr):(∀t b off i,oY t=true→RdC w b off i t→RdPC (·≠z) w b off i t)∧(∀(ks:List Tm) A i,xV ks=true→Rd w A i ks→RdP (·≠z) w A i ks):=by
 refine bA (fun k n ks ih b off i hs hr=>?_) (fun A i _ _=>RdP.nil) (fun t ts h1 h2 A i hs hr=>?_)
 ·rw [oY,Bool.and_eq_true,bne_iff_ne] at hs;obtain ⟨c1,c2,A,c,c3,hl,hr'⟩:=RdC.iff.1 hr;refine RdPC.iff.2 ⟨fun e=>?_,c1,c2,A,c,c3,hl,ih A 0 hs.2 hr'⟩;subst e;have h0:=hs.1;rw [hZ.cell] at c1;generalize off+i*3=j at c1
  rcases j with _|_|_|j
  ·simp at c1;exact h0 c1.symm
  ·simp at c1;exact h0 c1.symm
  ·simp at c1
  ·simp at c1
 ·rw [xV,Bool.and_eq_true] at hs;obtain ⟨⟨b,off,e,hc⟩,hr'⟩:=Rd.cons_iff.1 hr;exact RdP.cons_iff.2 ⟨⟨b,off,e,h1 b off i hs.1 hc⟩,h2 A (i+1) hs.2 hr'⟩
theorem aEy (kp np:Int)(sp:List Tm)(Ap:Option Addr)(cp:Nat)(n1 n2:Int)(s1 s2:List Tm)(w:World)(hv:aE (.mk kp np sp)=true)(h1:bT 1 0 (.mk kp np sp)=Tm.mk kp n1 s1)(h2:bT 2 0 (.mk kp np sp)=Tm.mk kp n2 s2)(rp:Rd w Ap 0 sp) :
  Calls prog 152 #[.agg (Ro kp np Ap sp.length cp)] w (aUa w 3 0 [Tm.mk 6 0 [],Tm.mk 3 0 [Tm.mk 5 0 [Tm.mk kp n1 s1,Tm.mk 1 0 []],Tm.mk 5 0 [Tm.mk kp n2 s2,Tm.mk 8 0 [Tm.mk 1 1 []]]]]):=by
 have hsz:=aH hv;obtain ⟨q1,q2⟩:=aMe h1;obtain ⟨q3,q4⟩:=aMe h2;have hS1:=aD (show ∀(w:World) (hr:Rd w Ap 0 sp),Calls prog 29 #[.agg (Ro kp np Ap sp.length cp),.int .i64 1,.int .i64 0] w (qU w kp n1 s1) from fun w hr=>by
  have:=gN _ kp np sp Ap cp 1 0 30 w (oH _) (by omega) (aY hv) (by omega) (by omega) (by omega) hr;rwa [q1,q2] at this)
 have hS2:=aD (show ∀(w:World) (hr:Rd w Ap 0 sp),Calls prog 29 #[.agg (Ro kp np Ap sp.length cp),.int .i64 2,.int .i64 0] w (qU w kp n2 s2) from fun w hr=>by
  have:=gN _ kp np sp Ap cp 2 0 30 w (oH _) (by omega) (aY hv) (by omega) (by omega) (by omega) hr;rwa [q3,q4] at this)
 have hnz:=aD (show xV [Tm.mk 6 0 [],Tm.mk 3 0 [Tm.mk 5 0 [Tm.mk kp n1 s1,Tm.mk 1 0 []],Tm.mk 5 0 [Tm.mk kp n2 s2,Tm.mk 8 0 [Tm.mk 1 1 []]]]]=true by
  have z0:=shape_nz.1 _ _ (aY hv);have z1:=(aAy 1).1 (.mk kp np sp) 0;have z2:=(aAy 2).1 (.mk kp np sp) 0;rw [h1,z0] at z1;rw [h2,z0] at z2;simp only [oY,xV] at z1 z2⊢
  simp [z1,z2])
 clear h1 h2 q1 q2 q3 q4;go_enter func152,ntmps152;go_upto_region 4 with (first
  | (go_at_call 67;have _t:=tok7;refine (bK 5 (aN hl5 hf5g.rdp (aN (show ([Tm.mk 1 1 []]:List Tm).length≤9223372036854775807 by simp) r6g.rdp cC)) 2 rfl (by omega) _ _ hRg).mono ?_;rintro e wh ⟨A8,c8,rfl,r8,hbh⟩;have hZw2:=hZg.keep hbh;have hNw2:=hNg.keep hbh;have hQw2:=hQg.keep hbh;have r4h:=r4g.below hbh;have kww2:=kwg.trans (hbh.mono kwg.size);clear tok7;have tok8:=trivial)
  | (go_at_call 67;have _t:=tok6;refine (bK 8 (aN (by simp) (Rd.nil (w:=wf.alloc (.cells (Ro 1 1 none 0 0) 32))).rdp cC) 1 rfl (by omega) _ _ hRf).mono ?_;rintro e wg ⟨A6,c6,rfl,r6,hbg⟩;have hZg:=(hZf.keep hbg).alloc (.cells #[.int .i64 kp,.int .i64 n2,.slice A5 s2.length c5,.int .i64 8,.int .i64 0,.slice A6 1 c6] 32);have hNg:=(hNf.keep hbg).alloc (.cells #[.int .i64 kp,.int .i64 n2,.slice A5 s2.length c5,.int .i64 8,.int .i64 0,.slice A6 1 c6] 32);have hQg:=(hQf.keep hbg).alloc (.cells #[.int .i64 kp,.int .i64 n2,.slice A5 s2.length c5,.int .i64 8,.int .i64 0,.slice A6 1 c6] 32);have r4g:=(r4f.below hbg).alloc (.cells #[.int .i64 kp,.int .i64 n2,.slice A5 s2.length c5,.int .i64 8,.int .i64 0,.slice A6 1 c6] 32);have kwg:=(kwf.trans (hbg.mono kwf.size)).alloc (by have:=kwf.size;have:=hbg.size;omega) (.cells #[.int .i64 kp,.int .i64 n2,.slice A5 s2.length c5,.int .i64 8,.int .i64 0,.slice A6 1 c6] 32);have hf5g:=(hf5f.below hbg).alloc (.cells #[.int .i64 kp,.int .i64 n2,.slice A5 s2.length c5,.int .i64 8,.int .i64 0,.slice A6 1 c6] 32);have r6g:=r6.alloc (.cells #[.int .i64 kp,.int .i64 n2,.slice A5 s2.length c5,.int .i64 8,.int .i64 0,.slice A6 1 c6] 32);have hRg:=aC wg 32 #[.int .i64 kp,.int .i64 n2,.slice A5 s2.length c5,.int .i64 8,.int .i64 0,.slice A6 1 c6] rfl;clear tok6;have tok7:=trivial)
  | (go_at_call 55;have _t:=tok5;refine (cG _ _ _).mono ?_;rintro e wf ⟨rfl,hbf⟩;have hZf:=(hZe.keep hbf).alloc (.cells (Ro 1 1 none 0 0) 32);have hNf:=(hNe.keep hbf).alloc (.cells (Ro 1 1 none 0 0) 32);have hQf:=(hQe.keep hbf).alloc (.cells (Ro 1 1 none 0 0) 32);have r4f:=(r4e.below hbf).alloc (.cells (Ro 1 1 none 0 0) 32);have kwf:=(kwe.trans (hbf.mono kwe.size)).alloc (by have:=kwe.size;have:=hbf.size;omega) (.cells (Ro 1 1 none 0 0) 32);have hf5f:=(hf5.rd.below hbf).alloc (.cells (Ro 1 1 none 0 0) 32);have hRf:=aC wf 32 (Ro 1 1 none 0 0) rfl;clear tok5;have tok6:=trivial)
  | (go_at_call 29;have _t:=tok4;refine (hS2.out _ (rp.below kwd)).mono ?_;rintro e we ⟨A5,c5,rfl,hl5,hf5,hbe⟩;have hZe:=hZd.keep hbe;have hNe:=hNd.keep hbe;have hQe:=hQd.keep hbe;have r4e:=r4d.below hbe;have kwe:=kwd.trans (hbe.mono kwd.size);clear tok4;have tok5:=trivial)
  | (go_at_call 67;have _t:=tok3;refine (bK 5 (aN hl1 hf1c.rdp (aN (by simp) (Rd.nil (w:=wc.alloc (.cells #[.int .i64 kp,.int .i64 n1,.slice A1 s1.length c1,.int .i64 1,.int .i64 0,.slice none 0 0] 32))).rdp cC)) 2 rfl (by omega) _ _ hRc).mono ?_;rintro e wd ⟨A4,c4,rfl,r4,hbd⟩;have hPd:=(hPc.keep hbd).alloc (.cells (Ro 5 0 A4 2 c4) 32);have hZd:=(hZc.keep hbd).alloc (.cells (Ro 5 0 A4 2 c4) 32);have hNd:=(hNc.keep hbd).alloc (.cells (Ro 5 0 A4 2 c4) 32);have kwd:=(kwc.trans (hbd.mono kwc.size)).alloc (by have:=kwc.size;have:=hbd.size;omega) (.cells (Ro 5 0 A4 2 c4) 32);have r4d:=r4.alloc (.cells (Ro 5 0 A4 2 c4) 32);have hQd:=aC wd 32 (Ro 5 0 A4 2 c4) rfl;clear p0 p1 p2;obtain ⟨p0,p1,p2⟩:=hPd.three;clear tok3;have tok4:=trivial)
  | (go_at_call 55;have _t:=tok2;refine (cG _ _ _).mono ?_;rintro e wc ⟨rfl,hbc⟩;have hPc:=(hPb.keep hbc).alloc (.cells #[.int .i64 kp,.int .i64 n1,.slice A1 s1.length c1,.int .i64 1,.int .i64 0,.slice none 0 0] 32);have hZc:=(hZb.keep hbc).alloc (.cells #[.int .i64 kp,.int .i64 n1,.slice A1 s1.length c1,.int .i64 1,.int .i64 0,.slice none 0 0] 32);have hNc:=(hNb.keep hbc).alloc (.cells #[.int .i64 kp,.int .i64 n1,.slice A1 s1.length c1,.int .i64 1,.int .i64 0,.slice none 0 0] 32);have kwc:=(kwb.trans (hbc.mono kwb.size)).alloc (by have:=kwb.size;have:=hbc.size;omega) (.cells #[.int .i64 kp,.int .i64 n1,.slice A1 s1.length c1,.int .i64 1,.int .i64 0,.slice none 0 0] 32);have hf1c:=(hf1.rd.below hbc).alloc (.cells #[.int .i64 kp,.int .i64 n1,.slice A1 s1.length c1,.int .i64 1,.int .i64 0,.slice none 0 0] 32);have hRc:=aC wc 32 #[.int .i64 kp,.int .i64 n1,.slice A1 s1.length c1,.int .i64 1,.int .i64 0,.slice none 0 0] rfl;clear tok2;have tok3:=trivial)
  | (go_at_call 29;have _t:=tok1;refine (hS1.out _ (rp.below kwa1)).mono ?_;rintro e wb ⟨A1,c1,rfl,hl1,hf1,hbb⟩;have hPb:=hPa1.keep hbb;have hZb:=hZa1.keep hbb;have hNb:=hNa1.keep hbb;have kwb:=kwa1.trans (hbb.mono kwa1.size);clear tok1;have tok2:=trivial)
  | (go_at_call 55;  refine (cG _ _ _).mono ?_;rintro e wa ⟨rfl,hba⟩;have hPa:Blk wa w.heap.size (Ro kp np Ap sp.length cp):=((aC w 32 (Ro kp np Ap sp.length cp) rfl).alloc _).keep hba;have hZa:Blk wa (w.heap.size+1) Zr:=(aC _ 32 Zr (by simp)).keep hba;have kwa:Bw w wa:=bU bw2 hba;have hPa1:=hPa.alloc (.cells (Ro 6 0 none 0 0) 32);have hZa1:=hZa.alloc (.cells (Ro 6 0 none 0 0) 32);have hNa1:=aC wa 32 (Ro 6 0 none 0 0) rfl;have kwa1:=kwa.alloc kwa.size (.cells (Ro 6 0 none 0 0) 32);obtain ⟨p0,p1,p2⟩:=hPa1.three;have tok1:=trivial))
 refine aUs (hZw2.alloc _) (hNw2.alloc _) (hQw2.alloc _) (show Blk _ wh.heap.size (Ro 5 0 A8 2 c8) from (aC _ 32 _ (by simp))) (kww2.alloc (by have:=kww2.size;simp<;>omega) _) ?_;intro wx hZwx hNwx hQwx hSwx kwwx hwwx;have r4x:Rd wx A4 0 [Tm.mk kp n1 s1,Tm.mk 1 0 []]:=by rw [hwwx];exact r4h.alloc _
 have r8x:Rd wx A8 0 [Tm.mk kp n2 s2,Tm.mk 8 0 [Tm.mk 1 1 []]]:=by rw [hwwx];exact r8.alloc _
 clear hwwx;obtain ⟨v0,v1,v2⟩:=jR hNwx;obtain ⟨u0,u1,u2⟩:=jR hQwx;obtain ⟨y0,y1,y2⟩:=jR hSwx;refine eT wx [7] [0,1,2] 8 5 (lT:=[_,_,_]) ?_;intro q0 bq0;refine bZ (aD ?_);refine bB 3 ?_
 ·go_wp2_with fail
  refine aS ?_;intro q1 hn;have hbq1:Bw q0 q1:=by rw [hn];exact bw1
  have zq1:Blk q1 q0.heap.size #[.int .i64 5,.int .i64 0,.slice A4 2 c4,.int .i64 5,.int .i64 0,.slice A8 2 c8]:=by rw [hn];exact aC _ 32 _ rfl
  have seq1:q0.heap.size<q1.heap.size:=by rw [hn];simp
  clear hn;refine aX bq0 hbq1 ?_;intro bq1 lq1;refine bB 4 ?_
  ·go_wp2_with (go_at_call 67;refine (bK 3 (aN (ks:=[Tm.mk kp n1 s1,Tm.mk 1 0 []]) (by simp) (r4x.below bq1).rdp (aN (ks:=[Tm.mk kp n2 s2,Tm.mk 8 0 [Tm.mk 1 1 []]]) (by simp) (r8x.below bq1).rdp cC)) 2 rfl (by omega) _ _ zq1).mono ?_;rintro e q2 ⟨A9,c9,rfl,r9,hbq2⟩)
   refine aX bq1 hbq2 ?_;intro bq2 lq2;refine bB 5 ?_
   ·go_wp2_with fail
    refine aS ?_;intro q3 hn;have hbq3:Bw q2 q3:=by rw [hn];exact bw1
    have zq3:Blk q3 q2.heap.size #[.int .i64 6,.int .i64 0,.slice none 0 0,.int .i64 3,.int .i64 0,.slice A9 2 c9]:=by rw [hn];exact aC _ 32 _ rfl
    have seq3:q2.heap.size<q3.heap.size:=by rw [hn];simp
    clear hn;have r9q3:=r9.below hbq3;refine aX bq2 hbq3 ?_;intro bq3 lq3;refine bB 6 ?_
    ·go_wp2_with (go_at_call 67;refine (bK 3 (aN (ks:=[]) (by simp) (Rd.nil (w:=q3)).rdp (aN (ks:=[Tm.mk 5 0 [Tm.mk kp n1 s1,Tm.mk 1 0 []],Tm.mk 5 0 [Tm.mk kp n2 s2,Tm.mk 8 0 [Tm.mk 1 1 []]]]) (by simp) r9q3.rdp cC)) 2 rfl (by omega) _ _ zq3).mono ?_;rintro e q4 ⟨A7,c7,rfl,r7,hbq4⟩)
     refine aX bq3 hbq4 ?_;intro bq4 lq4;refine cP [7] (lB:=[_]) ?_;refine gS (aD ?_);have hZq4:=hZwx.keep bq4;have hNq4:=hNwx.keep bq4;have hQq4:=hQwx.keep bq4;have hSq4:=hSwx.keep bq4;have kwq4:=kwwx.trans (bq4.mono kwwx.size);have kwxq4:=bq4;obtain ⟨d0,d1,d2,e0,e1,e2,lz⟩:=dJ hZq4;have rset:=((aMg hZq4).2 [Tm.mk 6 0 [],Tm.mk 3 0 [Tm.mk 5 0 [Tm.mk kp n1 s1,Tm.mk 1 0 []],Tm.mk 5 0 [Tm.mk kp n2 s2,Tm.mk 8 0 [Tm.mk 1 1 []]]]] A7 0 hnz.out r7);go_wp2_with fail
     refine bodyPost_ret (v:=.agg (Ro 3 0 A7 2 c7)) (by simp [results,results152,go_sem,d0,d1,d2]) rfl ⟨A7,c7,rfl,by simp,?_,?_⟩
     ·exact (((rset.setCell (a:=⟨(w.heap.size+1),0,none⟩) (fun h=>h rfl) _).setCell (a:=⟨(w.heap.size+1),1,none⟩) (fun h=>h rfl) _).setCell (a:=⟨(w.heap.size+1),2,none⟩) (fun h=>h rfl) _).rd
     ·exact ((kwq4.setCell (by simp<;>omega) _).setCell (by simp<;>omega) _).setCell (by simp<;>omega) _
inductive Hs:Tm→Tm→Prop
 | refl (t:Tm):Hs t t
 | step {t u v:Tm}:cD t=some u→Hs u v→Hs t v
theorem Hs.trans {t u v:Tm}(h:Hs t u)(h2:Hs u v):Hs t v:=by
 induction h with
 | refl t=>exact h2
 | step h1 _ ih=>exact .step h1 (ih h2)
theorem Hs.ps {t u:Tm}(h:Hs t u):Ps t u:=by
 induction h with
 | refl t=>exact .refl _
 | step h1 _ ih=>exact .step (aJi _ _ h1) ih
theorem Hs.one {t u:Tm}(h:cD t=some u):Hs t u:=.step h (.refl _)
theorem Hs.det {t u v:Tm}(h:Hs t u)(hu:cD u=none)(h2:Hs t v)(hv:cD v=none):u=v:=by
 induction h with
 | refl t=>
  cases h2 with
  | refl=>rfl
  | step h3 _=>rw [hu] at h3;cases h3
 | step h1 _ ih=>
  cases h2 with
  | refl=>rw [hv] at h1;cases h1
  | step h3 h4=>
   rw [h1] at h3;obtain rfl:=Option.some.inj h3;exact ih hu h4
theorem aSe {t u v:Tm}(h:Hs t u)(h2:Hs t v)(hv:cD v=none):Hs u v:=by
 induction h with
 | refl t=>exact h2
 | step h1 _ ih=>
  cases h2 with
  | refl=>rw [hv] at h1;cases h1
  | step h3 h4=>
   rw [h1] at h3;obtain rfl:=Option.some.inj h3;exact ih h4
theorem aPl:∀(f:Nat) (t h:Tm) (c:Int),uF f t=(some h,c)→Hs t h∧cD h=none
 | f,t,h,c,hh=>by
  rw [uF] at hh;cases hs:cD t with
  | none=>
   rw [hs] at hh;injection hh with hh _;obtain rfl:=Option.some.inj hh;exact ⟨.refl _,hs⟩
  | some t'=>
   rw [hs] at hh;cases f with
   | zero=>injection hh with hh _;cases hh
   | succ f=>
    simp only at hh
    split at hh
    ·obtain ⟨h1,h2⟩:=aPl f t' h c hh;exact ⟨.step hs h1,h2⟩
    ·injection hh with hh _;cases hh
theorem iE {k n:Int}{ks:List Tm}(hk:¬bC k<0)(h0:rdx k ks=0)(hj:(bC k).toNat<ks.length):cD (.mk k n ks)=(cD (aI ks (bC k).toNat)).map fun u=>.mk k n (ks.set (bC k).toNat u):=by
 rw [cD,if_pos h0,if_neg hk,nI ks _ hj,cK hj,Option.map_map];rfl
theorem fN {k n:Int}{ks:List Tm}(h0:rdx k ks≠0):cD (.mk k n ks)=some (eA (.mk k n ks)):=by rw [cD,if_neg h0]
theorem kK {t u:Tm}(h:cD t=some u):t.k=5∨t.k=9∨t.k=12∨t.k=15∨t.k=16:=by
 obtain ⟨k,n,ks⟩:=t;rw [cD] at h;by_cases h0:rdx k ks=0
 ·rw [if_pos h0] at h;by_cases hk:bC k<0
  ·rw [if_pos hk] at h;cases h
  ·unfold bC at hk
   show k=5∨k=9∨k=12∨k=15∨k=16
   by_cases a:k=5∨k=15∨k=16
   ·omega
   ·rw [if_neg a] at hk;by_cases b:k=9
    ·omega
    ·rw [if_neg b] at hk;by_cases c:k=12
     ·omega
     ·rw [if_neg c] at hk;omega
 ·exact tP h0
theorem aDn {t:Tm}(h:¬(t.k=5∨t.k=9∨t.k=12∨t.k=15∨t.k=16)):cD t=none:=by
 cases hs:cD t with
 | none=>rfl
 | some u=>exact absurd (kK hs) h
theorem rL {k:Int}{ks:List Tm}(hk:fZ ks (bC k).toNat=5∨fZ ks (bC k).toNat=9∨fZ ks (bC k).toNat=12∨fZ ks (bC k).toNat=15∨fZ ks (bC k).toNat=16):rdx k ks=0:=by
 apply Classical.byContradiction
 intro h;rcases eX h with ⟨_,rfl,h2⟩|⟨_,rfl,h2⟩|⟨_,rfl,h2⟩|⟨_,rfl,h2⟩|⟨_,rfl,h2⟩|⟨_,rfl,h2⟩
 ·rw [show (bC 5).toNat=0 from rfl,h2] at hk;omega
 ·rw [show (bC 9).toNat=3 from rfl,h2] at hk;omega
 ·rw [show (bC 9).toNat=3 from rfl,h2] at hk;omega
 ·rw [show (bC 12).toNat=1 from rfl,h2] at hk;omega
 ·rw [show (bC 15).toNat=0 from rfl,h2] at hk;omega
 ·rw [show (bC 16).toNat=0 from rfl,h2] at hk;omega
theorem nG {k:Int}(hk:¬bC k<0):binds k=false:=by
 have:¬(k=3∨k=4∨k=13):=by
  rintro (rfl|rfl|rfl)<;>exact hk (by decide)
 simp only [binds,Bool.or_eq_false_iff,beq_eq_false_iff_ne]
 omega
theorem kE {f:Tm→Tm}:∀(ks:List Tm) (j:Nat) (u:Tm),(ks.set j u).map f=(ks.map f).set j (f u)
 | [],_,_=>rfl
 | t::ts,0,u=>rfl
 | t::ts,j+1,u=>by rw [List.set_cons_succ,List.map_cons,List.map_cons,List.set_cons_succ,kE ts j u]
theorem iN {s:Nat→Tm}{k:Int}(hb:binds k=false):∀(ts:List Tm) (i:Nat),eD s k i ts=ts.map (ins s)
 | [],i=>rfl
 | t::ts,i=>by rw [eD,List.map_cons,iN hb ts (i+1),if_pos (by unfold aM;rw [if_neg (by rw [hb];rintro ⟨-,h⟩;cases h)])]
theorem jZ {b c k:Int}(hb:binds k=false):∀(ts:List Tm) (i:Nat),bN b k c i ts=ts.map (bT b c)
 | [],i=>rfl
 | t::ts,i=>by rw [bN,List.map_cons,jZ hb ts (i+1),show aM k (i:Int)=0 by unfold aM;rw [if_neg (by rw [hb];rintro ⟨-,h⟩;cases h)],Int.add_zero]
theorem rR {t:Tm}(h:cV t=true)(j:Nat):cV (aI t.ks j)=true:=by
 obtain ⟨k,n,ks⟩:=t;exact cN h j
theorem aAg {s:Nat→Tm}{k:Int}{ks:List Tm}(h:rdx k ks≠0):rdx k (eD s k 0 ks)=rdx k ks:=by
 have hin:∀(j:Nat) (m:Int),fZ ks j=m→m≠1→fZ (eD s k 0 ks) j=m:=fun j m e hm=>by
  rw [kZ,kL,aPp (by show fZ ks j≠1;rw [e];exact hm)];exact e
 rcases eX h with ⟨h1,rfl,h2⟩|⟨h1,rfl,h2⟩|⟨h1,rfl,h2⟩|⟨h1,rfl,h2⟩|⟨h1,rfl,h2⟩|⟨h1,rfl,h2⟩<;>
  (have h3 := hin _ _ h2 (by decide); unfold rdx; simp [h2, h3])
theorem aFo {s:Nat→Tm}{k n:Int}{ks:List Tm}(hw:cV (.mk k n ks)=true)(h:rdx k ks≠0):ins s (eA (.mk k n ks))=eA (ins s (.mk k n ks)):=by
 have hr:=aAg (s:=s) h;have hk1:k≠1:=by have:=tP h;omega
 rw [dH hk1];rcases eX h with ⟨h1,rfl,h2⟩|⟨h1,rfl,h2⟩|⟨h1,rfl,h2⟩|⟨h1,rfl,h2⟩|⟨h1,rfl,h2⟩|⟨h1,rfl,h2⟩
 ·have h4:(aI ks 0).k=4:=h2;have hwb:cV (aI (aI ks 0).ks 1)=true:=rR (cN hw 0) 1;rw [nU h1,nU (hr.trans h1),fE rfl,fE rfl,aAv (by rw [h4];decide),h4,if_neg (show ¬aM 4 ((1:Nat):Int)=0 by decide),uL s (cN hw 1) hwb]
 ·rw [nM h1,nM (hr.trans h1),fE rfl]
 ·have h4:(aI ks 3).k=8:=h2;rw [mT h1,mT (hr.trans h1),fE rfl,fE rfl,fE rfl,fE rfl,aAv (by rw [h4];decide),h4,if_pos (show aM 8 ((0:Nat):Int)=0 by decide)];rw [dH (by decide),iN rfl,List.map_cons,List.map_cons,List.map_nil,dH (by decide),iN rfl,dH (by decide),iN rfl];rfl
 ·rw [nF h1,nF (hr.trans h1),fE rfl]
 ·have h4:(aI ks 0).k=14:=h2;rw [nW h1,nW (hr.trans h1),fE rfl,aAv (by rw [h4];decide),h4,if_pos (show aM 14 ((1:Nat):Int)=0 by decide)]
 ·have h4:(aI ks 0).k=14:=h2;rw [mM h1,mM (hr.trans h1),fE rfl,aAv (by rw [h4];decide),h4,if_pos (show aM 14 ((2:Nat):Int)=0 by decide)]
theorem aOi (s:Nat→Tm):∀(t u:Tm),cV t=true→cD t=some u→cD (ins s t)=some (ins s u):=by
 refine jM fun k n ks ih u hw h=>?_
 by_cases h0:rdx k ks=0
 ·have hk5:=kK h;have hk1:k≠1:=by have:k=5∨k=9∨k=12∨k=15∨k=16:=hk5;omega
  have hm:¬bC k<0:=by
   have:k=5∨k=9∨k=12∨k=15∨k=16:=hk5;rcases this with rfl|rfl|rfl|rfl|rfl<;>decide
  by_cases hj:(bC k).toNat<ks.length
  ·rw [iE hm h0 hj] at h;cases hv:cD (aI ks (bC k).toNat) with
   | none=>rw [hv] at h;cases h
   | some v=>
    rw [hv] at h;obtain rfl:=Option.some.inj h;have h5:=kK hv;have hb:=nG hm;have hr0:rdx k (eD s k 0 ks)=0:=rL (by rw [kZ,fE hb,aPp (by omega)];exact h5);have hv2:=ih _ (gF hj) v (cN hw _) hv;rw [dH hk1,iE hm hr0 (by rw [eG];exact hj),fE hb,hv2,dH hk1,iN hb,iN hb,kE];rfl
  ·rw [cD,if_pos h0,if_neg hm,(eK ks _ (by omega)).2] at h;cases h
 ·rw [fN h0] at h;obtain rfl:=Option.some.inj h;have hk1:k≠1:=by have:=tP h0;omega
  rw [aFo hw h0,dH hk1,fN (by rw [aAg h0];exact h0)]
theorem wf_sb:(∀(t u:Tm) (x d:Int),cV t=true→cV u=true→0≤d→0≤x→cV (bX u x d t)=true)∧∀(ts:List Tm) (u:Tm) (k x d:Int) (i:Nat),oK ts=true→cV u=true→0≤d→0≤x→oK (cE u k x d i ts)=true:=by
 have hsh:(∀(t:Tm) (b c:Int),cV t=true→0≤b→cV (bT b c t)=true)∧∀(ts:List Tm) (b k c:Int) (i:Nat),oK ts=true→0≤b→oK (bN b k c i ts)=true:=by
  refine bA (fun k n ks ih b c hw hb=>?_) (fun b k c i hw hb=>rfl) (fun t ts h1 h2 b k c i hw hb=>?_)
  ·rw [bT];obtain ⟨h1,h2⟩:=wf_iff.1 hw;refine wf_iff.2 ⟨fun e=>?_,ih b k c 0 h2 hb⟩;obtain ⟨h3,rfl⟩:=h1 e;exact ⟨by split<;>omega,rfl⟩
  ·rw [oK,Bool.and_eq_true] at hw;rw [bN,oK,h1 _ _ hw.1 hb,h2 _ _ _ _ hw.2 hb];rfl
 refine bA (fun k n ks ih u x d hw hu hd hx=>?_) (fun u k x d i hw hu hd hx=>rfl) (fun t ts h1 h2 u k x d i hw hu hd hx=>?_)
 ·rw [bX];obtain ⟨h1,h2⟩:=wf_iff.1 hw;by_cases h:k=1∧n=x
  ·rw [if_pos h];exact hsh.1 u d 0 hu hd
  ·rw [if_neg h];refine wf_iff.2 ⟨fun e=>?_,ih u k x d 0 h2 hu hd hx⟩;obtain ⟨h3,rfl⟩:=h1 e;exact ⟨by split<;>omega,rfl⟩
 ·rw [oK,Bool.and_eq_true] at hw;have:=cW k i;rw [cE,oK,h1 _ _ _ hw.1 hu (by omega) (by omega),h2 _ _ _ _ _ hw.2 hu hd hx];rfl
theorem aLc {k n:Int}{ks:List Tm}(hw:cV (.mk k n ks)=true)(h:rdx k ks≠0):cV (eA (.mk k n ks))=true:=by
 rcases eX h with ⟨h1,rfl,h2⟩|⟨h1,rfl,h2⟩|⟨h1,rfl,h2⟩|⟨h1,rfl,h2⟩|⟨h1,rfl,h2⟩|⟨h1,rfl,h2⟩
 ·rw [nU h1];exact wf_sb.1 _ _ 0 0 (rR (cN hw 0) 1) (cN hw 1) (by decide) (by decide)
 ·rw [nM h1];exact cN hw 1
 ·rw [mT h1];have h5:=rR (cN hw 3) 0;simp [cV,oK,cN hw 0,cN hw 1,cN hw 2,h5]
 ·rw [nF h1];exact cN hw 2
 ·rw [nW h1];exact rR (cN hw 0) 1
 ·rw [mM h1];exact rR (cN hw 0) 2
theorem aQt:∀(t u:Tm),cV t=true→cD t=some u→cV u=true:=by
 refine jM fun k n ks ih u hw h=>?_
 by_cases h0:rdx k ks=0
 ·have hk5:k=5∨k=9∨k=12∨k=15∨k=16:=kK h;have hm:¬bC k<0:=by rcases hk5 with rfl|rfl|rfl|rfl|rfl<;>decide
  by_cases hj:(bC k).toNat<ks.length
  ·rw [iE hm h0 hj] at h;cases hv:cD (aI ks (bC k).toNat) with
   | none=>rw [hv] at h;cases h
   | some v=>
    rw [hv] at h;obtain rfl:=Option.some.inj h;obtain ⟨h1,h2⟩:=wf_iff.1 hw;refine wf_iff.2 ⟨fun e=>by omega,wfL_iff.2 fun t ht=>?_⟩;rcases List.mem_or_eq_of_mem_set ht with h3|rfl
    ·exact wfL_iff.1 h2 t h3
    ·exact ih _ (gF hj) _ (cN hw _) hv
  ·rw [cD,if_pos h0,if_neg hm,(eK ks _ (by omega)).2] at h;cases h
 ·rw [fN h0] at h;obtain rfl:=Option.some.inj h;exact aLc hw h0
theorem Hs.ins {t u:Tm}(h:Hs t u)(s:Nat→Tm):cV t=true→Hs (Go.Proofs.YtjlaenhcemacdaaGreat.ins s t) (Go.Proofs.YtjlaenhcemacdaaGreat.ins s u)∧cV u=true:=by
 induction h with
 | refl t=>exact fun hw=>⟨.refl _,hw⟩
 | step h1 _ ih=>
  intro hw;obtain ⟨h2,h3⟩:=ih (aQt _ _ hw h1);exact ⟨.step (aOi s _ _ hw h1) h2,h3⟩
theorem aEq {b:Int}(hb:0≤b):∀(t:Tm) (c:Int),0≤c→cD (bT b c t)=(cD t).map (bT b c):=by
 refine jM fun k n ks ih c hc=>?_
 by_cases h0:rdx k ks=0
 ·have h0':rdx k (bN b k c 0 ks)=0:=(aAu b c k ks).trans h0;by_cases hm:bC k<0
  ·rw [bT,cD,cD,if_pos h0,if_pos h0',if_pos hm,if_pos hm];rfl
  ·have hb2:=nG hm;have hk1:k≠1:=by rintro rfl;exact hm (by decide)
   by_cases hj:(bC k).toNat<ks.length
   ·rw [eJ hk1,iE hm h0 hj,iE hm h0' (by rw [cO];exact hj),jE hb2,ih _ (gF hj) c hc];cases cD (aI ks (bC k).toNat) with
    | none=>rfl
    | some v=>
     simp only [Option.map_some]
     rw [eJ hk1,jZ hb2,jZ hb2,kE]
   ·rw [bT,cD,cD,if_pos h0,if_pos h0',if_neg hm,if_neg hm,(eK ks _ (by omega)).2,(eK _ _ (by rw [cO];omega)).2];rfl
 ·have h0':rdx k (bN b k c 0 ks)≠0:=by rw [aAu];exact h0
  rw [fN h0,Option.map_some,aJw hb hc h0,bT,fN h0']
theorem Hs.sh {t u:Tm}(h:Hs t u){b c:Int}(hb:0≤b)(hc:0≤c):Hs (bT b c t) (bT b c u):=by
 induction h with
 | refl t=>exact .refl _
 | step h1 _ ih=>exact .step (by rw [aEq hb _ _ hc,h1];rfl) ih
inductive Ne:Tm→Prop
 | var (n:Int) (ks:List Tm):Ne (.mk 1 n ks)
 | node {k n:Int} {ks:List Tm}:¬bC k<0→(bC k).toNat<ks.length→Ne (aI ks (bC k).toNat)→Ne (.mk k n ks)
theorem Ne.kind {t:Tm}(h:Ne t):t.k=1∨t.k=5∨t.k=9∨t.k=12∨t.k=15∨t.k=16:=by
 cases h with
 | var n ks=>exact .inl rfl
 | @node k n ks hm _ _=>
  right
  show k=5∨k=9∨k=12∨k=15∨k=16
  unfold bC at hm
  by_cases a:k=5∨k=15∨k=16
  ·omega
  ·rw [if_neg a] at hm;by_cases b:k=9
   ·omega
   ·rw [if_neg b] at hm;by_cases c:k=12
    ·omega
    ·rw [if_neg c] at hm;omega
theorem Ne.rdx {k:Int}{ks:List Tm}(h:Ne (aI ks (bC k).toNat)):Go.Proofs.YtjlaenhcemacdaaGreat.rdx k ks=0:=by
 rcases h.kind with h|h|h|h|h|h
 ·apply Classical.byContradiction
  intro hr;have h':fZ ks (bC k).toNat=1:=h;rcases eX hr with ⟨_,rfl,h2⟩|⟨_,rfl,h2⟩|⟨_,rfl,h2⟩|⟨_,rfl,h2⟩|⟨_,rfl,h2⟩|⟨_,rfl,h2⟩
  ·rw [show (bC 5).toNat=0 from rfl,h2] at h';cases h'
  ·rw [show (bC 9).toNat=3 from rfl,h2] at h';cases h'
  ·rw [show (bC 9).toNat=3 from rfl,h2] at h';cases h'
  ·rw [show (bC 12).toNat=1 from rfl,h2] at h';cases h'
  ·rw [show (bC 15).toNat=0 from rfl,h2] at h';cases h'
  ·rw [show (bC 16).toNat=0 from rfl,h2] at h';cases h'
 all_goals exact rL (by rw [kZ];omega)
theorem Ne.hst {t:Tm}(h:Ne t):cD t=none:=by
 induction h with
 | var n ks=>exact aDn (by show ¬((1:Int)=5∨(1:Int)=9∨(1:Int)=12∨(1:Int)=15∨(1:Int)=16);omega)
 | @node k n ks hm hj hn ih=>rw [iE hm (Ne.rdx hn) hj,ih];rfl
theorem Ne.sh {t:Tm}(h:Ne t)(b c:Int):Ne (bT b c t):=by
 induction h with
 | var n ks=>rw [bT];exact .var _ _
 | @node k n ks hm hj hn ih=>
  have hk1:k≠1:=by rintro rfl;exact hm (by decide)
  rw [eJ hk1];exact .node hm (by rw [cO];exact hj) (by rw [jE (nG hm)];exact ih)
def NeR (t:Tm):Prop:=∃u,Hs t u∧Ne u
theorem NeR.sh {t:Tm}(h:NeR t){b:Int}(hb:0≤b):NeR (bT b 0 t):=by
 obtain ⟨u,h1,h2⟩:=h;exact ⟨_,h1.sh hb (by decide),h2.sh b 0⟩
theorem NeR.head {t t':Tm}(h:NeR t')(hs:cD t=some t'):NeR t:=by
 obtain ⟨u,h1,h2⟩:=h;exact ⟨u,.step hs h1,h2⟩
theorem aRl {k n:Int}{ks:List Tm}(hm:¬bC k<0)(hj:(bC k).toNat<ks.length){u:Tm}(h:cD (aI ks (bC k).toNat)=some u):cD (.mk k n ks)=some (.mk k n (ks.set (bC k).toNat u)):=by
 rw [iE hm (rL (kK h)) hj,h];rfl
theorem Hs.at {k n:Int}(hm:¬bC k<0){t u:Tm}(h:Hs t u):∀{ks:List Tm},(bC k).toNat<ks.length→aI ks (bC k).toNat=t→Hs (.mk k n ks) (.mk k n (ks.set (bC k).toNat u)):=by
 induction h with
 | refl t=>
  intro ks hj hk;rw [show ks.set (bC k).toNat t=ks by rw [← hk,cK hj];exact List.set_getElem_self hj];exact .refl _
 | @step t u v h1 _ ih=>
  intro ks hj hk;have h2:=ih (ks:=ks.set (bC k).toNat u) (by simpa using hj) (by rw [cK (by simpa using hj),List.getElem_set_self]);rw [List.set_set] at h2;exact .step (aRl hm hj (by rw [hk];exact h1)) h2
def lfa (A:Tm)(p:Nat→Tm):Nat→Tm
 | 0=>bT 1 0 A
 | n+1=>bT 1 0 (p n)
inductive ST:(Nat→Tm)→Tm→Tm→Prop
 | var {p:Nat→Tm} {n:Int} {ks:List Tm}:0≤n→ST p (.mk 1 n ks) (p n.toNat)
 | srt {p:Nat→Tm} {n:Int} {ks:List Tm}:ST p (.mk 2 n ks) (.mk 2 (n+1) [])
 | nat {p:Nat→Tm} {n:Int} {ks:List Tm}:ST p (.mk 6 n ks) (.mk 2 0 [])
 | zer {p:Nat→Tm} {n:Int} {ks:List Tm}:ST p (.mk 7 n ks) (.mk 6 0 [])
 | suc {p:Nat→Tm} {n:Int} {ks:List Tm}:ST p (.mk 8 n ks) (.mk 6 0 [])
 | bnd {p:Nat→Tm} {k n i j:Int} {A B a b:Tm} {ka kb:List Tm}:k=3∨k=13→ST p A a→Hs a (.mk 2 i ka)→ST (lfa A p) B b→Hs b (.mk 2 j kb)→ST p (.mk k n [A,B]) (.mk 2 (if j<i then i else j) [])
 | lam {p:Nat→Tm} {n:Int} {A b u:Tm}:ST (lfa A p) b u→ST p (.mk 4 n [A,b]) (.mk 3 0 [A,u])
 | app {p:Nat→Tm} {n m:Int} {f u r A B:Tm}:ST p f r→Hs r (.mk 3 m [A,B])→ST p (.mk 5 n [f,u]) (bX u 0 0 B)
 | elm {p:Nat→Tm} {n:Int} {P z s m:Tm}:ST p (.mk 9 n [P,z,s,m]) (dZ P m)
 | idt {p:Nat→Tm} {n i:Int} {A a x y:Tm} {ka:List Tm}:ST p A a→Hs a (.mk 2 i ka)→ST p (.mk 10 n [A,x,y]) (.mk 2 i [])
 | rfx {p:Nat→Tm} {n:Int} {b r:Tm}:ST p b r→ST p (.mk 11 n [b]) (.mk 10 0 [r,b,b])
 | mov {p:Nat→Tm} {n m:Int} {P e y r A x x':Tm}:ST p e r→Hs r (.mk 10 m [A,x,x'])→ST p (.mk 12 n [P,e,y]) (dZ P x')
 | pai {p:Nat→Tm} {n:Int} {S a b:Tm}:ST p (.mk 14 n [S,a,b]) S
 | fst {p:Nat→Tm} {n m:Int} {q r A B:Tm}:ST p q r→Hs r (.mk 13 m [A,B])→ST p (.mk 15 n [q]) A
 | snd {p:Nat→Tm} {n m:Int} {q r A B:Tm}:ST p q r→Hs r (.mk 13 m [A,B])→ST p (.mk 16 n [q]) (bX (.mk 15 0 [q]) 0 0 B)
inductive An:(Nat→Tm)→(Nat→Tm)→Tm→Tm→Prop
 | var {s p:Nat→Tm} {n:Int} {ks:List Tm}:An s p (.mk 1 n ks) (p n.toNat)
 | srt {s p:Nat→Tm} {n:Int} {ks:List Tm}:An s p (.mk 2 n ks) (.mk 2 (n+1) [])
 | nat {s p:Nat→Tm} {n:Int} {ks:List Tm}:An s p (.mk 6 n ks) (.mk 2 0 [])
 | zer {s p:Nat→Tm} {n:Int} {ks:List Tm}:An s p (.mk 7 n ks) (.mk 6 0 [])
 | suc {s p:Nat→Tm} {n:Int} {ks:List Tm}:An s p (.mk 8 n ks) (.mk 6 0 [])
 | bnd {s p:Nat→Tm} {k n i j:Int} {A B a b:Tm} {ka kb:List Tm}:k=3∨k=13→An s p A a→Hs a (.mk 2 i ka)→An (lft s) (lfa (ins s A) p) B b→Hs b (.mk 2 j kb)→An s p (.mk k n [A,B]) (.mk 2 (if j<i then i else j) [])
 | lam {s p:Nat→Tm} {n:Int} {A b u:Tm}:An (lft s) (lfa (ins s A) p) b u→An s p (.mk 4 n [A,b]) (.mk 3 0 [ins s A,u])
 | app {s p:Nat→Tm} {n m:Int} {f u r A B:Tm}:An s p f r→Hs r (.mk 3 m [A,B])→An s p (.mk 5 n [f,u]) (bX (ins s u) 0 0 B)
 | elm {s p:Nat→Tm} {n:Int} {P z q m:Tm}:An s p (.mk 9 n [P,z,q,m]) (dZ (ins s P) (ins s m))
 | idt {s p:Nat→Tm} {n i:Int} {A a x y:Tm} {ka:List Tm}:An s p A a→Hs a (.mk 2 i ka)→An s p (.mk 10 n [A,x,y]) (.mk 2 i [])
 | rfx {s p:Nat→Tm} {n:Int} {b r:Tm}:An s p b r→An s p (.mk 11 n [b]) (.mk 10 0 [r,ins s b,ins s b])
 | mov {s p:Nat→Tm} {n m:Int} {P e y r A x x':Tm}:An s p e r→Hs r (.mk 10 m [A,x,x'])→An s p (.mk 12 n [P,e,y]) (dZ (ins s P) x')
 | pai {s p:Nat→Tm} {n:Int} {S a b:Tm}:An s p (.mk 14 n [S,a,b]) (ins s S)
 | fst {s p:Nat→Tm} {n m:Int} {q r A B:Tm}:An s p q r→Hs r (.mk 13 m [A,B])→An s p (.mk 15 n [q]) A
 | snd {s p:Nat→Tm} {n m:Int} {q r A B:Tm}:An s p q r→Hs r (.mk 13 m [A,B])→An s p (.mk 16 n [q]) (bX (.mk 15 0 [ins s q]) 0 0 B)
theorem nh (k n:Int)(ks:List Tm)(h:k=2∨k=3∨k=6∨k=10∨k=13):cD (.mk k n ks)=none:=aDn (by show ¬(k=5∨k=9∨k=12∨k=15∨k=16);omega)
theorem Hs.one_of {r:Tm}{k n k' n':Int}{ks ks':List Tm}(h:Hs r (.mk k n ks))(h':Hs r (.mk k' n' ks'))(hk:k=2∨k=3∨k=6∨k=10∨k=13)(hk':k'=2∨k'=3∨k'=6∨k'=10∨k'=13):Tm.mk k n ks = .mk k' n' ks':=h.det (nh _ _ _ hk) h' (nh _ _ _ hk')
theorem sE {b k c:Int}{ks:List Tm}{x y:Tm}(h:bN b k c 0 ks=[x,y]):∃x0 y0,ks=[x0,y0]∧x=bT b c x0∧y=bT b (c+aM k 1) y0:=by
 have hl:=cO b k c ks 0;rw [h] at hl;obtain ⟨x0,y0,rfl⟩:=jY hl.symm;simp only [bN] at h
 injection h with h1 h2;injection h2 with h2 _;refine ⟨x0,y0,rfl,?_,h2.symm⟩;rw [← h1];congr 1;unfold aM;rw [if_neg (by rintro ⟨h,-⟩;cases h)];omega
theorem aEg {b k c:Int}{ks:List Tm}{x:Tm}(h:bN b k c 0 ks=[x]):∃x0,ks=[x0]∧x=bT b c x0:=by
 have hl:=cO b k c ks 0;rw [h] at hl;obtain ⟨x0,rfl⟩:=lH hl.symm;simp only [bN] at h
 injection h with h1 _;refine ⟨x0,rfl,?_⟩;rw [← h1];congr 1;unfold aM;rw [if_neg (by rintro ⟨h,-⟩;cases h)];omega
theorem wD {b k c:Int}(hb:binds k=false){ks l:List Tm}(h:bN b k c 0 ks=l):l=ks.map (bT b c):=by rw [← h,jZ hb]
theorem mL {b c:Int}(hb:0≤b)(hc:0≤c){r u:Tm}(h:Hs (bT b c r) u):∃r',Hs r r'∧u=bT b c r':=by
 generalize hr:bT b c r=r1 at h
 induction h generalizing r with
 | refl t=>exact ⟨r,.refl _,hr.symm⟩
 | step h1 _ ih=>
  subst hr;rw [aEq hb _ _ hc] at h1;cases hv:cD r with
  | none=>rw [hv] at h1;cases h1
  | some v=>
   rw [hv] at h1;obtain ⟨r',h3,h4⟩:=ih (Option.some.inj h1);exact ⟨r',.step hv h3,h4⟩
theorem gH {b c k n:Int}{ks:List Tm}{t:Tm}(h:bT b c t = .mk k n ks):∃n0 ks0,t = .mk k n0 ks0∧bN b k c 0 ks0=ks∧(k≠1→n0=n):=by
 obtain ⟨k0,n0,ks0⟩:=t;rw [bT] at h;injection h with h1 h2 h3;subst h1;exact ⟨n0,ks0,rfl,h3,fun e=>by rw [if_neg (fun h=>e h.1)] at h2;exact h2⟩
theorem aJp {b:Int}(hb:0≤b){c:Nat}{p p':Nat→Tm}(A:Tm)(h:∀n:Nat,p' (if c≤n then n+b.toNat else n)=bT b (c:Int) (p n)):∀n:Nat,lfa (bT b (c:Int) A) p' (if c+1≤n then n+b.toNat else n)=bT b ((c+1:Nat):Int) (lfa A p n):=by
 intro n;have hx:=fun t=>(aFk 1 b (by decide) hb).1 t 0 (c:Int) (by omega)
 cases n with
 | zero=>rw [if_neg (by omega),lfa,lfa];exact (hx A).symm
 | succ n=>
  rw [lfa];have h1:=h n;by_cases hn:c≤n
  ·rw [if_pos (by omega),show n+1+b.toNat=(n+b.toNat)+1 by omega,lfa];rw [if_pos hn] at h1;rw [h1];exact (hx _).symm
  ·rw [if_neg (by omega),lfa];rw [if_neg hn] at h1;rw [h1];exact (hx _).symm
theorem ST.unsh {p':Nat→Tm}{t' s':Tm}(h:ST p' t' s'):∀{b:Int} {c:Nat} {t:Tm} {p:Nat→Tm},0≤b→bT b (c:Int) t=t'→(∀n:Nat,p' (if c≤n then n+b.toNat else n)=bT b (c:Int) (p n))→∃s,s'=bT b (c:Int) s∧ST p t s:=by
 induction h with
 | @var p' n ks h0=>
  intro b c t p hb he hp;obtain ⟨k0,n0,ks0⟩:=t;rw [bT] at he;injection he with h1 h2 h3;subst h1;by_cases hn:(c:Int)≤n0
  ·rw [if_pos ⟨rfl,hn⟩] at h2;have:=hp n0.toNat
   rw [if_pos (by omega),show n0.toNat+b.toNat=n.toNat by omega] at this;exact ⟨_,this,.var (by omega)⟩
  ·rw [if_neg (fun h=>hn h.2)] at h2;subst h2;have:=hp n0.toNat
   rw [if_neg (by omega)] at this;exact ⟨_,this,.var h0⟩
 | @srt p' n ks=>
  intro b c t p hb he hp;obtain ⟨n0,ks0,rfl,_,hn⟩:=gH he;rw [hn (by decide)];exact ⟨.mk 2 (n+1) [],by rw [eJ (by decide),bN],.srt⟩
 | @nat p' n ks=>
  intro b c t p hb he hp;obtain ⟨n0,ks0,rfl,_,hn⟩:=gH he;exact ⟨.mk 2 0 [],by rw [eJ (by decide),bN],.nat⟩
 | @zer p' n ks=>
  intro b c t p hb he hp;obtain ⟨n0,ks0,rfl,_,hn⟩:=gH he;exact ⟨.mk 6 0 [],by rw [eJ (by decide),bN],.zer⟩
 | @suc p' n ks=>
  intro b c t p hb he hp;obtain ⟨n0,ks0,rfl,_,hn⟩:=gH he;exact ⟨.mk 6 0 [],by rw [eJ (by decide),bN],.suc⟩
 | @bnd p' k n i j A B a bb ka kb hk h1 hs1 h2 hs2 i1 i2=>
  intro b c t p hb he hp;obtain ⟨n0,ks0,rfl,hl,hn⟩:=gH he;obtain ⟨A0,B0,rfl,rfl,rfl⟩:=sE hl;obtain ⟨a0,rfl,h3⟩:=i1 hb rfl hp;have hu:aM k 1=1:=by rcases hk with rfl|rfl<;>rfl
  rw [hu] at i2;obtain ⟨b0,rfl,h4⟩:=i2 (c:=c+1) (t:=B0) hb (by simp) (aJp hb A0 hp);obtain ⟨r1,h5,h6⟩:=mL hb (by omega) hs1;obtain ⟨r2,h7,h8⟩:=mL hb (by omega) hs2;obtain ⟨i0,l0,rfl,_,h9⟩:=gH h6.symm;obtain ⟨j0,l1,rfl,_,h10⟩:=gH h8.symm;rw [h9 (by decide)] at h5;rw [h10 (by decide)] at h7;exact ⟨.mk 2 (if j<i then i else j) [],by rw [eJ (by decide),bN],.bnd hk h3 h5 h4 h7⟩
 | @lam p' n A bb u h1 i1=>
  intro b c t p hb he hp;obtain ⟨n0,ks0,rfl,hl,hn⟩:=gH he;obtain ⟨A0,B0,rfl,rfl,rfl⟩:=sE hl;obtain ⟨u0,rfl,h4⟩:=i1 (c:=c+1) (t:=B0) hb (by rw [show aM 4 1=1 from rfl];simp) (aJp hb A0 hp);exact ⟨.mk 3 0 [A0,u0],by rw [eJ (by decide)];simp only [bN];simp [aM,binds],.lam h4⟩
 | @app p' n m f u r A B h1 hs1 i1=>
  intro b c t p hb he hp;obtain ⟨n0,ks0,rfl,hl,hn⟩:=gH he;obtain ⟨f0,u0,rfl,rfl,rfl⟩:=sE hl;obtain ⟨r0,rfl,h3⟩:=i1 hb rfl hp;obtain ⟨r1,h5,h6⟩:=mL hb (by omega) hs1;obtain ⟨m0,l0,rfl,h7,h8⟩:=gH h6.symm;obtain ⟨A0,B0,rfl,rfl,rfl⟩:=sE h7;refine ⟨bX u0 0 0 B0,?_,.app h3 h5⟩;have:=(aDj u0 b (c:Int) hb (by omega)).1 B0 0 (by decide);rw [Int.add_zero,Int.add_zero] at this;rw [this,show aM 5 1=0 from rfl,show aM 3 1=1 from rfl,Int.add_zero]
 | @elm p' n P z q m=>
  intro b c t p hb he hp;obtain ⟨n0,ks0,rfl,hl,hn⟩:=gH he;have hl2:=wD (by rfl) hl;have hlen:ks0.length=4:=by have:=congrArg List.length hl2;simpa using this.symm
  obtain ⟨P0,z0,q0,m0,rfl⟩:=uT hlen;simp only [List.map_cons,List.map_nil] at hl2
  injection hl2 with e1 e2;injection e2 with e2 e3;injection e3 with e3 e4;injection e4 with e4 _;subst e1 e2 e3 e4;exact ⟨dZ P0 m0,by rw [dZ,dZ,eJ (by decide),jZ rfl];rfl,.elm⟩
 | @idt p' n i A a x y ka h1 hs1 i1=>
  intro b c t p hb he hp;obtain ⟨n0,ks0,rfl,hl,hn⟩:=gH he;have hl2:=wD (by rfl) hl;have hlen:ks0.length=3:=by have:=congrArg List.length hl2;simpa using this.symm
  obtain ⟨A0,x0,y0,rfl⟩:=gG hlen;simp only [List.map_cons,List.map_nil] at hl2
  injection hl2 with e1 e2;injection e2 with e2 e3;injection e3 with e3 _;subst e1 e2 e3;obtain ⟨a0,rfl,h3⟩:=i1 hb rfl hp;obtain ⟨r1,h5,h6⟩:=mL hb (by omega) hs1;obtain ⟨m0,l0,rfl,h7,h8⟩:=gH h6.symm;rw [h8 (by decide)] at h5;exact ⟨.mk 2 i [],by rw [eJ (by decide),bN],.idt h3 h5⟩
 | @rfx p' n bb r h1 i1=>
  intro b c t p hb he hp;obtain ⟨n0,ks0,rfl,hl,hn⟩:=gH he;obtain ⟨x0,rfl,rfl⟩:=aEg hl;obtain ⟨r0,rfl,h3⟩:=i1 hb (by rfl) hp;exact ⟨.mk 10 0 [r0,x0,x0],by rw [eJ (by decide),jZ (by rfl)];simp,.rfx h3⟩
 | @mov p' n m P e y r A x x' h1 hs1 i1=>
  intro b c t p hb he hp;obtain ⟨n0,ks0,rfl,hl,hn⟩:=gH he;have hl2:=wD (by rfl) hl;have hlen:ks0.length=3:=by have:=congrArg List.length hl2;simpa using this.symm
  obtain ⟨P0,e0,y0,rfl⟩:=gG hlen;simp only [List.map_cons,List.map_nil] at hl2
  injection hl2 with e1 e2;injection e2 with e2 e3;injection e3 with e3 _;subst e1 e2 e3;obtain ⟨r0,rfl,h3⟩:=i1 hb (by rfl) hp;obtain ⟨r1,h5,h6⟩:=mL hb (by omega) hs1;obtain ⟨m0,l0,rfl,h7,h8⟩:=gH h6.symm;have h72:=wD (by rfl) h7;have hlen:l0.length=3:=by have:=congrArg List.length h72;simpa using this.symm
  obtain ⟨A0,x0,w0,rfl⟩:=gG hlen;simp only [List.map_cons,List.map_nil] at h72
  injection h72 with e1 e2;injection e2 with e2 e3;injection e3 with e3 _;subst e1 e2 e3;exact ⟨dZ P0 w0,by rw [dZ,dZ,eJ (by decide),jZ (by rfl)];rfl,.mov h3 h5⟩
 | @pai p' n S a bb=>
  intro b c t p hb he hp;obtain ⟨n0,ks0,rfl,hl,hn⟩:=gH he;have hl2:=wD (by rfl) hl;have hlen:ks0.length=3:=by have:=congrArg List.length hl2;simpa using this.symm
  obtain ⟨A0,x0,y0,rfl⟩:=gG hlen;simp only [List.map_cons,List.map_nil] at hl2
  injection hl2 with e1 e2;subst e1;exact ⟨A0,by rfl,.pai⟩
 | @fst p' n m q r A B h1 hs1 i1=>
  intro b c t p hb he hp;obtain ⟨n0,ks0,rfl,hl,hn⟩:=gH he;obtain ⟨x0,rfl,rfl⟩:=aEg hl;obtain ⟨r0,rfl,h3⟩:=i1 hb (by rfl) hp;obtain ⟨r1,h5,h6⟩:=mL hb (by omega) hs1;obtain ⟨m0,l0,rfl,h7,h8⟩:=gH h6.symm;obtain ⟨A0,B0,rfl,rfl,rfl⟩:=sE h7;exact ⟨A0,by rfl,.fst h3 h5⟩
 | @snd p' n m q r A B h1 hs1 i1=>
  intro b c t p hb he hp;obtain ⟨n0,ks0,rfl,hl,hn⟩:=gH he;obtain ⟨x0,rfl,rfl⟩:=aEg hl;obtain ⟨r0,rfl,h3⟩:=i1 hb (by rfl) hp;obtain ⟨r1,h5,h6⟩:=mL hb (by omega) hs1;obtain ⟨m0,l0,rfl,h7,h8⟩:=gH h6.symm;obtain ⟨A0,B0,rfl,rfl,rfl⟩:=sE h7;refine ⟨bX (.mk 15 0 [x0]) 0 0 B0,?_,.snd h3 h5⟩;have:=(aDj (.mk 15 0 [x0]) b (c:Int) hb (by omega)).1 B0 0 (by decide);rw [Int.add_zero,Int.add_zero,eJ (by decide),jZ (by rfl)] at this;rw [this];rfl
theorem aHh (C:Option Addr)(m cc:Nat)(n:Int)(A:Option Addr)(la c fc:Nat)(ev:Array Value)(kr nr:Int)(sr:List Tm)(w:World)(hvr:aE (.mk kr nr sr)=true)(hc:Hid (∀w',Bw w w'→Calls prog 139 #[.agg #[.slice C m cc,.int .i64 3,.int .i64 n,.slice A la c,.func (.func fc) #[] ev]] w' (iO w' kr nr sr))) :
  Calls prog 118 #[.agg #[.slice C m cc,.int .i64 3,.int .i64 n,.slice A la c,.func (.func fc) #[] ev]] w (iO w kr nr sr):=by
 replace hvr:=aD hvr;go_enter func118,ntmps118;go_wp2_with (go_at_call 139;refine (hc.out _ bw3).mono ?_;rintro e w1 ⟨A1,c1,rfl,hl1,r1,hb1⟩;have hZ1:Blk w1 (w.heap.size+1) Zr:=((aC (n:=w.heap.size+1) (w.alloc (.cells #[.slice C m cc,.int .i64 3,.int .i64 n,.slice A la c,.func (.func fc) #[] ev] 105)) 32 Zr (by simp)).alloc (.cells (Ro 3 n A la c) 32)).keep hb1;have g1:Bw w w1:=bU bw3 hb1;obtain ⟨d0,d1,d2,e0,e1,e2⟩:=bW hZ1)
 refine bodyPost_ret (v:=.tuple #[.agg (Ro kr nr A1 sr.length c1),.int .i64 0]) (by simp [results,results118,go_sem,d0,d1,d2]) rfl ⟨A1,c1,rfl,hl1,bQ hZ1 hvr.out r1 _ _ _,?_⟩;exact bP g1
theorem aHx (C:Option Addr)(m cc:Nat)(n:Int)(A:Option Addr)(la c fc:Nat)(ev:Array Value)(kr nr:Int)(sr:List Tm)(w:World)(hvr:aE (.mk kr nr sr)=true)(hc:Hid (∀w',Bw w w'→Calls prog 140 #[.agg #[.slice C m cc,.int .i64 4,.int .i64 n,.slice A la c,.func (.func fc) #[] ev]] w' (iO w' kr nr sr))) :
  Calls prog 118 #[.agg #[.slice C m cc,.int .i64 4,.int .i64 n,.slice A la c,.func (.func fc) #[] ev]] w (iO w kr nr sr):=by
 replace hvr:=aD hvr;go_enter func118,ntmps118;go_wp2_with (go_at_call 140;refine (hc.out _ bw3).mono ?_;rintro e w1 ⟨A1,c1,rfl,hl1,r1,hb1⟩;have hZ1:Blk w1 (w.heap.size+1) Zr:=((aC (n:=w.heap.size+1) (w.alloc (.cells #[.slice C m cc,.int .i64 4,.int .i64 n,.slice A la c,.func (.func fc) #[] ev] 105)) 32 Zr (by simp)).alloc (.cells (Ro 4 n A la c) 32)).keep hb1;have g1:Bw w w1:=bU bw3 hb1;obtain ⟨d0,d1,d2,e0,e1,e2⟩:=bW hZ1)
 refine bodyPost_ret (v:=.tuple #[.agg (Ro kr nr A1 sr.length c1),.int .i64 0]) (by simp [results,results118,go_sem,d0,d1,d2]) rfl ⟨A1,c1,rfl,hl1,bQ hZ1 hvr.out r1 _ _ _,?_⟩;exact bP g1
theorem aJc (C:Option Addr)(m cc:Nat)(n:Int)(A:Option Addr)(la c fc:Nat)(ev:Array Value)(kr nr:Int)(sr:List Tm)(w:World)(hvr:aE (.mk kr nr sr)=true)(hc:Hid (∀w',Bw w w'→Calls prog 144 #[.agg #[.slice C m cc,.int .i64 9,.int .i64 n,.slice A la c,.func (.func fc) #[] ev]] w' (iO w' kr nr sr))) :
  Calls prog 118 #[.agg #[.slice C m cc,.int .i64 9,.int .i64 n,.slice A la c,.func (.func fc) #[] ev]] w (iO w kr nr sr):=by
 replace hvr:=aD hvr;go_enter func118,ntmps118;go_wp2_with (go_at_call 144;refine (hc.out _ bw3).mono ?_;rintro e w1 ⟨A1,c1,rfl,hl1,r1,hb1⟩;have hZ1:Blk w1 (w.heap.size+1) Zr:=((aC (n:=w.heap.size+1) (w.alloc (.cells #[.slice C m cc,.int .i64 9,.int .i64 n,.slice A la c,.func (.func fc) #[] ev] 105)) 32 Zr (by simp)).alloc (.cells (Ro 9 n A la c) 32)).keep hb1;have g1:Bw w w1:=bU bw3 hb1;obtain ⟨d0,d1,d2,e0,e1,e2⟩:=bW hZ1)
 refine bodyPost_ret (v:=.tuple #[.agg (Ro kr nr A1 sr.length c1),.int .i64 0]) (by simp [results,results118,go_sem,d0,d1,d2]) rfl ⟨A1,c1,rfl,hl1,bQ hZ1 hvr.out r1 _ _ _,?_⟩;exact bP g1
theorem aEk (C:Option Addr)(m cc:Nat)(n:Int)(A:Option Addr)(la c fc:Nat)(ev:Array Value)(kr nr:Int)(sr:List Tm)(w:World)(hvr:aE (.mk kr nr sr)=true)(hc:Hid (∀w',Bw w w'→Calls prog 145 #[.agg #[.slice C m cc,.int .i64 10,.int .i64 n,.slice A la c,.func (.func fc) #[] ev]] w' (iO w' kr nr sr))) :
  Calls prog 118 #[.agg #[.slice C m cc,.int .i64 10,.int .i64 n,.slice A la c,.func (.func fc) #[] ev]] w (iO w kr nr sr):=by
 replace hvr:=aD hvr;go_enter func118,ntmps118;go_wp2_with (go_at_call 145;refine (hc.out _ bw3).mono ?_;rintro e w1 ⟨A1,c1,rfl,hl1,r1,hb1⟩;have hZ1:Blk w1 (w.heap.size+1) Zr:=((aC (n:=w.heap.size+1) (w.alloc (.cells #[.slice C m cc,.int .i64 10,.int .i64 n,.slice A la c,.func (.func fc) #[] ev] 105)) 32 Zr (by simp)).alloc (.cells (Ro 10 n A la c) 32)).keep hb1;have g1:Bw w w1:=bU bw3 hb1;obtain ⟨d0,d1,d2,e0,e1,e2⟩:=bW hZ1)
 refine bodyPost_ret (v:=.tuple #[.agg (Ro kr nr A1 sr.length c1),.int .i64 0]) (by simp [results,results118,go_sem,d0,d1,d2]) rfl ⟨A1,c1,rfl,hl1,bQ hZ1 hvr.out r1 _ _ _,?_⟩;exact bP g1
theorem aDx (C:Option Addr)(m cc:Nat)(n:Int)(A:Option Addr)(la c fc:Nat)(ev:Array Value)(kr nr:Int)(sr:List Tm)(w:World)(hvr:aE (.mk kr nr sr)=true)(hc:Hid (∀w',Bw w w'→Calls prog 146 #[.agg #[.slice C m cc,.int .i64 12,.int .i64 n,.slice A la c,.func (.func fc) #[] ev]] w' (iO w' kr nr sr))) :
  Calls prog 118 #[.agg #[.slice C m cc,.int .i64 12,.int .i64 n,.slice A la c,.func (.func fc) #[] ev]] w (iO w kr nr sr):=by
 replace hvr:=aD hvr;go_enter func118,ntmps118;go_wp2_with (go_at_call 146;refine (hc.out _ bw3).mono ?_;rintro e w1 ⟨A1,c1,rfl,hl1,r1,hb1⟩;have hZ1:Blk w1 (w.heap.size+1) Zr:=((aC (n:=w.heap.size+1) (w.alloc (.cells #[.slice C m cc,.int .i64 12,.int .i64 n,.slice A la c,.func (.func fc) #[] ev] 105)) 32 Zr (by simp)).alloc (.cells (Ro 12 n A la c) 32)).keep hb1;have g1:Bw w w1:=bU bw3 hb1;obtain ⟨d0,d1,d2,e0,e1,e2⟩:=bW hZ1)
 refine bodyPost_ret (v:=.tuple #[.agg (Ro kr nr A1 sr.length c1),.int .i64 0]) (by simp [results,results118,go_sem,d0,d1,d2]) rfl ⟨A1,c1,rfl,hl1,bQ hZ1 hvr.out r1 _ _ _,?_⟩;exact bP g1
theorem aIw (C:Option Addr)(m cc:Nat)(n:Int)(A:Option Addr)(la c fc:Nat)(ev:Array Value)(w:World)(hn:n≠3)(h0:0≤n∧n≤3) :
  Calls prog 118 #[.agg #[.slice C m cc,.int .i64 2,.int .i64 n,.slice A la c,.func (.func fc) #[] ev]] w (iO w 2 (n+1) []):=by
 have hq:(n==3)=false:=by simpa using hn
 clear hn;go_enter func118,ntmps118;go_wp2_with (go_at_call 137;refine (pD _ _).mono ?_;rintro e w1 ⟨rfl,hb1⟩;have hZ1:Blk w1 (w.heap.size+1) Zr:=((aC (n:=w.heap.size+1) (w.alloc (.cells #[.slice C m cc,.int .i64 2,.int .i64 n,.slice A la c,.func (.func fc) #[] ev] 105)) 32 Zr (by simp)).alloc (.cells (Ro 2 n A la c) 32)).keep hb1;have g1:Bw w w1:=bU bw3 hb1;obtain ⟨d0,d1,d2,e0,e1,e2⟩:=bW hZ1)
 refine bodyPost_ret (v:=.tuple #[.agg (Ro 2 ((n+1)) none 0 0),.int .i64 0]) (by simp [results,results118,go_sem,d0,d1,d2]) rfl ⟨none,0,rfl,by simp,Rd.nil,?_⟩;exact bP g1
theorem aHk (C:Option Addr)(m cc:Nat)(n:Int)(A:Option Addr)(la c fc:Nat)(ev:Array Value)(w:World) :
  Calls prog 118 #[.agg #[.slice C m cc,.int .i64 6,.int .i64 n,.slice A la c,.func (.func fc) #[] ev]] w (iO w 2 0 []):=by
 go_enter func118,ntmps118;go_wp2_with (go_at_call 137;refine (pD _ _).mono ?_;rintro e w1 ⟨rfl,hb1⟩;have hZ1:Blk w1 (w.heap.size+1) Zr:=((aC (n:=w.heap.size+1) (w.alloc (.cells #[.slice C m cc,.int .i64 6,.int .i64 n,.slice A la c,.func (.func fc) #[] ev] 105)) 32 Zr (by simp)).alloc (.cells (Ro 6 n A la c) 32)).keep hb1;have g1:Bw w w1:=bU bw3 hb1;obtain ⟨d0,d1,d2,e0,e1,e2⟩:=bW hZ1)
 refine bodyPost_ret (v:=.tuple #[.agg (Ro 2 (0) none 0 0),.int .i64 0]) (by simp [results,results118,go_sem,d0,d1,d2]) rfl ⟨none,0,rfl,by simp,Rd.nil,?_⟩;exact bP g1
theorem aIo (C:Option Addr)(m cc:Nat)(n:Int)(A:Option Addr)(la c fc:Nat)(ev:Array Value)(w:World) :
  Calls prog 118 #[.agg #[.slice C m cc,.int .i64 7,.int .i64 n,.slice A la c,.func (.func fc) #[] ev]] w (iO w 6 0 []):=by
 go_enter func118,ntmps118;go_wp2_with (go_at_call 71;refine (aP 6 _ ⟨_,_,_,rfl⟩ _).mono ?_;rintro e w1 ⟨rfl,hb1⟩;have hZ1:Blk w1 (w.heap.size+1) Zr:=((aC (n:=w.heap.size+1) (w.alloc (.cells #[.slice C m cc,.int .i64 7,.int .i64 n,.slice A la c,.func (.func fc) #[] ev] 105)) 32 Zr (by simp)).alloc (.cells (Ro 7 n A la c) 32)).keep hb1;have g1:Bw w w1:=bU bw3 hb1;obtain ⟨d0,d1,d2,e0,e1,e2⟩:=bW hZ1)
 refine bodyPost_ret (v:=.tuple #[.agg (Ro 6 (0) none 0 0),.int .i64 0]) (by simp [results,results118,go_sem,d0,d1,d2]) rfl ⟨none,0,rfl,by simp,Rd.nil,?_⟩;exact bP g1
theorem aHw (C:Option Addr)(m cc:Nat)(n:Int)(A:Option Addr)(la c fc:Nat)(ev:Array Value)(ty:Nat→Option Tm)(w:World)(hs:aDi (ty 0) aSy=true)(hT:TyOk fc ev w ty) :
  Calls prog 118 #[.agg #[.slice C m cc,.int .i64 8,.int .i64 n,.slice A la c,.func (.func fc) #[] ev]] w (iO w 6 0 []):=by
 have hs':=aD (show aDi (ty 0) (.mk 6 0 [])=true from hs);clear hs;go_enter func118,ntmps118;go_upto_region 16 with fail
 refine sT (show Blk _ w.heap.size #[.slice C m cc,.int .i64 8,.int .i64 n,.slice A la c,.func (.func fc) #[] ev] from (((aC _ 105 _ rfl).alloc _).alloc _)) (show Blk _ (w.heap.size+1) Zr from ((aC _ 32 _ (by simp)).alloc _)) bw3 ?_;intro wx hJx hZx gx;have u0:=aF (hJx.at_ (i:=0) rfl);have u1:=aF (hJx.at_ (i:=1) rfl);have u2:=aF (hJx.at_ (i:=2) rfl);have u3:=aF (hJx.at_ (i:=3) rfl);have u4:=aF (hJx.at_ (i:=4) rfl);refine eT wx [3] [0] 4 3 (lT:=[_]) ?_;intro q0 bq0;refine bZ (aD ?_);refine bB 1 ?_
 ·go_wp2_with (go_at_call 71;refine (aP 6 _ ⟨_,_,_,rfl⟩ _).mono ?_;rintro e q1 ⟨rfl,hbq1⟩)
  refine aX bq0 hbq1 ?_;intro bq1 lq1;refine bB 2 ?_
  ·go_wp2_with (go_at_call 138;refine (qI C m cc 8 n A la c fc ev 0 (by omega) 6 0 [] none 0 ty _ hs'.out ((hT.below gx).below bq1) Rd.nil).mono ?_;rintro e q2 ⟨rfl,hbq2⟩)
   refine aX bq1 hbq2 ?_;intro bq2 lq2;refine cP [3] (lB:=[_]) ?_;have hZ3:=hZx.keep bq2;have g3:=gx.trans (bq2.mono gx.size);go_wp2_with (go_at_call 71;refine (aP 6 _ ⟨_,_,_,rfl⟩ _).mono ?_;rintro e w4 ⟨rfl,hb4⟩;have hZ4:=hZ3.keep hb4;have g4:=g3.trans (hb4.mono g3.size);obtain ⟨d0,d1,d2,e0,e1,e2⟩:=bW hZ4)
   refine bodyPost_ret (v:=.tuple #[.agg (Ro 6 0 none 0 0),.int .i64 0]) (by simp [results,results118,go_sem,d0,d1,d2]) rfl ⟨none,0,rfl,by simp,Rd.nil,?_⟩;exact bP g4
theorem aBf (C:Option Addr)(m cc:Nat)(n:Int)(A:Option Addr)(la c fc:Nat)(ev:Array Value)(n3 kd nd:Int)(sd:List Tm)(ke ne:Int)(se:List Tm)(ty:Nat→Option Tm)(w:World)(h1:fmS (ty 0) 13=some (.mk 13 n3 [.mk kd nd sd,.mk ke ne se]))(hT:TyOk fc ev w ty) :
  Calls prog 148 #[.agg #[.slice C m cc,.int .i64 15,.int .i64 n,.slice A la c,.func (.func fc) #[] ev]] w (iO w kd nd sd):=by
 obtain ⟨_,_,he,hv3⟩:=nE h1;injection he with e1 e2 e3;subst e2 e3;have hvd:=aD (aO hv3 (t:=.mk kd nd sd) (by simp));replace h1:=aD h1;clear hv3;go_enter func148,ntmps148;go_upto_region 2 with (go_at_call 141;refine (hE C m cc 15 n _ la c fc ev 0 (by omega) 13 n3 [.mk kd nd sd,.mk ke ne se] ty _ h1.out (hT.below bw2)).mono ?_;rintro e w1 ⟨A3,c3,rfl,hl3,r3,hb1⟩;have hZ1:Blk w1 (w.heap.size+1) Zr:=(aC _ 32 _ (by simp)).keep hb1;have hJ1:=((aC w 105 #[.slice C m cc,.int .i64 15,.int .i64 n,.slice A la c,.func (.func fc) #[] ev] rfl).alloc (.cells Zr 32)).keep hb1;have g1:Bw w w1:=bU bw2 hb1)
 refine aW ?_;intro wx hwx;have hJx:=(show Blk wx w.heap.size _ by rw [hwx];exact hJ1.alloc _);have hZx:=(show Blk wx (w.heap.size+1) _ by rw [hwx];exact hZ1.alloc _);have h6x0:Blk wx w1.heap.size (Ro 13 n3 A3 2 c3):=by rw [hwx];exact aC _ 32 _ rfl
 have gx:Bw w wx:=by rw [hwx];exact g1.alloc g1.size _
 have r3x:Rd wx A3 0 [.mk kd nd sd,.mk ke ne se]:=by rw [hwx];exact r3.alloc _
 clear hwx;obtain ⟨be,oe,x1,x2,x3,Ad,cd,rfl,hk2,c1,c2,c3',hld,rd0⟩:=r3x.at_ (j:=0) (by simp);injection hk2 with e1 e2 e3;subst e1 e2 e3;simp only [Nat.zero_mul,Nat.add_zero] at c1 c2 c3'
 have h6x:=h6x0;have u1:=hJx.at_ (i:=1) rfl;have v2:=h6x.three.2.2;obtain ⟨d0,d1,d2,e0,e1,e2⟩:=bW hZx;go_wp2_with fail
 refine bodyPost_ret (v:=.tuple #[.agg (Ro kd nd Ad sd.length cd),.int .i64 0]) (by simp [results,results148,go_sem,d0,d1,d2]) rfl ⟨Ad,cd,rfl,hld,bQ hZx hvd.out rd0 _ _ _,?_⟩;exact ((gx.setCell (by simp) _).setCell (by simp) _).setCell (by simp) _
theorem aEn (C:Option Addr)(m cc:Nat)(n:Int)(A:Option Addr)(la c fc:Nat)(ev:Array Value)(kr nr:Int)(sr:List Tm)(w:World)(hvr:aE (.mk kr nr sr)=true)(hc:Hid (∀w',Bw w w'→Calls prog 139 #[.agg #[.slice C m cc,.int .i64 13,.int .i64 n,.slice A la c,.func (.func fc) #[] ev]] w' (iO w' kr nr sr))) :
  Calls prog 118 #[.agg #[.slice C m cc,.int .i64 13,.int .i64 n,.slice A la c,.func (.func fc) #[] ev]] w (iO w kr nr sr):=by
 replace hvr:=aD hvr;go_enter func118,ntmps118;go_wp2_with (go_at_call 139;refine (hc.out _ bw3).mono ?_;rintro e w1 ⟨A1,c1,rfl,hl1,r1,hb1⟩;have hZ1:Blk w1 (w.heap.size+1) Zr:=((aC (n:=w.heap.size+1) (w.alloc (.cells #[.slice C m cc,.int .i64 13,.int .i64 n,.slice A la c,.func (.func fc) #[] ev] 105)) 32 Zr (by simp)).alloc (.cells (Ro 13 n A la c) 32)).keep hb1;have g1:Bw w w1:=bU bw3 hb1;obtain ⟨d0,d1,d2,e0,e1,e2⟩:=bW hZ1)
 refine bodyPost_ret (v:=.tuple #[.agg (Ro kr nr A1 sr.length c1),.int .i64 0]) (by simp [results,results118,go_sem,d0,d1,d2]) rfl ⟨A1,c1,rfl,hl1,bQ hZ1 hvr.out r1 _ _ _,?_⟩;exact bP g1
theorem aFb (C:Option Addr)(m cc:Nat)(n:Int)(A:Option Addr)(la c fc:Nat)(ev:Array Value)(kr nr:Int)(sr:List Tm)(w:World)(hvr:aE (.mk kr nr sr)=true)(hc:Hid (∀w',Bw w w'→Calls prog 147 #[.agg #[.slice C m cc,.int .i64 14,.int .i64 n,.slice A la c,.func (.func fc) #[] ev]] w' (iO w' kr nr sr))) :
  Calls prog 118 #[.agg #[.slice C m cc,.int .i64 14,.int .i64 n,.slice A la c,.func (.func fc) #[] ev]] w (iO w kr nr sr):=by
 replace hvr:=aD hvr;go_enter func118,ntmps118;go_wp2_with (go_at_call 147;refine (hc.out _ bw3).mono ?_;rintro e w1 ⟨A1,c1,rfl,hl1,r1,hb1⟩;have hZ1:Blk w1 (w.heap.size+1) Zr:=((aC (n:=w.heap.size+1) (w.alloc (.cells #[.slice C m cc,.int .i64 14,.int .i64 n,.slice A la c,.func (.func fc) #[] ev] 105)) 32 Zr (by simp)).alloc (.cells (Ro 14 n A la c) 32)).keep hb1;have g1:Bw w w1:=bU bw3 hb1;obtain ⟨d0,d1,d2,e0,e1,e2⟩:=bW hZ1)
 refine bodyPost_ret (v:=.tuple #[.agg (Ro kr nr A1 sr.length c1),.int .i64 0]) (by simp [results,results118,go_sem,d0,d1,d2]) rfl ⟨A1,c1,rfl,hl1,bQ hZ1 hvr.out r1 _ _ _,?_⟩;exact bP g1
theorem aDz (C:Option Addr)(m cc:Nat)(n:Int)(A:Option Addr)(la c fc:Nat)(ev:Array Value)(kr nr:Int)(sr:List Tm)(w:World)(hvr:aE (.mk kr nr sr)=true)(hc:Hid (∀w',Bw w w'→Calls prog 148 #[.agg #[.slice C m cc,.int .i64 15,.int .i64 n,.slice A la c,.func (.func fc) #[] ev]] w' (iO w' kr nr sr))) :
  Calls prog 118 #[.agg #[.slice C m cc,.int .i64 15,.int .i64 n,.slice A la c,.func (.func fc) #[] ev]] w (iO w kr nr sr):=by
 replace hvr:=aD hvr;go_enter func118,ntmps118;go_wp2_with (go_at_call 148;refine (hc.out _ bw3).mono ?_;rintro e w1 ⟨A1,c1,rfl,hl1,r1,hb1⟩;have hZ1:Blk w1 (w.heap.size+1) Zr:=((aC (n:=w.heap.size+1) (w.alloc (.cells #[.slice C m cc,.int .i64 15,.int .i64 n,.slice A la c,.func (.func fc) #[] ev] 105)) 32 Zr (by simp)).alloc (.cells (Ro 15 n A la c) 32)).keep hb1;have g1:Bw w w1:=bU bw3 hb1;obtain ⟨d0,d1,d2,e0,e1,e2⟩:=bW hZ1)
 refine bodyPost_ret (v:=.tuple #[.agg (Ro kr nr A1 sr.length c1),.int .i64 0]) (by simp [results,results118,go_sem,d0,d1,d2]) rfl ⟨A1,c1,rfl,hl1,bQ hZ1 hvr.out r1 _ _ _,?_⟩;exact bP g1
theorem aDs (C:Option Addr)(m cc:Nat)(n:Int)(A:Option Addr)(la c fc:Nat)(ev:Array Value)(kr nr:Int)(sr:List Tm)(w:World)(hvr:aE (.mk kr nr sr)=true)(hc:Hid (∀w',Bw w w'→Calls prog 148 #[.agg #[.slice C m cc,.int .i64 16,.int .i64 n,.slice A la c,.func (.func fc) #[] ev]] w' (iO w' kr nr sr))) :
  Calls prog 118 #[.agg #[.slice C m cc,.int .i64 16,.int .i64 n,.slice A la c,.func (.func fc) #[] ev]] w (iO w kr nr sr):=by
 replace hvr:=aD hvr;go_enter func118,ntmps118;go_wp2_with (go_at_call 148;refine (hc.out _ bw3).mono ?_;rintro e w1 ⟨A1,c1,rfl,hl1,r1,hb1⟩;have hZ1:Blk w1 (w.heap.size+1) Zr:=((aC (n:=w.heap.size+1) (w.alloc (.cells #[.slice C m cc,.int .i64 16,.int .i64 n,.slice A la c,.func (.func fc) #[] ev] 105)) 32 Zr (by simp)).alloc (.cells (Ro 16 n A la c) 32)).keep hb1;have g1:Bw w w1:=bU bw3 hb1;obtain ⟨d0,d1,d2,e0,e1,e2⟩:=bW hZ1)
 refine bodyPost_ret (v:=.tuple #[.agg (Ro kr nr A1 sr.length c1),.int .i64 0]) (by simp [results,results118,go_sem,d0,d1,d2]) rfl ⟨A1,c1,rfl,hl1,bQ hZ1 hvr.out r1 _ _ _,?_⟩;exact bP g1
end Go.Proofs.YtjlaenhcemacdaaGreat
