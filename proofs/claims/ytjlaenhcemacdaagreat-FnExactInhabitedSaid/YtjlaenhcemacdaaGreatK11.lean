/- Parts of the proof. No condition. -/
import Derived.Test.YtjlaenhcemacdaaGreatK8
import Derived.Test.YtjlaenhcemacdaaGreatK9
open Go.Proofs.Tryz
namespace Go.Proofs.YtjlaenhcemacdaaGreat
open Go.RowKit
set_option maxHeartbeats 16000000
set_option maxRecDepth 100000
set_option linter.unusedSimpArgs false
set_option linter.unusedVariables false
theorem aWs (n n0 ka na:Int)(kas:List Tm)(kb nb:Int)(kbs:List Tm)(k1 n1:Int)(s1:List Tm)(A:Ba)(c:Nat)(w:Bb)(hv:aE (.mk 5 n [.mk 4 n0 [.mk ka na kas,.mk kb nb kbs],.mk k1 n1 s1])=true)(hr:Rd w A 0 [.mk 4 n0 [.mk ka na kas,.mk kb nb kbs],.mk k1 n1 s1]) :
  Calls prog 133 #[.agg (Ro 5 n A 2 c)] w (pF w (fJ 0 (.mk k1 n1 s1) (.mk kb nb kbs))):=by
 have har:=aD (bD hv).1;have hrx:=aD (show rdx 5 [.mk 4 n0 [.mk ka na kas,.mk kb nb kbs],.mk k1 n1 s1]=1 from rfl);have hv1:=aP hv (t:=.mk k1 n1 s1) Ag;have hvb:=aP (aP hv (t:=.mk 4 n0 [.mk ka na kas,.mk kb nb kbs]) Ag) (t:=.mk kb nb kbs) Ag;have hsh1:=aD (bC hv1);have hshb:=aD (bC hvb);have hz1:=aH hv1;have hzb:=aH hvb;clear hv hv1 hvb;obtain ⟨b0,o0,k0',n0',ks0',A0,c0,hA0,hk0,i1,i2,i3,hl0,hr0⟩:=hr.at_ (j:=0) Ag;injection hk0 with e1 e2 e3;subst e1 e2 e3 hA0;obtain ⟨b0',o0',k1',n1',ks1',A1,c1,hA1,hk1,j1,j2,j3,hl1,hr1⟩:=hr.at_ (j:=1) Ag;injection hk1 with e1 e2 e3;injection hA1 with hA1;injection hA1 with hA2 hA3;subst e1 e2 e3 hA2 hA3;obtain ⟨bb,ob,kb',nb',kbs',Ab,cb,hAb,hkb,m1,m2,m3,hlb,hrb⟩:=hr0.at_ (j:=1) Ag;injection hkb with e1 e2 e3;subst e1 e2 e3 hAb;simp only [Nat.zero_mul,Nat.add_zero,Nat.one_mul] at i1 i2 i3 j1 j2 j3 m1 m2 m3
 cases hres:fJ 0 (.mk k1 n1 s1) (.mk kb nb kbs) with
 | none=>
  replace hres:=aD hres;go_enter func133,ntmps133;go_wp2_with (go_at_call 110;refine (cY 5 n [.mk 4 n0 [.mk ka na kas,.mk kb nb kbs],.mk k1 n1 s1] _ c _ Ag har.out ((hr.alloc _).alloc _)).mono ?_;rw [hrx.out];rintro e w1 ⟨rfl,hb1⟩;have hX:=((aC w 32 (Ro 5 n (some ⟨b0,o0,none⟩) 2 c) rfl).alloc (.cells Zr 32)).keep hb1;have hZ:Blk w1 (w.heap.size+1) Zr:=(aC _ 32 _ Ag).keep hb1;have g1:Bw w w1:=bN bw2 hb1);refine aU ?_;intro wx hwx;have hXx:=(show Blk wx w.heap.size _ by rw [hwx];exact hX);have hZx:=(show Blk wx (w.heap.size+1) _ by rw [hwx];exact hZ);have gx:Bw w wx:=by rw [hwx];exact g1
  clear hwx;have lz:=hZx.lt;have g0:=aF hXx.three.1;have g1':=aF hXx.three.2.1;have g2:=aF hXx.three.2.2;have y2:=aF ((cM gx) _ _ i3);have m0:=aF ((cM gx) _ _ m1);have m1':=aF ((cM gx) _ _ m2);have m2':=aF ((cM gx) _ _ m3);have v0:=aF ((cM gx) _ _ j1);have v1:=aF ((cM gx) _ _ j2);have v2:=aF ((cM gx) _ _ j3);have r1:=hr1.below gx;have rb:=hrb.below gx;clear i1 i2 i3 j1 j2 j3 m1 m2 m3;refine eK wx [12,13,14,15] [0,1,2,3,4,5,6,7,8,9,10] 16 5 (lT:=[_,_,_,_,_,_,_,_,_,_,_]) ?_;intro q0 bq0;refine bU (aD ?_);refine aZ 11 ?_
  ·go_wp2_with (go_at_call 95;refine (fE kb nb kbs Ab cb 0 k1 n1 s1 A1 c1 _ Ac hsh1.out Ac (r1.below bq0) Ac hshb.out (rb.below bq0)).mono ?_;rw [hres.out];intro e q1 hgo;obtain ⟨rfl,hbq1⟩:=(dS hgo));refine aV bq0 hbq1 ?_;intro bq1 lq1;refine fB [12,13] 2 (lT:=[_,_]) ?_;refine bU (aD ?_);refine cK [14,15] (lB:=[_,_]) ?_;have hZ2:=hZx.keep bq1;obtain ⟨d0,d1,d2,e0,e1,e2⟩:=bZ hZ2;have gf:=gx.trans (bq1.mono gx.size);have sx:=gx.size;go_wp2_with fail;refine bodyPost_ret (v:=.tuple #[fX,.bool false]) (by simp [results,results133,go_sem,d0,d1,d2,fX]) rfl ⟨rfl,?_⟩;exact ((gf.setCell Ag _).setCell Ag _).setCell Ag _
 | some r=>
  obtain ⟨kr,nr,rs⟩:=r;replace hres:=aD hres;go_enter func133,ntmps133;go_wp2_with (go_at_call 110;refine (cY 5 n [.mk 4 n0 [.mk ka na kas,.mk kb nb kbs],.mk k1 n1 s1] _ c _ Ag har.out ((hr.alloc _).alloc _)).mono ?_;rw [hrx.out];rintro e w1 ⟨rfl,hb1⟩;have hX:=((aC w 32 (Ro 5 n (some ⟨b0,o0,none⟩) 2 c) rfl).alloc (.cells Zr 32)).keep hb1;have hZ:Blk w1 (w.heap.size+1) Zr:=(aC _ 32 _ Ag).keep hb1;have g1:Bw w w1:=bN bw2 hb1);refine aU ?_;intro wx hwx;have hXx:=(show Blk wx w.heap.size _ by rw [hwx];exact hX);have hZx:=(show Blk wx (w.heap.size+1) _ by rw [hwx];exact hZ);have gx:Bw w wx:=by rw [hwx];exact g1
  clear hwx;have lz:=hZx.lt;have g0:=aF hXx.three.1;have g1':=aF hXx.three.2.1;have g2:=aF hXx.three.2.2;have y2:=aF ((cM gx) _ _ i3);have m0:=aF ((cM gx) _ _ m1);have m1':=aF ((cM gx) _ _ m2);have m2':=aF ((cM gx) _ _ m3);have v0:=aF ((cM gx) _ _ j1);have v1:=aF ((cM gx) _ _ j2);have v2:=aF ((cM gx) _ _ j3);have r1:=hr1.below gx;have rb:=hrb.below gx;clear i1 i2 i3 j1 j2 j3 m1 m2 m3;refine eK wx [12,13,14,15] [0,1,2,3,4,5,6,7,8,9,10] 16 5 (lT:=[_,_,_,_,_,_,_,_,_,_,_]) ?_;intro q0 bq0;refine bU (aD ?_);refine aZ 11 ?_
  ·go_wp2_with (go_at_call 95;refine (fE kb nb kbs Ab cb 0 k1 n1 s1 A1 c1 _ Ac hsh1.out Ac (r1.below bq0) Ac hshb.out (rb.below bq0)).mono ?_;rw [hres.out];intro e q1 hgo;obtain ⟨A7,c7,rfl,hl7,hfq1,hbq1⟩:=cS hgo);refine aV bq0 hbq1 ?_;intro bq1 lq1;refine fB [12,13] 2 (lT:=[_,_]) ?_;refine bU (aD ?_);refine cK [14,15] (lB:=[_,_]) ?_;have hZ2:=hZx.keep bq1;obtain ⟨d0,d1,d2,e0,e1,e2⟩:=bZ hZ2;have gf:=gx.trans (bq1.mono gx.size);have sx:=gx.size;go_wp2_with fail;refine bodyPost_ret (v:=.tuple #[.agg (Ro kr nr A7 rs.length c7),.bool true]) (by simp [results,results133,go_sem,d0,d1,d2,fX]) rfl ⟨A7,c7,rfl,hl7,?_,?_⟩
   ·exact ((((hfq1.mono (by have:=bq0.size;omega)).setCell Ai _).setCell Ai _).setCell Ai _).mono Ac
   ·exact ((gf.setCell Ag _).setCell Ag _).setCell Ag _
theorem aWp (n:Int)(t0:Tm)(k1 n1:Int)(s1:List Tm)(t2:Tm)(n3:Int)(s3:List Tm)(A:Ba)(c:Nat)(w:Bb)(hv:aE (.mk 9 n [t0,.mk k1 n1 s1,t2,.mk 7 n3 s3])=true)(hr:Rd w A 0 [t0,.mk k1 n1 s1,t2,.mk 7 n3 s3]) :
  Calls prog 133 #[.agg (Ro 9 n A 4 c)] w (pF w (some (.mk k1 n1 s1))):=by
 have har:=aD (bD hv).1;have hrx:=aD (show rdx 9 [t0,.mk k1 n1 s1,t2,.mk 7 n3 s3]=2 from rfl);have hv1:=aD (aP hv (t:=.mk k1 n1 s1) Ag);have hz1:=aH hv1.out;clear hv;obtain ⟨b0,o0,k0',n0',ks0',A0,c0,hA0,hk0,i1,i2,i3,hl0,hr0⟩:=hr.at_ (j:=1) Ag;injection hk0 with e1 e2 e3;subst e1 e2 e3 hA0;simp only [Nat.zero_mul,Nat.add_zero,Nat.one_mul,Nat.reduceMul] at i1 i2 i3
 have q5:=((Keeps.alloc w (.cells (Ro 9 n (some ⟨b0,o0,none⟩) 4 c) 32)).trans (Keeps.alloc _ (.cells Zr 32)));go_enter func133,ntmps133;go_wp2_with (first
  | (go_at_call 84;have _t:=tok2;refine (iO k1 n1 s1 A8 c8 _ Ac hf8.rd hv1.out).mono ?_;rintro e w9 ⟨rfl,hb9⟩;have hZ9:=hZ8.keep hb9;have g9:=g8.trans (hb9.mono g8.size);have hf9:=hf8.below hb9;obtain ⟨d0,d1,d2,e0,e1,e2⟩:=bZ hZ9)
  | (go_at_call 63;have _t:=tok1;refine (jW (s1.length+aG s1+1) k1 n1 s1 A0 c0 _ Ac Ac rP).mono ?_;rintro e w8 ⟨A8,c8,rfl,hl8,hf8,hb8⟩;have hZ8:=hZ.keep hb8;have g8:=g1.trans (hb8.mono g1.size);have tok2:=trivial)
  | (go_at_call 110;refine (cY 9 n [t0,.mk k1 n1 s1,t2,.mk 7 n3 s3] _ c _ Ag har.out ((hr.alloc _).alloc _)).mono ?_;rw [hrx.out];rintro e w1 ⟨rfl,hb1⟩;have hX:=((aC w 32 (Ro 9 n (some ⟨b0,o0,none⟩) 4 c) rfl).alloc (.cells Zr 32)).keep hb1;have hZ:Blk w1 (w.heap.size+1) Zr:=(aC _ 32 _ Ag).keep hb1;have g1:Bw w w1:=bN bw2 hb1;obtain ⟨x0,x1,x2⟩:=hX.three;have y0:=(cM g1) _ _ i1;have y1:=(cM g1) _ _ i2;have y2:=(cM g1) _ _ i3;  have rP:=hr0.below g1;have tok1:=trivial))
 have sz:=g1.size;have s8:=hb8.size;refine bodyPost_ret (v:=.tuple #[.agg (Ro k1 n1 A8 s1.length c8),.bool true]) (by simp [results,results133,go_sem,d0,d1,d2]) rfl ⟨A8,c8,rfl,hl8,?_,?_⟩
 ·exact (((hf9.setCell (by have:=hZ.lt;simp;omega) _).setCell (by have:=hZ.lt;simp;omega) _).setCell (by have:=hZ.lt;simp;omega) _).mono sz
 ·exact bV g9
theorem aXj (n:Int)(t0:Tm)(n3:Int)(s3:List Tm)(k1 n1:Int)(s1:List Tm)(A:Ba)(c:Nat)(w:Bb)(hv:aE (.mk 12 n [t0,.mk 11 n3 s3,.mk k1 n1 s1])=true)(hr:Rd w A 0 [t0,.mk 11 n3 s3,.mk k1 n1 s1]) :
  Calls prog 133 #[.agg (Ro 12 n A 3 c)] w (pF w (some (.mk k1 n1 s1))):=by
 have har:=aD (bD hv).1;have hrx:=aD (show rdx 12 [t0,.mk 11 n3 s3,.mk k1 n1 s1]=4 from rfl);have hv1:=aD (aP hv (t:=.mk k1 n1 s1) Ag);have hz1:=aH hv1.out;clear hv;obtain ⟨b0,o0,k0',n0',ks0',A0,c0,hA0,hk0,i1,i2,i3,hl0,hr0⟩:=hr.at_ (j:=2) Ag;injection hk0 with e1 e2 e3;subst e1 e2 e3 hA0;simp only [Nat.zero_mul,Nat.add_zero,Nat.one_mul,Nat.reduceMul] at i1 i2 i3
 have q5:=((Keeps.alloc w (.cells (Ro 12 n (some ⟨b0,o0,none⟩) 3 c) 32)).trans (Keeps.alloc _ (.cells Zr 32)));go_enter func133,ntmps133;go_wp2_with (first
  | (go_at_call 84;have _t:=tok2;refine (iO k1 n1 s1 A8 c8 _ Ac hf8.rd hv1.out).mono ?_;rintro e w9 ⟨rfl,hb9⟩;have hZ9:=hZ8.keep hb9;have g9:=g8.trans (hb9.mono g8.size);have hf9:=hf8.below hb9;obtain ⟨d0,d1,d2,e0,e1,e2⟩:=bZ hZ9)
  | (go_at_call 63;have _t:=tok1;refine (jW (s1.length+aG s1+1) k1 n1 s1 A0 c0 _ Ac Ac rP).mono ?_;rintro e w8 ⟨A8,c8,rfl,hl8,hf8,hb8⟩;have hZ8:=hZ.keep hb8;have g8:=g1.trans (hb8.mono g1.size);have tok2:=trivial)
  | (go_at_call 110;refine (cY 12 n [t0,.mk 11 n3 s3,.mk k1 n1 s1] _ c _ Ag har.out ((hr.alloc _).alloc _)).mono ?_;rw [hrx.out];rintro e w1 ⟨rfl,hb1⟩;have hX:=((aC w 32 (Ro 12 n (some ⟨b0,o0,none⟩) 3 c) rfl).alloc (.cells Zr 32)).keep hb1;have hZ:Blk w1 (w.heap.size+1) Zr:=(aC _ 32 _ Ag).keep hb1;have g1:Bw w w1:=bN bw2 hb1;obtain ⟨x0,x1,x2⟩:=hX.three;have y0:=(cM g1) _ _ i1;have y1:=(cM g1) _ _ i2;have y2:=(cM g1) _ _ i3;  have rP:=hr0.below g1;have tok1:=trivial))
 have sz:=g1.size;have s8:=hb8.size;refine bodyPost_ret (v:=.tuple #[.agg (Ro k1 n1 A8 s1.length c8),.bool true]) (by simp [results,results133,go_sem,d0,d1,d2]) rfl ⟨A8,c8,rfl,hl8,?_,?_⟩
 ·exact (((hf9.setCell (by have:=hZ.lt;simp;omega) _).setCell (by have:=hZ.lt;simp;omega) _).setCell (by have:=hZ.lt;simp;omega) _).mono sz
 ·exact bV g9
theorem aWg (n:Int)(n3:Int)(t0:Tm)(k1 n1:Int)(s1:List Tm)(t2:Tm)(A:Ba)(c:Nat)(w:Bb)(hv:aE (.mk 15 n [.mk 14 n3 [t0,.mk k1 n1 s1,t2]])=true)(hr:Rd w A 0 [.mk 14 n3 [t0,.mk k1 n1 s1,t2]]) :
  Calls prog 133 #[.agg (Ro 15 n A 1 c)] w (pF w (some (.mk k1 n1 s1))):=by
 have har:=aD (bD hv).1;have hrx:=aD (show rdx 15 [.mk 14 n3 [t0,.mk k1 n1 s1,t2]]=5 from rfl);have hv1:=aD (aP (aP hv (t:=.mk 14 n3 [t0,.mk k1 n1 s1,t2]) Ag) (t:=.mk k1 n1 s1) Ag);have hz1:=aH hv1.out;clear hv;obtain ⟨b0,o0,k0',n0',ks0',A0,c0,hA0,hk0,i1,i2,i3,hl0,hr0⟩:=hr.at_ (j:=0) Ag;injection hk0 with e1 e2 e3;subst e1 e2 e3 hA0;simp only [Nat.zero_mul,Nat.add_zero,Nat.one_mul,Nat.reduceMul] at i1 i2 i3
 obtain ⟨bb,ob,kb',nb',kbs',Ab,cb,hAb,hkb,m1,m2,m3,hlb,hrb⟩:=hr0.at_ (j:=1) Ag;injection hkb with e1 e2 e3;subst e1 e2 e3 hAb;simp only [Nat.zero_mul,Nat.add_zero,Nat.one_mul,Nat.reduceMul] at m1 m2 m3
 have q5:=((Keeps.alloc w (.cells (Ro 15 n (some ⟨b0,o0,none⟩) 1 c) 32)).trans (Keeps.alloc _ (.cells Zr 32)));go_enter func133,ntmps133;go_wp2_with (first
  | (go_at_call 84;have _t:=tok2;refine (iO k1 n1 s1 A8 c8 _ Ac hf8.rd hv1.out).mono ?_;rintro e w9 ⟨rfl,hb9⟩;have hZ9:=hZ8.keep hb9;have g9:=g8.trans (hb9.mono g8.size);have hf9:=hf8.below hb9;obtain ⟨d0,d1,d2,e0,e1,e2⟩:=bZ hZ9)
  | (go_at_call 63;have _t:=tok1;refine (jW (s1.length+aG s1+1) k1 n1 s1 Ab cb _ Ac Ac rP).mono ?_;rintro e w8 ⟨A8,c8,rfl,hl8,hf8,hb8⟩;have hZ8:=hZ.keep hb8;have g8:=g1.trans (hb8.mono g1.size);have tok2:=trivial)
  | (go_at_call 110;refine (cY 15 n [.mk 14 n3 [t0,.mk k1 n1 s1,t2]] _ c _ Ag har.out ((hr.alloc _).alloc _)).mono ?_;rw [hrx.out];rintro e w1 ⟨rfl,hb1⟩;have hX:=((aC w 32 (Ro 15 n (some ⟨b0,o0,none⟩) 1 c) rfl).alloc (.cells Zr 32)).keep hb1;have hZ:Blk w1 (w.heap.size+1) Zr:=(aC _ 32 _ Ag).keep hb1;have g1:Bw w w1:=bN bw2 hb1;obtain ⟨x0,x1,x2⟩:=hX.three;have y0:=(cM g1) _ _ i1;have y1:=(cM g1) _ _ i2;have y2:=(cM g1) _ _ i3;have z0:=(cM g1) _ _ m1;have z1:=(cM g1) _ _ m2;have z2:=(cM g1) _ _ m3;have rP:=hrb.below g1;have tok1:=trivial))
 have sz:=g1.size;have s8:=hb8.size;refine bodyPost_ret (v:=.tuple #[.agg (Ro k1 n1 A8 s1.length c8),.bool true]) (by simp [results,results133,go_sem,d0,d1,d2]) rfl ⟨A8,c8,rfl,hl8,?_,?_⟩
 ·exact (((hf9.setCell (by have:=hZ.lt;simp;omega) _).setCell (by have:=hZ.lt;simp;omega) _).setCell (by have:=hZ.lt;simp;omega) _).mono sz
 ·exact bV g9
theorem aWq (n:Int)(n3:Int)(t0 t1:Tm)(k1 n1:Int)(s1:List Tm)(A:Ba)(c:Nat)(w:Bb)(hv:aE (.mk 16 n [.mk 14 n3 [t0,t1,.mk k1 n1 s1]])=true)(hr:Rd w A 0 [.mk 14 n3 [t0,t1,.mk k1 n1 s1]]) :
  Calls prog 133 #[.agg (Ro 16 n A 1 c)] w (pF w (some (.mk k1 n1 s1))):=by
 have har:=aD (bD hv).1;have hrx:=aD (show rdx 16 [.mk 14 n3 [t0,t1,.mk k1 n1 s1]]=6 from rfl);have hv1:=aD (aP (aP hv (t:=.mk 14 n3 [t0,t1,.mk k1 n1 s1]) Ag) (t:=.mk k1 n1 s1) Ag);have hz1:=aH hv1.out;clear hv;obtain ⟨b0,o0,k0',n0',ks0',A0,c0,hA0,hk0,i1,i2,i3,hl0,hr0⟩:=hr.at_ (j:=0) Ag;injection hk0 with e1 e2 e3;subst e1 e2 e3 hA0;simp only [Nat.zero_mul,Nat.add_zero,Nat.one_mul,Nat.reduceMul] at i1 i2 i3
 obtain ⟨bb,ob,kb',nb',kbs',Ab,cb,hAb,hkb,m1,m2,m3,hlb,hrb⟩:=hr0.at_ (j:=2) Ag;injection hkb with e1 e2 e3;subst e1 e2 e3 hAb;simp only [Nat.zero_mul,Nat.add_zero,Nat.one_mul,Nat.reduceMul] at m1 m2 m3
 have q5:=((Keeps.alloc w (.cells (Ro 16 n (some ⟨b0,o0,none⟩) 1 c) 32)).trans (Keeps.alloc _ (.cells Zr 32)));go_enter func133,ntmps133;go_wp2_with (first
  | (go_at_call 84;have _t:=tok2;refine (iO k1 n1 s1 A8 c8 _ Ac hf8.rd hv1.out).mono ?_;rintro e w9 ⟨rfl,hb9⟩;have hZ9:=hZ8.keep hb9;have g9:=g8.trans (hb9.mono g8.size);have hf9:=hf8.below hb9;obtain ⟨d0,d1,d2,e0,e1,e2⟩:=bZ hZ9)
  | (go_at_call 63;have _t:=tok1;refine (jW (s1.length+aG s1+1) k1 n1 s1 Ab cb _ Ac Ac rP).mono ?_;rintro e w8 ⟨A8,c8,rfl,hl8,hf8,hb8⟩;have hZ8:=hZ.keep hb8;have g8:=g1.trans (hb8.mono g1.size);have tok2:=trivial)
  | (go_at_call 110;refine (cY 16 n [.mk 14 n3 [t0,t1,.mk k1 n1 s1]] _ c _ Ag har.out ((hr.alloc _).alloc _)).mono ?_;rw [hrx.out];rintro e w1 ⟨rfl,hb1⟩;have hX:=((aC w 32 (Ro 16 n (some ⟨b0,o0,none⟩) 1 c) rfl).alloc (.cells Zr 32)).keep hb1;have hZ:Blk w1 (w.heap.size+1) Zr:=(aC _ 32 _ Ag).keep hb1;have g1:Bw w w1:=bN bw2 hb1;obtain ⟨x0,x1,x2⟩:=hX.three;have y0:=(cM g1) _ _ i1;have y1:=(cM g1) _ _ i2;have y2:=(cM g1) _ _ i3;have z0:=(cM g1) _ _ m1;have z1:=(cM g1) _ _ m2;have z2:=(cM g1) _ _ m3;have rP:=hrb.below g1;have tok1:=trivial))
 have sz:=g1.size;have s8:=hb8.size;refine bodyPost_ret (v:=.tuple #[.agg (Ro k1 n1 A8 s1.length c8),.bool true]) (by simp [results,results133,go_sem,d0,d1,d2]) rfl ⟨A8,c8,rfl,hl8,?_,?_⟩
 ·exact (((hf9.setCell (by have:=hZ.lt;simp;omega) _).setCell (by have:=hZ.lt;simp;omega) _).setCell (by have:=hZ.lt;simp;omega) _).mono sz
 ·exact bV g9
theorem zP (k n:Int)(ks:List Tm)(A:Ba)(c:Nat)(w:Bb)(hM:aG ks<=1099511627775)(hr:Rd w A 0 ks)(hv:aE (.mk k n ks)=false) :
  Calls prog 84 #[(.agg (Ro k n A ks.length c))] w λe w'=>e = .returned (.tuple #[.agg Zr,.bool false])/\Bw w w':=wH k n ks A c w hM hr hv
theorem aHt {W q:Bb}{a b c d:Nat}{xa ya za xb yb zb xc yc zc xd yd zd:Value}(hab:a≠b)(hac:a≠c)(had:a≠d)(hbc:b≠c)(hbd:b≠d)(hcd:c≠d)(za0:Blk q a Zr)(zb0:Blk q b Zr)(zc0:Blk q c Zr)(zd0:Blk q d Zr)(h:Bw W q)(sa:W.heap.size<=a)(sb:W.heap.size<=b)(sc:W.heap.size<=c)(sd:W.heap.size<=d) :
  Blk ((((((((((((q.setCell ⟨a,0,none⟩ xa).setCell ⟨a,1,none⟩ ya).setCell ⟨a,2,none⟩ za).setCell ⟨b,0,none⟩ xb).setCell ⟨b,1,none⟩ yb).setCell ⟨b,2,none⟩ zb).setCell ⟨c,0,none⟩ xc).setCell ⟨c,1,none⟩ yc).setCell ⟨c,2,none⟩ zc).setCell ⟨d,0,none⟩ xd).setCell ⟨d,1,none⟩ yd).setCell ⟨d,2,none⟩ zd) a #[xa,ya,za]/\Blk ((((((((((((q.setCell ⟨a,0,none⟩ xa).setCell ⟨a,1,none⟩ ya).setCell ⟨a,2,none⟩ za).setCell ⟨b,0,none⟩ xb).setCell ⟨b,1,none⟩ yb).setCell ⟨b,2,none⟩ zb).setCell ⟨c,0,none⟩ xc).setCell ⟨c,1,none⟩ yc).setCell ⟨c,2,none⟩ zc).setCell ⟨d,0,none⟩ xd).setCell ⟨d,1,none⟩ yd).setCell ⟨d,2,none⟩ zd) b #[xb,yb,zb]/\Blk ((((((((((((q.setCell ⟨a,0,none⟩ xa).setCell ⟨a,1,none⟩ ya).setCell ⟨a,2,none⟩ za).setCell ⟨b,0,none⟩ xb).setCell ⟨b,1,none⟩ yb).setCell ⟨b,2,none⟩ zb).setCell ⟨c,0,none⟩ xc).setCell ⟨c,1,none⟩ yc).setCell ⟨c,2,none⟩ zc).setCell ⟨d,0,none⟩ xd).setCell ⟨d,1,none⟩ yd).setCell ⟨d,2,none⟩ zd) c #[xc,yc,zc]/\Blk ((((((((((((q.setCell ⟨a,0,none⟩ xa).setCell ⟨a,1,none⟩ ya).setCell ⟨a,2,none⟩ za).setCell ⟨b,0,none⟩ xb).setCell ⟨b,1,none⟩ yb).setCell ⟨b,2,none⟩ zb).setCell ⟨c,0,none⟩ xc).setCell ⟨c,1,none⟩ yc).setCell ⟨c,2,none⟩ zc).setCell ⟨d,0,none⟩ xd).setCell ⟨d,1,none⟩ yd).setCell ⟨d,2,none⟩ zd) d #[xd,yd,zd]/\Bw W ((((((((((((q.setCell ⟨a,0,none⟩ xa).setCell ⟨a,1,none⟩ ya).setCell ⟨a,2,none⟩ za).setCell ⟨b,0,none⟩ xb).setCell ⟨b,1,none⟩ yb).setCell ⟨b,2,none⟩ zb).setCell ⟨c,0,none⟩ xc).setCell ⟨c,1,none⟩ yc).setCell ⟨c,2,none⟩ zc).setCell ⟨d,0,none⟩ xd).setCell ⟨d,1,none⟩ yd).setCell ⟨d,2,none⟩ zd):=
 ⟨((((((((((((za0.set_ 0 _).set_ 1 _).set_ 2 _).far (p:=⟨b,0,none⟩) hab _).far (p:=⟨b,1,none⟩) hab _).far (p:=⟨b,2,none⟩) hab _).far (p:=⟨c,0,none⟩) hac _).far (p:=⟨c,1,none⟩) hac _).far (p:=⟨c,2,none⟩) hac _).far (p:=⟨d,0,none⟩) had _).far (p:=⟨d,1,none⟩) had _).far (p:=⟨d,2,none⟩) had _),((((((((((((zb0.far (p:=⟨a,0,none⟩) hab.symm _).far (p:=⟨a,1,none⟩) hab.symm _).far (p:=⟨a,2,none⟩) hab.symm _).set_ 0 _).set_ 1 _).set_ 2 _).far (p:=⟨c,0,none⟩) hbc _).far (p:=⟨c,1,none⟩) hbc _).far (p:=⟨c,2,none⟩) hbc _).far (p:=⟨d,0,none⟩) hbd _).far (p:=⟨d,1,none⟩) hbd _).far (p:=⟨d,2,none⟩) hbd _),((((((((((((zc0.far (p:=⟨a,0,none⟩) hac.symm _).far (p:=⟨a,1,none⟩) hac.symm _).far (p:=⟨a,2,none⟩) hac.symm _).far (p:=⟨b,0,none⟩) hbc.symm _).far (p:=⟨b,1,none⟩) hbc.symm _).far (p:=⟨b,2,none⟩) hbc.symm _).set_ 0 _).set_ 1 _).set_ 2 _).far (p:=⟨d,0,none⟩) hcd _).far (p:=⟨d,1,none⟩) hcd _).far (p:=⟨d,2,none⟩) hcd _),((((((((((((zd0.far (p:=⟨a,0,none⟩) had.symm _).far (p:=⟨a,1,none⟩) had.symm _).far (p:=⟨a,2,none⟩) had.symm _).far (p:=⟨b,0,none⟩) hbd.symm _).far (p:=⟨b,1,none⟩) hbd.symm _).far (p:=⟨b,2,none⟩) hbd.symm _).far (p:=⟨c,0,none⟩) hcd.symm _).far (p:=⟨c,1,none⟩) hcd.symm _).far (p:=⟨c,2,none⟩) hcd.symm _).set_ 0 _).set_ 1 _).set_ 2 _),rC (rC (rC (rC h sa) sb) sc) sd⟩
theorem aWk (n kp np:Int)(sp:List Tm)(kz nz:Int)(sz:List Tm)(k2 n2:Int)(s2:List Tm)(n8 ka na:Int)(sa:List Tm)(A:Ba)(c:Nat)(w:Bb)(hv:aE (.mk 9 n [.mk kp np sp,.mk kz nz sz,.mk k2 n2 s2,.mk 8 n8 [.mk ka na sa]])=true)(hr:Rd w A 0 [.mk kp np sp,.mk kz nz sz,.mk k2 n2 s2,.mk 8 n8 [.mk ka na sa]])(o:Option Tm)(ho0:vO (.mk 5 0 [.mk 5 0 [.mk k2 n2 s2,.mk ka na sa],.mk 9 0 [.mk kp np sp,.mk kz nz sz,.mk k2 n2 s2,.mk ka na sa]])=o) :
  Calls prog 133 #[.agg (Ro 9 n A 4 c)] w (pF w o):=by
 have har:=aD (bD hv).1;have hrx:=aD (show rdx 9 [.mk kp np sp,.mk kz nz sz,.mk k2 n2 s2,.mk 8 n8 [.mk ka na sa]]=3 from rfl);have hszv:=aH hv;simp only [aG,Tm.size] at hszv;have ho:=aD ho0;clear hv ho0;obtain ⟨b0,o0,x1,x2,x3,Ap,cp,hA0,hk,i1,i2,i3,hlp,hr0⟩:=hr.at_ (j:=0) Ag;injection hk with e1 e2 e3;subst e1 e2 e3;subst hA0;obtain ⟨b1,o1,x1,x2,x3,Az,cz,hA1,hk,j1,j2,j3,hlz,hr1⟩:=hr.at_ (j:=1) Ag;injection hk with e1 e2 e3;subst e1 e2 e3;injection hA1 with hA;injection hA with hA1 hA2;subst hA1 hA2;obtain ⟨b2,o2,x1,x2,x3,A2,c2,hA2,hk,m1,m2,m3,hl2,hr2⟩:=hr.at_ (j:=2) Ag;injection hk with e1 e2 e3;subst e1 e2 e3;injection hA2 with hA;injection hA with hA1 hA2;subst hA1 hA2;obtain ⟨b3,o3,x1,x2,x3,A8',c8',hA3,hk,y1,y2,y3,hly,hr3⟩:=hr.at_ (j:=3) Ag;injection hk with e1 e2 e3;subst e1 e2 e3;injection hA3 with hA;injection hA with hA1 hA2;subst hA1 hA2;obtain ⟨ba,oa,x1,x2,x3,Aa,ca,hAa,hk,z1,z2,z3,hla,hra⟩:=hr3.at_ (j:=0) Ag;injection hk with e1 e2 e3;subst e1 e2 e3 hAa;simp only [Nat.zero_mul,Nat.add_zero,Nat.one_mul,Nat.reduceMul] at i1 i2 i3 j1 j2 j3 m1 m2 m3 y1 y2 y3 z1 z2 z3
 go_enter func133,ntmps133;go_wp2_with (go_at_call 110;refine (cY 9 n [.mk kp np sp,.mk kz nz sz,.mk k2 n2 s2,.mk 8 n8 [.mk ka na sa]] _ c _ Ag har.out ((hr.alloc _).alloc _)).mono ?_;rw [hrx.out];rintro e w1 ⟨rfl,hb1⟩;have hX:=((aC w 32 (Ro 9 n (some ⟨b0,o0,none⟩) 4 c) rfl).alloc (.cells Zr 32)).keep hb1;have hZ:Blk w1 (w.heap.size+1) Zr:=(aC _ 32 _ Ag).keep hb1;have g1:Bw w w1:=bN bw2 hb1);refine aU ?_;intro wx hwx;have hXx:=(show Blk wx w.heap.size _ by rw [hwx];exact hX);have hZx:=(show Blk wx (w.heap.size+1) _ by rw [hwx];exact hZ);have gx:Bw w wx:=by rw [hwx];exact g1
 clear hwx;have lz:=hZx.lt;have rpx:=hr0.below gx;have rzx:=hr1.below gx;have r2x:=hr2.below gx;have rax:=hra.below gx;have g0:=aF hXx.three.1;have g1':=aF hXx.three.2.1;have g2:=aF hXx.three.2.2;have ui1:=aF ((cM gx) _ _ i1);have ui2:=aF ((cM gx) _ _ i2);have ui3:=aF ((cM gx) _ _ i3);have uj1:=aF ((cM gx) _ _ j1);have uj2:=aF ((cM gx) _ _ j2);have uj3:=aF ((cM gx) _ _ j3);have um1:=aF ((cM gx) _ _ m1);have um2:=aF ((cM gx) _ _ m2);have um3:=aF ((cM gx) _ _ m3);have uy1:=aF ((cM gx) _ _ y1);have uy2:=aF ((cM gx) _ _ y2);have uy3:=aF ((cM gx) _ _ y3);have uz1:=aF ((cM gx) _ _ z1);have uz2:=aF ((cM gx) _ _ z2);have uz3:=aF ((cM gx) _ _ z3);clear i1 i2 i3 j1 j2 j3 m1 m2 m3 y1 y2 y3 z1 z2 z3;go_cut [4,5,6,7] (λv4 v5 v6 v7 wy=>∃(g4 g5 g6 g7:Nat),v4 = .pointer (some ⟨g4,0,none⟩)/\v5 = .pointer (some ⟨g5,0,none⟩)/\v6 = .pointer (some ⟨g6,0,none⟩)/\v7 = .pointer (some ⟨g7,0,none⟩)/\Blk wy g4 (Ro kp np Ap sp.length cp)/\Blk wy g5 (Ro kz nz Az sz.length cz)/\Blk wy g6 (Ro k2 n2 A2 s2.length c2)/\Blk wy g7 (Ro ka na Aa sa.length ca)/\Bw wx wy)
 case first=>
  refine eK wx [26] [0,1,2,3,4,5,6,7,8,9,10,11,12,13,14,15,16,17,18] 27 8 (lT:=[_,_,_,_,_,_,_,_,_,_,_,_,_,_,_,_,_,_,_]) ?_;intro q0 bq0;refine bU (aD ?_);refine aRt (i:=19) (j:=20) (m:=21) (q:=22) (by kernel_rfl) rfl rfl rfl rfl ?_ ?_ ?_ ?_;all_goals
   go_wp2_with fail;refine cF ?_;intro q1 hn;have hbq1:Bw q0 q1:=by rw [hn];exact bw1
   have zq1:Blk q1 q0.heap.size Zr:=by rw [hn];exact aC _ 32 _ rfl
   have seq1:q0.heap.size<q1.heap.size:=by rw [hn];simp
   clear hn;refine aV bq0 hbq1 ?_;intro bq1 lq1
  all_goals first
   | refine sS (i:=20) (j:=21) (m:=22) (by decide +kernel) rfl rfl rfl ?_ ?_ ?_
   | refine sS (i:=19) (j:=21) (m:=22) (by decide +kernel) rfl rfl rfl ?_ ?_ ?_
   | refine sS (i:=19) (j:=20) (m:=22) (by decide +kernel) rfl rfl rfl ?_ ?_ ?_
   | refine sS (i:=19) (j:=20) (m:=21) (by decide +kernel) rfl rfl rfl ?_ ?_ ?_
  all_goals
   go_wp2_with fail;refine cF ?_;intro q2 hn;have hbq2:Bw q1 q2:=by rw [hn];exact bw1
   have zq2:Blk q2 q1.heap.size Zr:=by rw [hn];exact aC _ 32 _ rfl
   have seq2:q1.heap.size<q2.heap.size:=by rw [hn];simp
   clear hn;replace zq1:=zq1.keep hbq2;refine aV bq1 hbq2 ?_;intro bq2 lq2
  all_goals first
   | refine pW (i:=19) (j:=20) (by decide +kernel) rfl rfl ?_ ?_
   | refine pW (i:=19) (j:=21) (by decide +kernel) rfl rfl ?_ ?_
   | refine pW (i:=19) (j:=22) (by decide +kernel) rfl rfl ?_ ?_
   | refine pW (i:=20) (j:=21) (by decide +kernel) rfl rfl ?_ ?_
   | refine pW (i:=20) (j:=22) (by decide +kernel) rfl rfl ?_ ?_
   | refine pW (i:=21) (j:=22) (by decide +kernel) rfl rfl ?_ ?_
  all_goals
   go_wp2_with fail;refine cF ?_;intro q3 hn;have hbq3:Bw q2 q3:=by rw [hn];exact bw1
   have zq3:Blk q3 q2.heap.size Zr:=by rw [hn];exact aC _ 32 _ rfl
   have seq3:q2.heap.size<q3.heap.size:=by rw [hn];simp
   clear hn;replace zq1:=zq1.keep hbq3;replace zq2:=zq2.keep hbq3;refine aV bq2 hbq3 ?_;intro bq3 lq3
  all_goals first
   | refine nO (i:=19) (by decide +kernel) rfl ?_
   | refine nO (i:=20) (by decide +kernel) rfl ?_
   | refine nO (i:=21) (by decide +kernel) rfl ?_
   | refine nO (i:=22) (by decide +kernel) rfl ?_
  all_goals
   go_wp2_with fail;refine cF ?_;intro q4 hn;have hbq4:Bw q3 q4:=by rw [hn];exact bw1
   have zq4:Blk q4 q3.heap.size Zr:=by rw [hn];exact aC _ 32 _ rfl
   have seq4:q3.heap.size<q4.heap.size:=by rw [hn];simp
   clear hn;replace zq1:=zq1.keep hbq4;replace zq2:=zq2.keep hbq4;replace zq3:=zq3.keep hbq4;refine aV bq3 hbq4 ?_;intro bq4 lq4
  all_goals
   obtain ⟨d10,d11,d12,e10,e11,e12⟩:=bZ zq1;have sb1:wx.heap.size<=q0.heap.size:=bq0.size;obtain ⟨d20,d21,d22,e20,e21,e22⟩:=bZ zq2;have sb2:wx.heap.size<=q1.heap.size:=bq1.size;obtain ⟨d30,d31,d32,e30,e31,e32⟩:=bZ zq3;have sb3:wx.heap.size<=q2.heap.size:=bq2.size;obtain ⟨d40,d41,d42,e40,e41,e42⟩:=bZ zq4;have sb4:wx.heap.size<=q3.heap.size:=bq3.size;have n01:q0.heap.size≠q1.heap.size:=by omega
   have n02:q0.heap.size≠q2.heap.size:=by omega
   have n03:q0.heap.size≠q3.heap.size:=by omega
   have n10:q1.heap.size≠q0.heap.size:=by omega
   have n12:q1.heap.size≠q2.heap.size:=by omega
   have n13:q1.heap.size≠q3.heap.size:=by omega
   have n20:q2.heap.size≠q0.heap.size:=by omega
   have n21:q2.heap.size≠q1.heap.size:=by omega
   have n23:q2.heap.size≠q3.heap.size:=by omega
   have n30:q3.heap.size≠q0.heap.size:=by omega
   have n31:q3.heap.size≠q1.heap.size:=by omega
   have n32:q3.heap.size≠q2.heap.size:=by omega
   refine aZ 23 ?_;go_wp2_with fail;refine aS (rC bq4 (by assumption)) ?_;refine aZ 24 ?_;go_wp2_with fail;refine aS (rC (rC bq4 (by assumption)) (by assumption)) ?_;refine aZ 25 ?_;go_wp2_with fail;refine aS (rC (rC (rC bq4 (by assumption)) (by assumption)) (by assumption)) ?_;refine cK [26] (lB:=[_]) ?_;go_wp2_with fail;go_meet
   exact ⟨_,_,_,_,rfl,rfl,rfl,rfl,aHt (by assumption) (by assumption) (by assumption) (by assumption) (by assumption) (by assumption) (by assumption) (by assumption) (by assumption) (by assumption) bq4 (by assumption) (by assumption) (by assumption) (by assumption)⟩
 case rest=>
  obtain ⟨g4,g5,g6,g7,rfl,rfl,rfl,rfl,hT4,hT5,hT6,hT7,hxy⟩:=hcut;clear ui1 ui2 ui3 uj1 uj2 uj3 um1 um2 um3 uy1 uy2 uy3 uz1 uz2 uz3 g0 g1' g2;go_upto_region 8 with fail
  refine aU ?_;intro wy hwy;subst hwy;have gy:Bw w wy:=gx.trans (hxy.mono gx.size);have hZy:=hZx.keep hxy;have rp:=rpx.below hxy;have rz:=rzx.below hxy;have r2:=r2x.below hxy;have ra:=rax.below hxy;obtain ⟨t40,t41,t42⟩:=fW hT4;obtain ⟨t50,t51,t52⟩:=fW hT5;obtain ⟨t60,t61,t62⟩:=fW hT6;obtain ⟨t70,t71,t72⟩:=fW hT7;refine eK wy [14,15,16,17] [0,1,4,5,6,7] 18 12 (lT:=[_,_,_,_,_,_]) ?_;intro q0 bq0;refine bU (aD ?_);refine mW 2 8 ?_ ?_;all_goals first
   | (go_wp2_with (go_at_call 71;refine (aQ _ _ ⟨_,_,_,rfl⟩ _).mono ?_;rintro e q1 ⟨rfl,hbq1⟩);first|(replace rA:=rA.below hbq1;replace rB:=rB.below hbq1)|replace rA:=rA.below hbq1|replace rB:=rB.below hbq1)
   | (go_wp2_with fail;refine cF ?_;intro q1 hn;have hbq1:Bw q0 q1:=(by rw [hn];exact bw1);have zA:Blk q1 q0.heap.size #[.int .i64 k2,.int .i64 n2,.slice A2 s2.length c2,.int .i64 ka,.int .i64 na,.slice Aa sa.length ca]:=(by rw [hn];exact aC _ 32 _ rfl);clear hn;have rA:=dW zA hl2 hla ((r2.below bq0).below hbq1) ((ra.below bq0).below hbq1);clear zA;obtain ⟨aA,haA⟩:∃a,a=q0.heap.size:=⟨_,rfl⟩;rw [<- haA] at rA;try replace rB:=rB.below hbq1)
   | (go_wp2_with fail;refine cF ?_;intro q1 hn;have hbq1:Bw q0 q1:=(by rw [hn];exact bw1);have zB:Blk q1 q0.heap.size #[.int .i64 kp,.int .i64 np,.slice Ap sp.length cp,.int .i64 kz,.int .i64 nz,.slice Az sz.length cz,.int .i64 k2,.int .i64 n2,.slice A2 s2.length c2,.int .i64 ka,.int .i64 na,.slice Aa sa.length ca]:=(by rw [hn];exact aC _ 32 _ rfl);clear hn;have rB:=wE zB hlp hlz hl2 hla ((rp.below bq0).below hbq1) ((rz.below bq0).below hbq1) ((r2.below bq0).below hbq1) ((ra.below bq0).below hbq1);clear zB;obtain ⟨aB,haB⟩:∃a,a=q0.heap.size:=⟨_,rfl⟩;rw [<- haB] at rB;try replace rA:=rA.below hbq1)
  all_goals
   refine aV bq0 hbq1 ?_;intro bq1 lq1
  all_goals first
   | refine pW (i:=3) (j:=8) (by decide +kernel) rfl rfl ?_ ?_
   | refine nO (i:=2) (by decide +kernel) rfl ?_
  all_goals first
   | (go_wp2_with (go_at_call 71;refine (aQ _ _ ⟨_,_,_,rfl⟩ _).mono ?_;rintro e q2 ⟨rfl,hbq2⟩);first|(replace rA:=rA.below hbq2;replace rB:=rB.below hbq2)|replace rA:=rA.below hbq2|replace rB:=rB.below hbq2)
   | (go_wp2_with fail;refine cF ?_;intro q2 hn;have hbq2:Bw q1 q2:=(by rw [hn];exact bw1);have zA:Blk q2 q1.heap.size #[.int .i64 k2,.int .i64 n2,.slice A2 s2.length c2,.int .i64 ka,.int .i64 na,.slice Aa sa.length ca]:=(by rw [hn];exact aC _ 32 _ rfl);clear hn;have rA:=dW zA hl2 hla ((r2.below bq1).below hbq2) ((ra.below bq1).below hbq2);clear zA;obtain ⟨aA,haA⟩:∃a,a=q1.heap.size:=⟨_,rfl⟩;rw [<- haA] at rA;try replace rB:=rB.below hbq2)
   | (go_wp2_with fail;refine cF ?_;intro q2 hn;have hbq2:Bw q1 q2:=(by rw [hn];exact bw1);have zB:Blk q2 q1.heap.size #[.int .i64 kp,.int .i64 np,.slice Ap sp.length cp,.int .i64 kz,.int .i64 nz,.slice Az sz.length cz,.int .i64 k2,.int .i64 n2,.slice A2 s2.length c2,.int .i64 ka,.int .i64 na,.slice Aa sa.length ca]:=(by rw [hn];exact aC _ 32 _ rfl);clear hn;have rB:=wE zB hlp hlz hl2 hla ((rp.below bq1).below hbq2) ((rz.below bq1).below hbq2) ((r2.below bq1).below hbq2) ((ra.below bq1).below hbq2);clear zB;obtain ⟨aB,haB⟩:∃a,a=q1.heap.size:=⟨_,rfl⟩;rw [<- haB] at rB;try replace rA:=rA.below hbq2)
  all_goals
   refine aV bq1 hbq2 ?_;intro bq2 lq2
  all_goals first
   | refine nO (i:=8) (by decide +kernel) rfl ?_
   | refine nO (i:=3) (by decide +kernel) rfl ?_
  all_goals first
   | (go_wp2_with (go_at_call 71;refine (aQ _ _ ⟨_,_,_,rfl⟩ _).mono ?_;rintro e q3 ⟨rfl,hbq3⟩);first|(replace rA:=rA.below hbq3;replace rB:=rB.below hbq3)|replace rA:=rA.below hbq3|replace rB:=rB.below hbq3)
   | (go_wp2_with fail;refine cF ?_;intro q3 hn;have hbq3:Bw q2 q3:=(by rw [hn];exact bw1);have zA:Blk q3 q2.heap.size #[.int .i64 k2,.int .i64 n2,.slice A2 s2.length c2,.int .i64 ka,.int .i64 na,.slice Aa sa.length ca]:=(by rw [hn];exact aC _ 32 _ rfl);clear hn;have rA:=dW zA hl2 hla ((r2.below bq2).below hbq3) ((ra.below bq2).below hbq3);clear zA;obtain ⟨aA,haA⟩:∃a,a=q2.heap.size:=⟨_,rfl⟩;rw [<- haA] at rA;try replace rB:=rB.below hbq3)
   | (go_wp2_with fail;refine cF ?_;intro q3 hn;have hbq3:Bw q2 q3:=(by rw [hn];exact bw1);have zB:Blk q3 q2.heap.size #[.int .i64 kp,.int .i64 np,.slice Ap sp.length cp,.int .i64 kz,.int .i64 nz,.slice Az sz.length cz,.int .i64 k2,.int .i64 n2,.slice A2 s2.length c2,.int .i64 ka,.int .i64 na,.slice Aa sa.length ca]:=(by rw [hn];exact aC _ 32 _ rfl);clear hn;have rB:=wE zB hlp hlz hl2 hla ((rp.below bq2).below hbq3) ((rz.below bq2).below hbq3) ((r2.below bq2).below hbq3) ((ra.below bq2).below hbq3);clear zB;obtain ⟨aB,haB⟩:∃a,a=q2.heap.size:=⟨_,rfl⟩;rw [<- haB] at rB;try replace rA:=rA.below hbq3)
  all_goals
   refine aV bq2 hbq3 ?_;intro bq3 lq3
  all_goals first
   | refine nO (i:=9) (by decide +kernel) rfl ?_
  all_goals first
   | (go_wp2_with (go_at_call 71;refine (aQ _ _ ⟨_,_,_,rfl⟩ _).mono ?_;rintro e q4 ⟨rfl,hbq4⟩);first|(replace rA:=rA.below hbq4;replace rB:=rB.below hbq4)|replace rA:=rA.below hbq4|replace rB:=rB.below hbq4)
   | (go_wp2_with fail;refine cF ?_;intro q4 hn;have hbq4:Bw q3 q4:=(by rw [hn];exact bw1);have zA:Blk q4 q3.heap.size #[.int .i64 k2,.int .i64 n2,.slice A2 s2.length c2,.int .i64 ka,.int .i64 na,.slice Aa sa.length ca]:=(by rw [hn];exact aC _ 32 _ rfl);clear hn;have rA:=dW zA hl2 hla ((r2.below bq3).below hbq4) ((ra.below bq3).below hbq4);clear zA;obtain ⟨aA,haA⟩:∃a,a=q3.heap.size:=⟨_,rfl⟩;rw [<- haA] at rA;try replace rB:=rB.below hbq4)
   | (go_wp2_with fail;refine cF ?_;intro q4 hn;have hbq4:Bw q3 q4:=(by rw [hn];exact bw1);have zB:Blk q4 q3.heap.size #[.int .i64 kp,.int .i64 np,.slice Ap sp.length cp,.int .i64 kz,.int .i64 nz,.slice Az sz.length cz,.int .i64 k2,.int .i64 n2,.slice A2 s2.length c2,.int .i64 ka,.int .i64 na,.slice Aa sa.length ca]:=(by rw [hn];exact aC _ 32 _ rfl);clear hn;have rB:=wE zB hlp hlz hl2 hla ((rp.below bq3).below hbq4) ((rz.below bq3).below hbq4) ((r2.below bq3).below hbq4) ((ra.below bq3).below hbq4);clear zB;obtain ⟨aB,haB⟩:∃a,a=q3.heap.size:=⟨_,rfl⟩;rw [<- haB] at rB;try replace rA:=rA.below hbq4)
  all_goals
   refine aV bq3 hbq4 ?_;intro bq4 lq4
  all_goals
   refine aZ 10 ?_;go_wp2_with fail;refine cF ?_;intro q5 hn;have hbq5:Bw q4 q5:=by rw [hn];exact bw1
   have zq5:Blk q5 q4.heap.size #[.int .i64 5,.int .i64 0,.slice (some ⟨aA,0,none⟩) 2 2,.int .i64 9,.int .i64 0,.slice (some ⟨aB,0,none⟩) 4 4]:=by rw [hn,haA,haB];exact aC _ 32 _ rfl
   clear hn;have rq5:Rd q5 (some ⟨q4.heap.size,0,none⟩) 0 [.mk 5 0 [.mk k2 n2 s2,.mk ka na sa],.mk 9 0 [.mk kp np sp,.mk kz nz sz,.mk k2 n2 s2,.mk ka na sa]]:=dW (s0:=[.mk k2 n2 s2,.mk ka na sa]) (s1:=[.mk kp np sp,.mk kz nz sz,.mk k2 n2 s2,.mk ka na sa]) zq5 Ag Ag (rA.below hbq5) (rB.below hbq5);refine aV bq4 hbq5 ?_;intro bq5 lq5;refine aZ 11 ?_;go_wp2_with (go_at_call 71;refine (aQ 5 _ ⟨_,_,_,rfl⟩ _).mono ?_;rintro e q6 ⟨rfl,hbq6⟩);have Tq6:=rq5.below hbq6;refine aV bq5 hbq6 ?_;intro bq6 lq6;refine aZ 12 ?_;go_wp2_with (go_at_call 63;refine (jW 10000 5 0 [.mk 5 0 [.mk k2 n2 s2,.mk ka na sa],.mk 9 0 [.mk kp np sp,.mk kz nz sz,.mk k2 n2 s2,.mk ka na sa]] _ 2 _ (by simp only [aG,Tm.size];omega) (by simp only [aG,Tm.size];omega) Tq6).mono ?_;rintro e q7 ⟨A8,c8,rfl,hl8,hfq7,hbq7⟩);have hgq7:=hfq7.mono (B':=wy.heap.size) bq6.size;refine aV bq6 hbq7 ?_;intro bq7 lq7;refine aZ 13 ?_;have hZ7:=hZy.keep bq7;have gf7:=gy.trans (bq7.mono gy.size);have sy:=gy.size;have lzy:=hZy.lt;cases hvr0:aE (.mk 5 0 [.mk 5 0 [.mk k2 n2 s2,.mk ka na sa],.mk 9 0 [.mk kp np sp,.mk kz nz sz,.mk k2 n2 s2,.mk ka na sa]]) with
   | false=>
    obtain rfl:o=none:=by rw [<- ho.out,vO,hvr0];rfl
    have hvr:=aD hvr0;clear hvr0 ho;go_wp2_with (go_at_call 84;refine (zP 5 0 _ A8 c8 _ (by simp only [aG,Tm.size];omega) hgq7.rd hvr.out).mono ?_;rintro e q8 ⟨rfl,hbq8⟩);have Oq8:=hgq7.below hbq8;have bq8:Bw wy q8:=bq7.trans (hbq8.mono bq7.size);refine aS bq8 ?_;refine fB [14,15] 2 (lT:=[_,_]) ?_;refine bU (aD ?_);refine cK [16,17] (lB:=[_,_]) ?_;have hZ2:=hZy.keep bq8;obtain ⟨d0,d1,d2,e0,e1,e2⟩:=bZ hZ2;have gf:=gy.trans (bq8.mono gy.size);go_wp2_with fail;refine bodyPost_ret (v:=.tuple #[fX,.bool false]) (by simp [results,results133,go_sem,d0,d1,d2,fX]) rfl ⟨rfl,?_⟩;exact ((gf.setCell Ag _).setCell Ag _).setCell Ag _
   | true=>
    obtain rfl:o=some (.mk 5 0 [.mk 5 0 [.mk k2 n2 s2,.mk ka na sa],.mk 9 0 [.mk kp np sp,.mk kz nz sz,.mk k2 n2 s2,.mk ka na sa]]):=by rw [<- ho.out,vO,hvr0];rfl
    have hvr:=aD hvr0;clear hvr0 ho;go_wp2_with (go_at_call 84;refine (iO 5 0 _ A8 c8 _ (by simp only [aG,Tm.size];omega) hgq7.rd hvr.out).mono ?_;rintro e q8 ⟨rfl,hbq8⟩);have Oq8:=hgq7.below hbq8;have bq8:Bw wy q8:=bq7.trans (hbq8.mono bq7.size);refine aS bq8 ?_;refine fB [14,15] 2 (lT:=[_,_]) ?_;refine bU (aD ?_);refine cK [16,17] (lB:=[_,_]) ?_;have hZ2:=hZy.keep bq8;obtain ⟨d0,d1,d2,e0,e1,e2⟩:=bZ hZ2;have gf:=gy.trans (bq8.mono gy.size);go_wp2_with fail;refine bodyPost_ret (v:=.tuple #[.agg (Ro 5 0 A8 2 c8),.bool true]) (by simp [results,results133,go_sem,d0,d1,d2,fX]) rfl ⟨A8,c8,rfl,by simp [Tm.ks],?_,?_⟩
    ·exact (((Oq8.setCell Ai _).setCell Ai _).setCell Ai _).mono Ac
    ·exact ((gf.setCell Ag _).setCell Ag _).setCell Ag _
theorem mP (k n:Int)(ks:List Tm)(A:Ba)(c:Nat)(w:Bb)(hv:aE (.mk k n ks)=true)(hx:rdx k ks≠0)(hr:Rd w A 0 ks) :
  Calls prog 133 #[.agg (Ro k n A ks.length c)] w (pF w (vH (.mk k n ks))):=by
 have har:=(bD hv).1;rcases aIq hx with ⟨h,rfl,h2⟩|⟨h,rfl,h2⟩|⟨h,rfl,h2⟩|⟨h,rfl,h2⟩|⟨h,rfl,h2⟩|⟨h,rfl,h2⟩
 ·obtain ⟨a,b,rfl⟩:=kP (l:=ks) (by have:aX 5=2:=rfl;omega);obtain ⟨k0,n0,s0⟩:=a;obtain ⟨k1,n1,s1⟩:=b;obtain rfl:k0=4:=h2;have ha0:=(bD (aP hv (t:=.mk 4 n0 s0) Ag)).1;obtain ⟨x,y,rfl⟩:=kP (l:=s0) (by have:aX 4=2:=rfl;omega);obtain ⟨ka,na,kas⟩:=x;obtain ⟨kb,nb,kbs⟩:=y;exact aWs n n0 ka na kas kb nb kbs k1 n1 s1 A c w hv hr
 ·obtain ⟨a,b,x,d,rfl⟩:=wJ (l:=ks) (by have:aX 9=4:=rfl;omega);obtain ⟨k1,n1,s1⟩:=b;obtain ⟨k3,n3,s3⟩:=d;obtain rfl:k3=7:=h2;have hz:vH (.mk 9 n [a,.mk k1 n1 s1,x,.mk 7 n3 s3])=some (.mk k1 n1 s1):=by
   show vO (.mk k1 n1 s1)=_;rw [vO,Av (aP hv Ag)]
  rw [hz];exact aWp n a k1 n1 s1 x n3 s3 A c w hv hr
 ·obtain ⟨a,b,x,d,rfl⟩:=wJ (l:=ks) (by have:aX 9=4:=rfl;omega);obtain ⟨kp,np,sp⟩:=a;obtain ⟨kz,nz,sz⟩:=b;obtain ⟨k2,n2,s2⟩:=x;obtain ⟨k3,n8,s3⟩:=d;obtain rfl:k3=8:=h2;have ha0:=(bD (aP hv (t:=.mk 8 n8 s3) Ag)).1;obtain ⟨x,rfl⟩:=mB (l:=s3) (by have:aX 8=1:=rfl;omega);obtain ⟨ka,na,sa⟩:=x;have hz:vH (.mk 9 n [.mk kp np sp,.mk kz nz sz,.mk k2 n2 s2,.mk 8 n8 [.mk ka na sa]])=vO (.mk 5 0 [.mk 5 0 [.mk k2 n2 s2,.mk ka na sa],.mk 9 0 [.mk kp np sp,.mk kz nz sz,.mk k2 n2 s2,.mk ka na sa]]):=rfl;rw [hz];exact aWk n kp np sp kz nz sz k2 n2 s2 n8 ka na sa A c w hv hr _ rfl
 ·obtain ⟨a,b,x,rfl⟩:=gA (l:=ks) (by have:aX 12=3:=rfl;omega);obtain ⟨k1,n1,s1⟩:=x;obtain ⟨k3,n3,s3⟩:=b;obtain rfl:k3=11:=h2;have hz:vH (.mk 12 n [a,.mk 11 n3 s3,.mk k1 n1 s1])=some (.mk k1 n1 s1):=by
   show vO (.mk k1 n1 s1)=_;rw [vO,Av (aP hv Ag)]
  rw [hz];exact aXj n a n3 s3 k1 n1 s1 A c w hv hr
 ·obtain ⟨a,rfl⟩:=mB (l:=ks) (by have:aX 15=1:=rfl;omega);obtain ⟨k3,n3,s3⟩:=a;obtain rfl:k3=14:=h2;have hv0:=aP hv (t:=.mk 14 n3 s3) Ag;have ha0:=(bD hv0).1;obtain ⟨a,b,x,rfl⟩:=gA (l:=s3) (by have:aX 14=3:=rfl;omega);obtain ⟨k1,n1,s1⟩:=b;have hz:vH (.mk 15 n [.mk 14 n3 [a,.mk k1 n1 s1,x]])=some (.mk k1 n1 s1):=by
   show vO (.mk k1 n1 s1)=_;rw [vO,Av (aP hv0 Ag)]
  rw [hz];exact aWg n n3 a k1 n1 s1 x A c w hv hr
 ·obtain ⟨a,rfl⟩:=mB (l:=ks) (by have:aX 16=1:=rfl;omega);obtain ⟨k3,n3,s3⟩:=a;obtain rfl:k3=14:=h2;have hv0:=aP hv (t:=.mk 14 n3 s3) Ag;have ha0:=(bD hv0).1;obtain ⟨a,b,x,rfl⟩:=gA (l:=s3) (by have:aX 14=3:=rfl;omega);obtain ⟨k1,n1,s1⟩:=x;have hz:vH (.mk 16 n [.mk 14 n3 [a,b,.mk k1 n1 s1]])=some (.mk k1 n1 s1):=by
   show vO (.mk k1 n1 s1)=_;rw [vO,Av (aP hv0 Ag)]
  rw [hz];exact aWq n n3 a b k1 n1 s1 A c w hv hr
theorem aCb {ks:List Tm}{i:Nat}(hi:i<ks.length){t:Tm}:aG (ks.set i t)+ks[i].size=aG ks+t.size:=by
 induction ks generalizing i with
 | nil=>simp at hi
 | cons a ts ih=>
  cases i with
  | zero=>rw [List.set_cons_zero,aG,aG,List.getElem_cons_zero];omega
  | succ i=>rw [List.set_cons_succ,aG,aG,List.getElem_cons_succ];have:=ih (i:=i) (by simpa using hi);omega
theorem aAf {u u0:Tm}:∀{xs:List Int} {t:Tm},nN t xs=some u0->(kR t xs u).size<=t.size+u.size
 | [],t,_=>by rw [kR];omega
 | i::is,.mk k n ks,h=>by
  rw [nN] at h;split at h
  ·rename_i hh;have hlt:i.toNat<ks.length:=by have:=hh.2;simp only [Tm.kids] at this;omega
   rw [show (Tm.mk k n ks).kids=ks from rfl] at h;have h1:=aAf h (u:=u);have h2:=aCb hlt (t:=kR (ks.getD i.toNat default) is u);have e:ks.getD i.toNat default=ks[i.toNat]:=by simp [List.getD,sE hlt]
   rw [e] at h1 h2;rw [kR,Tm.size,Tm.size,e];omega
  ·cases h
theorem zK (ku nu:Int)(us:List Tm)(hus:aG us<=1000000)(xs:List Int)(k n:Int)(ks:List Tm)(A:Ba)(c:Nat)(P:Ba)(cp:Nat)(U:Ba)(cu:Nat)(w:Bb)(u0:Tm)(h:nN (.mk k n ks) xs=some u0)(hcp:xs.length<=cp)(hM:aG ks<=1000000)(hr:Rd w A 0 ks)(hi:RdI w P xs)(hru:Rd w U 0 us){kp np:Int}{ps:List Tm}(hp:kR (.mk k n ks) xs (.mk ku nu us) = .mk kp np ps) :
  Calls prog 135 #[.agg (Ro k n A ks.length c),.slice P xs.length cp,.agg (Ro ku nu U us.length cu)] w λe w'=>∃B d,e = .returned (.agg (Ro kp np B ps.length d))/\ps.length<=9223372036854775807/\Rd w' B 0 ps/\Bw w w':=by
 refine (aFb (·<w.heap.size) ku nu us hus xs k n ks A c P cp U cu w u0 h hcp hM hr.rdp hi hru.rdp (λb hb=>hb)).mono ?_;rw [hp];rintro e w' hgo;obtain ⟨B,d,rfl,hl,hr',hb⟩:=aJg hgo;exact ⟨B,d,rfl,hl,hr'.rd,hb⟩
theorem tI (k n:Int)(ks:List Tm)(A:Ba)(c:Nat)(xs:List Int)(P:Ba)(cp:Nat)(w:Bb){ku nu:Int}{us:List Tm}(hv:aE (.mk k n ks)=true)(hx:xs.length<=1000)(hcp:xs.length<=cp)(hat:nN (.mk k n ks) xs=some (.mk ku nu us))(hxu:rdx ku us≠0)(hr:Rd w A 0 ks)(hp:RdI w P xs) :
  Calls prog 109 #[.agg (Ro k n A ks.length c),.slice P xs.length cp] w (pF w (pB (.mk k n ks) xs)):=by
 have hz:=aH hv;have hlen:=aJ ks;have hvu:=qE hat hv;have hvu':=aD hvu;have hat':=aD hat
 have hxu':=aD hxu;have hzu:=aH hvu;cases hc:vH (.mk ku nu us) with
 | none=>
  have hz2:pB (.mk k n ks) xs=none:=by rw [pB,hat];simp only [hc]
  rw [hz2];have hc':=aD hc;clear hz2 hc hat hvu hxu hv;go_enter func109,ntmps109;go_wp2_with (first
   | (go_at_call 133;have _t:=tok1;refine (mP ku nu us A2 c2 _ hvu'.out hxu'.out rU).mono ?_;rw [hc'.out];intro e w2 hgo;obtain ⟨rfl,hb2⟩:=dS hgo;have hZ2:=hZ1.keep hb2;have g2:=g1.trans (hb2.mono g1.size);obtain ⟨d0,d1,d2,e0,e1,e2,lz⟩:=dN hZ2;have n1:w.heap.size+1≠w2.heap.size:=Ac)
   | (go_at_call 134;refine (aBo k n ks A c xs P cp _ Ac Ac ((hr.alloc _).alloc _) ((hp.alloc _).alloc _) hat'.out).mono ?_;rintro e w1 ⟨k',n',ks',A2,c2,hu,rfl,hl2,hr2,hb1⟩;injection hu with x1 x2 x3;subst x1 x2 x3;have hZ1:Blk w1 (w.heap.size+1) Zr:=(aC _ 32 _ Ag).keep hb1;have g1:Bw w w1:=bN bw2 hb1;have rU:=hr2.below hb1;have tok1:=trivial))
  have y:=λ(o:Obj)=>(((((hZ2.set_ 0 (.int .i64 0)).set_ 1 (.int .i64 0)).set_ 2 (.slice none 0 0)).alloc o:Blk _ _ Zr)).three
  refine bodyPost_ret (v:=.tuple #[fX,.bool false]) (by simp [results,results109,go_sem,y,fX]) rfl ⟨rfl,?_⟩;exact (bV g2).alloc (by simp [World.setCell];exact g2.size) _
 | some v=>
  obtain ⟨kv,nv,vs⟩:=v;have hvv:=aHd hc;have hzv:=aH hvv;obtain ⟨kp,np,ps,hput⟩:∃kp np ps,kR (.mk k n ks) xs (.mk kv nv vs) = .mk kp np ps:=by cases kR (.mk k n ks) xs (.mk kv nv vs) with|mk a b c=>exact ⟨a,b,c,rfl⟩
  have hzp:aG ps<=1000:=by
   have:=aAf hat (u:=.mk kv nv vs);rw [hput] at this;simp only [Tm.size] at this;omega
  have hz2:pB (.mk k n ks) xs=vO (.mk kp np ps):=by rw [pB,hat];simp only [hc,hput]
  rw [hz2];have hc':=aD hc;have hput':=aD hput;clear hz2 hc hat hvu hxu hv hput hvv;have hlp:=aJ ps;cases hvp:aE (.mk kp np ps) with
  | false=>
   have hz3:vO (.mk kp np ps)=none:=by rw [vO,hvp];rfl
   rw [hz3];have hvp':=aD hvp;clear hz3 hvp;go_enter func109,ntmps109;go_wp2_with (first
    | (go_at_call 84;have _t:=tok4;refine (zP kp np ps A8 c8 _ Ac hf8.rd hvp'.out).mono ?_;rintro e w9 ⟨rfl,hb9⟩;have hZ9:=hZ8.keep hb9;have g9:=g8.trans (hb9.mono g8.size);obtain ⟨d0,d1,d2,e0,e1,e2⟩:=bZ hZ9)
    | (go_at_call 63;have _t:=tok3;refine (jW 10000 kp np ps A7 c7 _ Ac Ac r7).mono ?_;rintro e w8 ⟨A8,c8,rfl,hl8,hf8,hb8⟩;have hZ8:=hZ7.keep hb8;have g8:=g7.trans (hb8.mono g7.size);have tok4:=trivial)
    | (go_at_call 135;have _t:=tok2;refine (zK kv nv vs Ac xs k n ks A c P cp A3 c3 _ (.mk ku nu us) hat'.out hcp Ac ((hr.below g2).alloc _) ((hp.below g2).alloc _) (r3.alloc _) hput'.out).mono ?_;rintro e w7 ⟨A7,c7,rfl,hl7,r7,hb7⟩;have hZ7:=(hZ2.alloc (.cells (Ro kv nv A3 vs.length c3) 32)).keep hb7;have g7:=(g2.alloc g2.size (.cells (Ro kv nv A3 vs.length c3) 32)).trans (hb7.mono (by have:=g2.size;simp;omega));have tok3:=trivial)
    | (go_at_call 133;have _t:=tok1;refine (mP ku nu us A2 c2 _ hvu'.out hxu'.out rU).mono ?_;rw [hc'.out];intro e w2 hgo;obtain ⟨A3,c3,rfl,hl3,hf3,hb2⟩:=cS hgo;have hZ2:=hZ1.keep hb2;have hX2:=hX1.keep hb2;have g2:=g1.trans (hb2.mono g1.size);have r3:=hf3.rd;obtain ⟨x0,x1,x2⟩:=hX2.three;have lx:=hX2.lt;have tok2:=trivial)
    | (go_at_call 134;refine (aBo k n ks A c xs P cp _ Ac Ac ((hr.alloc _).alloc _) ((hp.alloc _).alloc _) hat'.out).mono ?_;rintro e w1 ⟨k',n',ks',A2,c2,hu,rfl,hl2,hr2,hb1⟩;injection hu with y1 y2 y3;subst y1 y2 y3;have hX1:Blk w1 w.heap.size (Ro k n A ks.length c):=((aC _ 32 _ rfl).alloc _).keep hb1;have hZ1:Blk w1 (w.heap.size+1) Zr:=(aC _ 32 _ Ag).keep hb1;have g1:Bw w w1:=bN bw2 hb1;have rU:=hr2.below hb1;have tok1:=trivial))
   refine bodyPost_ret (v:=.tuple #[fX,.bool false]) (by simp [results,results109,go_sem,d0,d1,d2,fX]) rfl ⟨rfl,?_⟩;exact bV g9
  | true=>
   have hz3:vO (.mk kp np ps)=some (.mk kp np ps):=by rw [vO,hvp];rfl
   rw [hz3];have hvp':=aD hvp;clear hz3 hvp;go_enter func109,ntmps109;go_wp2_with (first
    | (go_at_call 84;have _t:=tok4;refine (iO kp np ps A8 c8 _ Ac hf8.rd hvp'.out).mono ?_;rintro e w9 ⟨rfl,hb9⟩;have hZ9:=hZ8.keep hb9;have g9:=g8.trans (hb9.mono g8.size);have hf9:=hf8.below hb9;obtain ⟨d0,d1,d2,e0,e1,e2⟩:=bZ hZ9)
    | (go_at_call 63;have _t:=tok3;refine (jW 10000 kp np ps A7 c7 _ Ac Ac r7).mono ?_;rintro e w8 ⟨A8,c8,rfl,hl8,hf8,hb8⟩;have hZ8:=hZ7.keep hb8;have g8:=g7.trans (hb8.mono g7.size);have tok4:=trivial)
    | (go_at_call 135;have _t:=tok2;refine (zK kv nv vs Ac xs k n ks A c P cp A3 c3 _ (.mk ku nu us) hat'.out hcp Ac ((hr.below g2).alloc _) ((hp.below g2).alloc _) (r3.alloc _) hput'.out).mono ?_;rintro e w7 ⟨A7,c7,rfl,hl7,r7,hb7⟩;have hZ7:=(hZ2.alloc (.cells (Ro kv nv A3 vs.length c3) 32)).keep hb7;have g7:=(g2.alloc g2.size (.cells (Ro kv nv A3 vs.length c3) 32)).trans (hb7.mono (by have:=g2.size;simp;omega));have tok3:=trivial)
    | (go_at_call 133;have _t:=tok1;refine (mP ku nu us A2 c2 _ hvu'.out hxu'.out rU).mono ?_;rw [hc'.out];intro e w2 hgo;obtain ⟨A3,c3,rfl,hl3,hf3,hb2⟩:=cS hgo;have hZ2:=hZ1.keep hb2;have hX2:=hX1.keep hb2;have g2:=g1.trans (hb2.mono g1.size);have r3:=hf3.rd;obtain ⟨x0,x1,x2⟩:=hX2.three;have lx:=hX2.lt;have tok2:=trivial)
    | (go_at_call 134;refine (aBo k n ks A c xs P cp _ Ac Ac ((hr.alloc _).alloc _) ((hp.alloc _).alloc _) hat'.out).mono ?_;rintro e w1 ⟨k',n',ks',A2,c2,hu,rfl,hl2,hr2,hb1⟩;injection hu with y1 y2 y3;subst y1 y2 y3;have hX1:Blk w1 w.heap.size (Ro k n A ks.length c):=((aC _ 32 _ rfl).alloc _).keep hb1;have hZ1:Blk w1 (w.heap.size+1) Zr:=(aC _ 32 _ Ag).keep hb1;have g1:Bw w w1:=bN bw2 hb1;have rU:=hr2.below hb1;have tok1:=trivial))
   have s7:=g7.size;have lz:=hZ8.lt;have lz1:=hZ1.lt;have s12:=hb2.size;have s27:=hb7.size;refine bodyPost_ret (v:=.tuple #[.agg (Ro kp np A8 ps.length c8),.bool true]) (by simp [results,results109,go_sem,d0,d1,d2]) rfl ⟨A8,c8,rfl,hl8,?_,?_⟩
   ·exact (((hf9.setCell (by simp at s27;simp;omega) _).setCell (by simp at s27;simp;omega) _).setCell (by simp at s27;simp;omega) _).mono s7
   ·exact bV g9
def HeadPost (o:Option (List Int))(d:Nat)(w:Bb)(e:Ending)(w':Bb):Prop:=
 ∃(A:Ba) (c:Nat) (xs:List Int),e = .returned (.tuple #[.slice A xs.length c,.bool o.isSome])/\xs.length<=d/\xs.length<=c/\PathX w' A xs/\(∀p,o=some p->xs=p)/\Bw w w'
theorem HeadPost.way {o:Option (List Int)}{d:Nat}{w:Bb}{e:Ending}{w':Bb}(h:HeadPost o d w e w'):WayPost o d w e w':=by
 obtain ⟨A,c,xs,he,h1,h2,h3,h4,h5⟩:=h;exact ⟨A,xs.length,c,he,h1,h2,λp hp=>by have:=h4 p hp;subst this;exact ⟨rfl,h3⟩,h5⟩
theorem aAd:∀{ts:List Tm} {i:Nat} (h:i<ts.length),mF i ts=cA ts[i]
 | [],_,h=>absurd h (Nat.not_lt_zero _)
 | t::ts,0,_=>by rw [mF];rfl
 | t::ts,i+1,h=>by rw [mF,aAd (by simpa using h)];simp
theorem nI {k n:Int}{ks:List Tm}{i:Nat}(hr:rdx k ks=0)(hm:bF k=i)(hi:i<ks.length):cA (.mk k n ks)=(cA ks[i]).map ((i:Int)::·):=by
 rw [cA,Av hr,hm,Aw Ac,Int.toNat_natCast,aAd hi]
theorem aLr {k n:Int}{ks:List Tm}(hr:rdx k ks=0)(hm:bF k<0):cA (.mk k n ks)=none:=by
 rw [cA,Av hr,Av hm]
theorem aHe {k n:Int}{ks:List Tm}(hr:rdx k ks≠0):cA (.mk k n ks)=some []:=by
 rw [cA,Aw hr]
def aAh (N:Nat):Prop:=∀(d:Nat) (k n:Int) (ks:List Tm) (A:Ba) (c:Nat) (w:Bb),d<=30->aG ks<N->shape d (.mk k n ks)=true->aG ks<=1099511627775->Rd w A 0 ks->
  Calls prog 86 #[.agg (Ro k n A ks.length c)] w (HeadPost (cA (.mk k n ks)) d w)
theorem aJu (d:Nat)(k n:Int)(ks:List Tm)(A:Ba)(c:Nat)(w:Bb)(ha:aX k=(ks.length:Int))(hM:aG ks<=1099511627775)(hr:Rd w A 0 ks)(hx:rdx k ks≠0) :
  Calls prog 86 #[.agg (Ro k n A ks.length c)] w (HeadPost (cA (.mk k n ks)) d w):=by
 have hlen:=aJ ks;have hne:(rdx k ks != 0)=true:=by simpa using hx
 rw [aHe hx];have ha':=aD ha;clear hx ha;go_enter func86,ntmps86;go_wp2_with (go_at_call 110;refine (cY k n ks A c _ Ac ha'.out (hr.alloc _)).mono ?_;rintro e w1 ⟨rfl,hb1⟩;replace hb1:=bw1.trans (hb1.mono Ag));go_ret2;exact ⟨none,0,[],rfl,by simp,by simp,PathX.nil,(λp hp=>by injection hp),hb1⟩
theorem aQb (d:Nat)(k n:Int)(ks:List Tm)(A:Ba)(c:Nat)(w:Bb)(ha:aX k=(ks.length:Int))(hM:aG ks<=1099511627775)(hr:Rd w A 0 ks)(hx:rdx k ks=0)(h5:k≠5)(h15:k≠15)(h16:k≠16)(h9:k≠9)(h12:k≠12) :
  Calls prog 86 #[.agg (Ro k n A ks.length c)] w (HeadPost (cA (.mk k n ks)) d w):=by
 have hlen:=aJ ks;rw [aLr hx (by rw [bF,Aw Ac,Aw h9,Aw h12];omega)];have q5:=jO h5;have q15:=jO h15;have q16:=jO h16;have q9:=jO h9;have q12:=jO h12;have ha':=aD ha;have hx':=aD hx;clear hx ha h5 h15 h16 h9 h12;go_enter func86,ntmps86;go_wp2_with (go_at_call 110;refine (cY k n ks A c _ Ac ha'.out (hr.alloc _)).mono ?_;rw [hx'.out];rintro e w1 ⟨rfl,hb1⟩;have hB1:=(aC w 32 (Ro k n A ks.length c) rfl).keep hb1;obtain ⟨p10,p11,p12⟩:=hB1.three;replace hb1:=bw1.trans (hb1.mono Ag));go_ret2;exact ⟨none,0,[],rfl,by simp,by simp,PathX.nil,(λp hp=>by cases hp),hb1⟩
theorem aUu {N:Nat}(ih:aAh N)(d:Nat)(n:Int)(ks:List Tm)(A:Ba)(c:Nat)(w:Bb)(hd:d+1<=30)(hN:aG ks<N+1)(hsh:shape (d+1) (.mk 5 n ks)=true)(hM:aG ks<=1099511627775)(hr:Rd w A 0 ks)(hx:rdx 5 ks=0) :
  Calls prog 86 #[.agg (Ro 5 n A ks.length c)] w (HeadPost (cA (.mk 5 n ks)) (d+1) w):=by
 obtain ⟨ha,hm1,hm2,hkids⟩:=(bH d 5 n ks).1 hsh;have hlen:ks.length=2:=by have:aX 5=2:=rfl;omega
 have hik:0<ks.length:=by omega
 rw [nI (i:=0) hx rfl hik];obtain ⟨b,off,k1,n1,ks1,A1,c1,rfl,hkj,i1,i2,i3,hl1,hr1⟩:=hr.at_ hik;have hsz:=cG (gM hik);have hs1:=hkids _ (gM hik);rw [hkj] at hsz hs1⊢;simp only [Tm.size] at hsz;have hRx:=aD (λ(w:Bb) (hr:Rd w (some ⟨b,off,none⟩) 0 ks)=>by have:=cY 5 n ks _ c w Ac ha hr;rwa [hlen,hx] at this);rw [hlen];generalize ho:cA (.mk k1 n1 ks1)=o;have ho':=aD ho;have hs1':=aD hs1;have ha':=aD ha;have hx':=aD hx;have hlen':=aD hlen;clear ho hs1 ha hx hkids hsh hm1 hm2 hkj;simp only [Nat.zero_mul,Nat.add_zero,Nat.one_mul,Nat.reduceMul] at i1 i2 i3;go_enter func86,ntmps86;go_wp2_with (first
  | (at_builtin;refine dO hp3 rfl Ac _ rfl _ _ rfl rfl rfl ?_;intro A4 c4 w4 hcc4 hp4 hb4)
  | (go_at_call 86;refine (ih d k1 n1 ks1 A1 c1 _ Ac Ac hs1'.out Ac (hr1.below hb1)).mono ?_;rw [ho'.out];rintro e w3 ⟨A3,c3,xs,rfl,hm3,hc3',hp3,hpe,hb3⟩;have hb4':=hb1.trans (hb3.mono hb1.size))
  | (go_at_call 110;refine (hRx.out _ (hr.alloc _)).mono ?_;rintro e w1 ⟨rfl,hb1⟩;have hB1:=(aC w 32 (Ro 5 n (some ⟨b,off,none⟩) 2 c) rfl).keep hb1;obtain ⟨p10,p11,p12⟩:=hB1.three;replace hb1:=bw1.trans (hb1.mono Ag);have y0:=(cM hb1) _ _ i1;have y1:=(cM hb1) _ _ i2;have y2:=(cM hb1) _ _ i3))
 go_ret2;refine ⟨A4,c4,(0:Int)::xs,by cases o<;>rfl,by simp;omega,hcc4,hp4,?_,hb4'.trans (hb4.mono hb4'.size)⟩;intro p hp;cases o with
 | none=>cases hp
 | some p1=>injection hp with hp;rw [<- hp,hpe p1 rfl];rfl
theorem aSs {N:Nat}(ih:aAh N)(d:Nat)(n:Int)(ks:List Tm)(A:Ba)(c:Nat)(w:Bb)(hd:d+1<=30)(hN:aG ks<N+1)(hsh:shape (d+1) (.mk 15 n ks)=true)(hM:aG ks<=1099511627775)(hr:Rd w A 0 ks)(hx:rdx 15 ks=0) :
  Calls prog 86 #[.agg (Ro 15 n A ks.length c)] w (HeadPost (cA (.mk 15 n ks)) (d+1) w):=by
 obtain ⟨ha,hm1,hm2,hkids⟩:=(bH d 15 n ks).1 hsh;have hlen:ks.length=1:=by have:aX 15=1:=rfl;omega
 have hik:0<ks.length:=by omega
 rw [nI (i:=0) hx rfl hik];obtain ⟨b,off,k1,n1,ks1,A1,c1,rfl,hkj,i1,i2,i3,hl1,hr1⟩:=hr.at_ hik;have hsz:=cG (gM hik);have hs1:=hkids _ (gM hik);rw [hkj] at hsz hs1⊢;simp only [Tm.size] at hsz;have hRx:=aD (λ(w:Bb) (hr:Rd w (some ⟨b,off,none⟩) 0 ks)=>by have:=cY 15 n ks _ c w Ac ha hr;rwa [hlen,hx] at this);rw [hlen];generalize ho:cA (.mk k1 n1 ks1)=o;have ho':=aD ho;have hs1':=aD hs1;have ha':=aD ha;have hx':=aD hx;have hlen':=aD hlen;clear ho hs1 ha hx hkids hsh hm1 hm2 hkj;simp only [Nat.zero_mul,Nat.add_zero,Nat.one_mul,Nat.reduceMul] at i1 i2 i3;go_enter func86,ntmps86;go_wp2_with (first
  | (at_builtin;refine dO hp3 rfl Ac _ rfl _ _ rfl rfl rfl ?_;intro A4 c4 w4 hcc4 hp4 hb4)
  | (go_at_call 86;refine (ih d k1 n1 ks1 A1 c1 _ Ac Ac hs1'.out Ac (hr1.below hb1)).mono ?_;rw [ho'.out];rintro e w3 ⟨A3,c3,xs,rfl,hm3,hc3',hp3,hpe,hb3⟩;have hb4':=hb1.trans (hb3.mono hb1.size))
  | (go_at_call 110;refine (hRx.out _ (hr.alloc _)).mono ?_;rintro e w1 ⟨rfl,hb1⟩;have hB1:=(aC w 32 (Ro 15 n (some ⟨b,off,none⟩) 1 c) rfl).keep hb1;obtain ⟨p10,p11,p12⟩:=hB1.three;replace hb1:=bw1.trans (hb1.mono Ag);have y0:=(cM hb1) _ _ i1;have y1:=(cM hb1) _ _ i2;have y2:=(cM hb1) _ _ i3))
 go_ret2;refine ⟨A4,c4,(0:Int)::xs,by cases o<;>rfl,by simp;omega,hcc4,hp4,?_,hb4'.trans (hb4.mono hb4'.size)⟩;intro p hp;cases o with
 | none=>cases hp
 | some p1=>injection hp with hp;rw [<- hp,hpe p1 rfl];rfl
theorem aQz {N:Nat}(ih:aAh N)(d:Nat)(n:Int)(ks:List Tm)(A:Ba)(c:Nat)(w:Bb)(hd:d+1<=30)(hN:aG ks<N+1)(hsh:shape (d+1) (.mk 16 n ks)=true)(hM:aG ks<=1099511627775)(hr:Rd w A 0 ks)(hx:rdx 16 ks=0) :
  Calls prog 86 #[.agg (Ro 16 n A ks.length c)] w (HeadPost (cA (.mk 16 n ks)) (d+1) w):=by
 obtain ⟨ha,hm1,hm2,hkids⟩:=(bH d 16 n ks).1 hsh;have hlen:ks.length=1:=by have:aX 16=1:=rfl;omega
 have hik:0<ks.length:=by omega
 rw [nI (i:=0) hx rfl hik];obtain ⟨b,off,k1,n1,ks1,A1,c1,rfl,hkj,i1,i2,i3,hl1,hr1⟩:=hr.at_ hik;have hsz:=cG (gM hik);have hs1:=hkids _ (gM hik);rw [hkj] at hsz hs1⊢;simp only [Tm.size] at hsz;have hRx:=aD (λ(w:Bb) (hr:Rd w (some ⟨b,off,none⟩) 0 ks)=>by have:=cY 16 n ks _ c w Ac ha hr;rwa [hlen,hx] at this);rw [hlen];generalize ho:cA (.mk k1 n1 ks1)=o;have ho':=aD ho;have hs1':=aD hs1;have ha':=aD ha;have hx':=aD hx;have hlen':=aD hlen;clear ho hs1 ha hx hkids hsh hm1 hm2 hkj;simp only [Nat.zero_mul,Nat.add_zero,Nat.one_mul,Nat.reduceMul] at i1 i2 i3;go_enter func86,ntmps86;go_wp2_with (first
  | (at_builtin;refine dO hp3 rfl Ac _ rfl _ _ rfl rfl rfl ?_;intro A4 c4 w4 hcc4 hp4 hb4)
  | (go_at_call 86;refine (ih d k1 n1 ks1 A1 c1 _ Ac Ac hs1'.out Ac (hr1.below hb1)).mono ?_;rw [ho'.out];rintro e w3 ⟨A3,c3,xs,rfl,hm3,hc3',hp3,hpe,hb3⟩;have hb4':=hb1.trans (hb3.mono hb1.size))
  | (go_at_call 110;refine (hRx.out _ (hr.alloc _)).mono ?_;rintro e w1 ⟨rfl,hb1⟩;have hB1:=(aC w 32 (Ro 16 n (some ⟨b,off,none⟩) 1 c) rfl).keep hb1;obtain ⟨p10,p11,p12⟩:=hB1.three;replace hb1:=bw1.trans (hb1.mono Ag);have y0:=(cM hb1) _ _ i1;have y1:=(cM hb1) _ _ i2;have y2:=(cM hb1) _ _ i3))
 go_ret2;refine ⟨A4,c4,(0:Int)::xs,by cases o<;>rfl,by simp;omega,hcc4,hp4,?_,hb4'.trans (hb4.mono hb4'.size)⟩;intro p hp;cases o with
 | none=>cases hp
 | some p1=>injection hp with hp;rw [<- hp,hpe p1 rfl];rfl
theorem aVr {N:Nat}(ih:aAh N)(d:Nat)(n:Int)(ks:List Tm)(A:Ba)(c:Nat)(w:Bb)(hd:d+1<=30)(hN:aG ks<N+1)(hsh:shape (d+1) (.mk 9 n ks)=true)(hM:aG ks<=1099511627775)(hr:Rd w A 0 ks)(hx:rdx 9 ks=0) :
  Calls prog 86 #[.agg (Ro 9 n A ks.length c)] w (HeadPost (cA (.mk 9 n ks)) (d+1) w):=by
 obtain ⟨ha,hm1,hm2,hkids⟩:=(bH d 9 n ks).1 hsh;have hlen:ks.length=4:=by have:aX 9=4:=rfl;omega
 have hik:3<ks.length:=by omega
 rw [nI (i:=3) hx rfl hik];obtain ⟨b,off,k1,n1,ks1,A1,c1,rfl,hkj,i1,i2,i3,hl1,hr1⟩:=hr.at_ hik;have hsz:=cG (gM hik);have hs1:=hkids _ (gM hik);rw [hkj] at hsz hs1⊢;simp only [Tm.size] at hsz;have hRx:=aD (λ(w:Bb) (hr:Rd w (some ⟨b,off,none⟩) 0 ks)=>by have:=cY 9 n ks _ c w Ac ha hr;rwa [hlen,hx] at this);rw [hlen];generalize ho:cA (.mk k1 n1 ks1)=o;have ho':=aD ho;have hs1':=aD hs1;have ha':=aD ha;have hx':=aD hx;have hlen':=aD hlen;clear ho hs1 ha hx hkids hsh hm1 hm2 hkj;simp only [Nat.zero_mul,Nat.add_zero,Nat.one_mul,Nat.reduceMul] at i1 i2 i3;go_enter func86,ntmps86;go_wp2_with (first
  | (at_builtin;refine dO hp3 rfl Ac _ rfl _ _ rfl rfl rfl ?_;intro A4 c4 w4 hcc4 hp4 hb4)
  | (go_at_call 86;refine (ih d k1 n1 ks1 A1 c1 _ Ac Ac hs1'.out Ac (hr1.below hb1)).mono ?_;rw [ho'.out];rintro e w3 ⟨A3,c3,xs,rfl,hm3,hc3',hp3,hpe,hb3⟩;have hb4':=hb1.trans (hb3.mono hb1.size))
  | (go_at_call 110;refine (hRx.out _ (hr.alloc _)).mono ?_;rintro e w1 ⟨rfl,hb1⟩;have hB1:=(aC w 32 (Ro 9 n (some ⟨b,off,none⟩) 4 c) rfl).keep hb1;obtain ⟨p10,p11,p12⟩:=hB1.three;replace hb1:=bw1.trans (hb1.mono Ag);have y0:=(cM hb1) _ _ i1;have y1:=(cM hb1) _ _ i2;have y2:=(cM hb1) _ _ i3))
 go_ret2;refine ⟨A4,c4,(3:Int)::xs,by cases o<;>rfl,by simp;omega,hcc4,hp4,?_,hb4'.trans (hb4.mono hb4'.size)⟩;intro p hp;cases o with
 | none=>cases hp
 | some p1=>injection hp with hp;rw [<- hp,hpe p1 rfl];rfl
theorem aRq {N:Nat}(ih:aAh N)(d:Nat)(n:Int)(ks:List Tm)(A:Ba)(c:Nat)(w:Bb)(hd:d+1<=30)(hN:aG ks<N+1)(hsh:shape (d+1) (.mk 12 n ks)=true)(hM:aG ks<=1099511627775)(hr:Rd w A 0 ks)(hx:rdx 12 ks=0) :
  Calls prog 86 #[.agg (Ro 12 n A ks.length c)] w (HeadPost (cA (.mk 12 n ks)) (d+1) w):=by
 obtain ⟨ha,hm1,hm2,hkids⟩:=(bH d 12 n ks).1 hsh;have hlen:ks.length=3:=by have:aX 12=3:=rfl;omega
 have hik:1<ks.length:=by omega
 rw [nI (i:=1) hx rfl hik];obtain ⟨b,off,k1,n1,ks1,A1,c1,rfl,hkj,i1,i2,i3,hl1,hr1⟩:=hr.at_ hik;have hsz:=cG (gM hik);have hs1:=hkids _ (gM hik);rw [hkj] at hsz hs1⊢;simp only [Tm.size] at hsz;have hRx:=aD (λ(w:Bb) (hr:Rd w (some ⟨b,off,none⟩) 0 ks)=>by have:=cY 12 n ks _ c w Ac ha hr;rwa [hlen,hx] at this);rw [hlen];generalize ho:cA (.mk k1 n1 ks1)=o;have ho':=aD ho;have hs1':=aD hs1;have ha':=aD ha;have hx':=aD hx;have hlen':=aD hlen;clear ho hs1 ha hx hkids hsh hm1 hm2 hkj;simp only [Nat.zero_mul,Nat.add_zero,Nat.one_mul,Nat.reduceMul] at i1 i2 i3;go_enter func86,ntmps86;go_wp2_with (first
  | (at_builtin;refine dO hp3 rfl Ac _ rfl _ _ rfl rfl rfl ?_;intro A4 c4 w4 hcc4 hp4 hb4)
  | (go_at_call 86;refine (ih d k1 n1 ks1 A1 c1 _ Ac Ac hs1'.out Ac (hr1.below hb1)).mono ?_;rw [ho'.out];rintro e w3 ⟨A3,c3,xs,rfl,hm3,hc3',hp3,hpe,hb3⟩;have hb4':=hb1.trans (hb3.mono hb1.size))
  | (go_at_call 110;refine (hRx.out _ (hr.alloc _)).mono ?_;rintro e w1 ⟨rfl,hb1⟩;have hB1:=(aC w 32 (Ro 12 n (some ⟨b,off,none⟩) 3 c) rfl).keep hb1;obtain ⟨p10,p11,p12⟩:=hB1.three;replace hb1:=bw1.trans (hb1.mono Ag);have y0:=(cM hb1) _ _ i1;have y1:=(cM hb1) _ _ i2;have y2:=(cM hb1) _ _ i3))
 go_ret2;refine ⟨A4,c4,(1:Int)::xs,by cases o<;>rfl,by simp;omega,hcc4,hp4,?_,hb4'.trans (hb4.mono hb4'.size)⟩;intro p hp;cases o with
 | none=>cases hp
 | some p1=>injection hp with hp;rw [<- hp,hpe p1 rfl];rfl
theorem aLu (N:Nat):aAh N:=by
 induction N with
 | zero=>intro d k n ks A c w _ hN;exact absurd hN (Nat.not_lt_zero _)
 | succ N ih=>
 intro d k n ks A c w hd hN hsh hM hr;obtain ⟨d,rfl⟩:∃d',d=d'+1:=by cases d with|zero=>simp [shape] at hsh|succ d=>exact ⟨d,rfl⟩
 have ha:=((bH d k n ks).1 hsh).1;by_cases hx:rdx k ks=0
 ·by_cases h5:k=5
  ·subst h5;exact aUu ih d n ks A c w hd hN hsh hM hr hx
  by_cases h15:k=15
  ·subst h15;exact aSs ih d n ks A c w hd hN hsh hM hr hx
  by_cases h16:k=16
  ·subst h16;exact aQz ih d n ks A c w hd hN hsh hM hr hx
  by_cases h9:k=9
  ·subst h9;exact aVr ih d n ks A c w hd hN hsh hM hr hx
  by_cases h12:k=12
  ·subst h12;exact aRq ih d n ks A c w hd hN hsh hM hr hx
  exact aQb (d+1) k n ks A c w ha hM hr hx h5 h15 h16 h9 h12
 ·exact aJu (d+1) k n ks A c w ha hM hr hx
theorem qH (N:Nat)(d:Nat)(k n:Int)(ks:List Tm)(A:Ba)(c:Nat)(w:Bb)(hd:d<=30)(hN:aG ks<N)(hsh:shape d (.mk k n ks)=true)(hM:aG ks<=1099511627775)(hr:Rd w A 0 ks) :
  Calls prog 86 #[.agg (Ro k n A ks.length c)] w (WayPost (cA (.mk k n ks)) d w):=
 (aLu N d k n ks A c w hd hN hsh hM hr).mono λe w' h=>h.way
theorem zT {find:Tm->Option (List Int)}{f:Nat}{t:Tm}(h:find t=none):redI find f t=(some t,0):=by rw [redI.eq_def];simp only [h]
theorem aAb {find:Tm->Option (List Int)}{t:Tm}{p:List Int}(h:find t=some p):redI find 0 t=(none,1):=by rw [redI.eq_def];simp only [h]
theorem wZ {find:Tm->Option (List Int)}{f:Nat}{t:Tm}{p:List Int}(h:find t=some p)(h2:pB t p=none):redI find (f+1) t=(none,2):=by rw [redI.eq_def];simp only [h,h2]
theorem aAz {find:Tm->Option (List Int)}{f:Nat}{t t':Tm}{p:List Int}(h:find t=some p)(h2:pB t p=some t'):redI find (f+1) t=redI find f t':=by rw [redI.eq_def];simp only [h,h2]
def aTm (w:Bb)(r:Option Tm × Int)(e:Ending)(w':Bb):Prop:=
 ∃(k n:Int) (ks:List Tm) (A:Ba) (c:Nat) (st:Int),r.1.getD (.mk 0 0 []) = .mk k n ks/\e = .returned (.tuple #[.agg (Ro k n A ks.length c),.int .i64 st,.int .i64 r.2])/\ks.length<=9223372036854775807/\RdP (λb=>w.heap.size<=b) w' A 0 ks/\Bw w w'
def aUz (w:Bb)(r:Option Tm × Int)(e:Ending)(w':Bb):Prop:=
 ∃(k n:Int) (ks:List Tm) (A:Ba) (c:Nat),r.1.getD (.mk 0 0 []) = .mk k n ks/\e = .returned (.tuple #[.agg (Ro k n A ks.length c),.int .i64 r.2])/\ks.length<=9223372036854775807/\RdP (λb=>w.heap.size<=b) w' A 0 ks/\Bw w w'
theorem Fresh.rd' {B:Nat}{w:Bb}{A:Ba}{ks:List Tm}(h:Fresh B w A ks):RdP (λb=>B<=b) w A 0 ks:=h.rdp.mono λb hb=>hb.1
theorem aCn (k n:Int)(ks:List Tm)(A:Ba)(c:Nat)(fuel:Nat)(w:Bb)(hv:aE (.mk k n ks)=true)(hf:fuel<=200)(hr:Rd w A 0 ks) :
  Calls prog 85 #[.agg (Ro k n A ks.length c),.int .i64 fuel,.func (.func 112) #[] #[]] w (aTm w (redI eT fuel (.mk k n ks))):=by
 have hz:=aH hv;have hv':=aD hv;have hF:∀(args:Array Value) (w:Bb),(callFunc 112 args).run prog w = .ok (.enter 112 args) w:=fS func112 (by kernel_rfl) (by kernel_rfl);have q1:decide ((fuel:Int)<=200)=true:=decide_eq_true Ac;clear hv;go_enter func85,ntmps85;go_wp2_with (first
  | (go_at_call 36;refine (dM _ _ _ _).mono ?_;rintro e w9 ⟨rfl,rfl⟩)
  | (go_at_call 58;refine (bB k n ks A c _ Ac ((hr.alloc _).alloc _)).mono ?_;rw [hv'.out];rintro e w1 ⟨rfl,hb1⟩;have hT1:Blk w1 w.heap.size (Ro k n A ks.length c):=((aC _ 32 _ rfl).alloc _).keep hb1;have hZ1:Blk w1 (w.heap.size+1) Zr:=(aC _ 32 _ Ag).keep hb1;have g1:Bw w w1:=bN bw2 hb1;have r1:=((hr.alloc (.cells (Ro k n A ks.length c) 32)).alloc (.cells Zr 32)).below hb1))
 go_loopw [9] (λi wr=>∃(j:Nat) (kj nj:Int) (ksj:List Tm) (Aj:Ba) (cj:Nat),j<=fuel/\i = .int .i64 j/\Hid (redI eT (fuel - j) (.mk kj nj ksj)=redI eT fuel (.mk k n ks))/\Hid (aE (.mk kj nj ksj)=true)/\Rd wr Aj 0 ksj/\Blk wr w.heap.size (Ro kj nj Aj ksj.length cj)/\Blk wr (w.heap.size+1) Zr/\Bw w wr)
  (λi _ => fuel - (intOf i).toNat)
 case atStart=>exact ⟨0,k,n,ks,A,c,Nat.zero_le _,rfl,aD rfl,hv',r1,hT1,hZ1,g1⟩
 case round=>
  obtain ⟨j,kj,nj,ksj,Aj,cj,hj,rfl,hred,hvj,hrj,hT,hZ,hb⟩:=hrel;have hzj:=aH hvj.out;obtain ⟨y0,y1,y2⟩:=hT.three;cases hfind:eT (.mk kj nj ksj) with
  | none=>
   have hfo:=aD hfind;have hres:redI eT fuel (.mk k n ks)=(some (.mk kj nj ksj),0):=by rw [<- hred.out,zT hfind]
   rw [hres];clear hres hfind;go_wp2_with (first
    | (go_at_call 63;have _t:=tok1;refine (jW 10000 kj nj ksj Aj cj _ Ac Ac r1).mono ?_;rintro e w2 ⟨A2,c2,rfl,hl2,hf2,hb2⟩;have hZ2:=hZ1.keep hb2;have g2:=g1.trans (hb2.mono g1.size);obtain ⟨d0,d1,d2,e0,e1,e2⟩:=bZ hZ2)
    | (go_at_call 112;refine (tA (aG ksj+1) 30 kj nj ksj Aj cj _ Ac Ac (bC hvj.out) Ac hrj).mono ?_;rw [hfo.out];intro e w1 hp1;obtain ⟨A1,m1,c1,rfl,hb1⟩:=hp1.none_;have hT1:=hT.keep hb1;have hZ1:=hZ.keep hb1;have g1:=hb.trans (hb1.mono hb.size);have r1:=hrj.below hb1;obtain ⟨x0,x1,x2⟩:=hT1.three;have tok1:=trivial))
   have lz:=hZ1.lt;refine bodyPost_ret (v:=.tuple #[.agg (Ro kj nj A2 ksj.length c2),.int .i64 j,.int .i64 0]) (by simp [results,results85,go_sem,d0,d1,d2]) rfl ⟨kj,nj,ksj,A2,c2,j,rfl,rfl,hl2,?_,?_⟩
   ·exact ((((hf2.rd'.setCell Ai _).setCell Ai _).setCell Ai _)).mono (λb hb=>Nat.le_trans g1.size hb)
   ·exact bV g2
  | some p=>
   obtain ⟨ku,nu,us,hat,hxu⟩:=aQh _ _ hfind;have hfo:=aD hfind;have hat':=aD hat
   have hxu':=aD hxu;by_cases hjf:j=fuel
   ·subst hjf;have hres:redI eT j (.mk k n ks)=(none,1):=by rw [<- hred.out,Nat.sub_self,aAb hfind]
    rw [hres];clear hres hfind hat hxu;go_wp2_with (go_at_call 112;refine (tA (aG ksj+1) 30 kj nj ksj Aj cj _ Ac Ac (bC hvj.out) Ac hrj).mono ?_;rw [hfo.out];intro e w1 hp1;obtain ⟨A1,m1,c1,rfl,hm1,hmc1,hme,hpx,hb1⟩:=hp1.some_;have hT1:=hT.keep hb1;have hZ1:=hZ.keep hb1;have g1:=hb.trans (hb1.mono hb.size);have r1:=hrj.below hb1;have ri:=hpx.rdi;subst hme;obtain ⟨x0,x1,x2⟩:=hT1.three;have tok1:=trivial;obtain ⟨d0,d1,d2,e0,e1,e2⟩:=bZ hZ1);refine bodyPost_ret (v:=.tuple #[.agg Zr,.int .i64 j,.int .i64 1]) (by simp [results,results85,go_sem,d0,d1,d2]) rfl ⟨0,0,[],none,0,j,rfl,rfl,by simp,RdP.nil,?_⟩;exact bV g1
   ·have hjlt:j<fuel:=by omega
    have hq:((j:Int)==(fuel:Int))=false:=by simp;omega
    obtain ⟨f,hfe⟩:∃f,fuel - j=f+1:=⟨fuel - j - 1,by omega⟩;cases hct:pB (.mk kj nj ksj) p with
    | none=>
     have hres:redI eT fuel (.mk k n ks)=(none,2):=by rw [<- hred.out,hfe,wZ hfind hct]
     rw [hres];have hct':=aD hct;clear hres hfind hat hxu hct;go_wp2_with (first
      | (go_at_call 109;have _t:=tok1;refine (tI kj nj ksj Aj cj p A1 c1 _ hvj.out Ac hmc1 hat'.out hxu'.out r1 ri).mono ?_;rw [hct'.out];intro e w2 hgo;obtain ⟨rfl,hb2⟩:=dS hgo;have hZ2:=hZ1.keep hb2;have g2:=g1.trans (hb2.mono g1.size);obtain ⟨d0,d1,d2,e0,e1,e2,lz⟩:=dN hZ2;have n1:w.heap.size+1≠w2.heap.size:=Ac)
      | (go_at_call 112;refine (tA (aG ksj+1) 30 kj nj ksj Aj cj _ Ac Ac (bC hvj.out) Ac hrj).mono ?_;rw [hfo.out];intro e w1 hp1;obtain ⟨A1,m1,c1,rfl,hm1,hmc1,hme,hpx,hb1⟩:=hp1.some_;have hT1:=hT.keep hb1;have hZ1:=hZ.keep hb1;have g1:=hb.trans (hb1.mono hb.size);have r1:=hrj.below hb1;have ri:=hpx.rdi;subst hme;obtain ⟨x0,x1,x2⟩:=hT1.three;have tok1:=trivial))
     have y:=λ(o:Obj)=>(((((hZ2.set_ 0 (.int .i64 0)).set_ 1 (.int .i64 0)).set_ 2 (.slice none 0 0)).alloc o:Blk _ _ Zr)).three
     refine bodyPost_ret (v:=.tuple #[.agg Zr,.int .i64 j,.int .i64 2]) (by simp [results,results85,go_sem,y]) rfl ⟨0,0,[],none,0,j,rfl,rfl,by simp,RdP.nil,?_⟩;exact (bV g2).alloc (by simp [World.setCell];exact g2.size) _
    | some t'=>
     obtain ⟨kt,nt,kst⟩:=t';have hvt:=aD (rR hct);have hres:=aD (show redI eT (fuel - (j+1)) (.mk kt nt kst)=redI eT fuel (.mk k n ks) by rw [<- hred.out,hfe,aAz hfind hct];congr 1;omega);have hct':=aD hct;clear hfind hat hxu hct;go_wp2_with (first
      | (go_at_call 109;have _t:=tok1;refine (tI kj nj ksj Aj cj p A1 c1 _ hvj.out Ac hmc1 hat'.out hxu'.out r1 ri).mono ?_;rw [hct'.out];intro e w2 hgo;obtain ⟨A2,c2,rfl,hl2,hf2,hb2⟩:=cS hgo;have hT2:=hT1.keep hb2;have hZ2:=hZ1.keep hb2;have g2:=g1.trans (hb2.mono g1.size);obtain ⟨e0,e1,e2⟩:=bkf hT2;obtain ⟨d0,d1,d2⟩:=hT2.three;have lz:=hT2.lt)
      | (go_at_call 112;refine (tA (aG ksj+1) 30 kj nj ksj Aj cj _ Ac Ac (bC hvj.out) Ac hrj).mono ?_;rw [hfo.out];intro e w1 hp1;obtain ⟨A1,m1,c1,rfl,hm1,hmc1,hme,hpx,hb1⟩:=hp1.some_;have hT1:=hT.keep hb1;have hZ1:=hZ.keep hb1;have g1:=hb.trans (hb1.mono hb.size);have r1:=hrj.below hb1;have ri:=hpx.rdi;subst hme;obtain ⟨x0,x1,x2⟩:=hT1.three;have tok1:=trivial))
     have lt1:=hT1.lt;go_roundw
     case rel=>
      refine ⟨j+1,kt,nt,kst,A2,c2,by omega,by go_num,hres,hvt,?_,(((hT2.set_ 0 _).set_ 1 _).set_ 2 _).alloc _,(((hZ2.far Ag _).far Ag _).far Ag _).alloc _,(bV g2).alloc (by simp [World.setCell];exact g2.size) _⟩;exact ((((hf2.rd'.setCell Ai _).setCell Ai _).setCell Ai _).alloc _).rd
     case measure=>simp [intOf];omega
theorem aAi (k n:Int)(ks:List Tm)(A:Ba)(c:Nat)(fuel:Nat)(w:Bb)(hv:aE (.mk k n ks)=true)(hf:fuel<=200)(hr:Rd w A 0 ks) :
  Calls prog 88 #[.agg (Ro k n A ks.length c),.int .i64 fuel] w (aUz w (redI eT fuel (.mk k n ks))):=by
 generalize hre:redI eT fuel (.mk k n ks)=re;have hR:=aD (λ(w:Bb) (hr:Rd w A 0 ks)=>by have:=aCn k n ks A c fuel w hv hf hr;rwa [hre] at this);clear hre hv;go_enter func88,ntmps88;go_wp2_with (go_at_call 85;refine (hR.out _ ((hr.alloc _).alloc _)).mono ?_;rintro e w1 ⟨k1,n1',ks1,A1,c1,st,hk1,rfl,hl1,r1,hb1⟩;have hZ1:Blk w1 (w.heap.size+1) Zr:=(aC _ 32 _ Ag).keep hb1;have g1:Bw w w1:=bN bw2 hb1;obtain ⟨d0,d1,d2,e0,e1,e2,lz⟩:=dN hZ1;have n1:w.heap.size+1≠w1.heap.size:=Ac);have y:=λ(o:Obj)=>(((((hZ1.set_ 0 (.int .i64 k1)).set_ 1 (.int .i64 n1')).set_ 2 (.slice A1 ks1.length c1)).alloc o:Blk _ _ (Ro k1 n1' A1 ks1.length c1))).three
 refine bodyPost_ret (v:=.tuple #[.agg (Ro k1 n1' A1 ks1.length c1),.int .i64 re.2]) (by simp [results,results88,go_sem,y]) rfl ⟨k1,n1',ks1,A1,c1,hk1,rfl,hl1,?_,?_⟩
 ·exact ((((r1.setCell Ag _).setCell Ag _).setCell Ag _).alloc _).mono (λb hb=>by simp at hb;omega)
 ·exact (bV g1).alloc (by simp [World.setCell];exact g1.size) _
theorem yN (k n:Int)(ks:List Tm)(A:Ba)(c:Nat)(fuel:Nat)(w:Bb)(hv:aE (.mk k n ks)=true)(hf:fuel<=200)(hr:Rd w A 0 ks) :
  Calls prog 85 #[.agg (Ro k n A ks.length c),.int .i64 fuel,.func (.func 86) #[] #[]] w (aTm w (redI cA fuel (.mk k n ks))):=by
 have hz:=aH hv;have hv':=aD hv;have hF:∀(args:Array Value) (w:Bb),(callFunc 86 args).run prog w = .ok (.enter 86 args) w:=fS func86 (by kernel_rfl) (by kernel_rfl);have q1:decide ((fuel:Int)<=200)=true:=decide_eq_true Ac;clear hv;go_enter func85,ntmps85;go_wp2_with (first
  | (go_at_call 36;refine (dM _ _ _ _).mono ?_;rintro e w9 ⟨rfl,rfl⟩)
  | (go_at_call 58;refine (bB k n ks A c _ Ac ((hr.alloc _).alloc _)).mono ?_;rw [hv'.out];rintro e w1 ⟨rfl,hb1⟩;have hT1:Blk w1 w.heap.size (Ro k n A ks.length c):=((aC _ 32 _ rfl).alloc _).keep hb1;have hZ1:Blk w1 (w.heap.size+1) Zr:=(aC _ 32 _ Ag).keep hb1;have g1:Bw w w1:=bN bw2 hb1;have r1:=((hr.alloc (.cells (Ro k n A ks.length c) 32)).alloc (.cells Zr 32)).below hb1))
 go_loopw [9] (λi wr=>∃(j:Nat) (kj nj:Int) (ksj:List Tm) (Aj:Ba) (cj:Nat),j<=fuel/\i = .int .i64 j/\Hid (redI cA (fuel - j) (.mk kj nj ksj)=redI cA fuel (.mk k n ks))/\Hid (aE (.mk kj nj ksj)=true)/\Rd wr Aj 0 ksj/\Blk wr w.heap.size (Ro kj nj Aj ksj.length cj)/\Blk wr (w.heap.size+1) Zr/\Bw w wr)
  (λi _ => fuel - (intOf i).toNat)
 case atStart=>exact ⟨0,k,n,ks,A,c,Nat.zero_le _,rfl,aD rfl,hv',r1,hT1,hZ1,g1⟩
 case round=>
  obtain ⟨j,kj,nj,ksj,Aj,cj,hj,rfl,hred,hvj,hrj,hT,hZ,hb⟩:=hrel;have hzj:=aH hvj.out;obtain ⟨y0,y1,y2⟩:=hT.three;cases hfind:cA (.mk kj nj ksj) with
  | none=>
   have hfo:=aD hfind;have hres:redI cA fuel (.mk k n ks)=(some (.mk kj nj ksj),0):=by rw [<- hred.out,zT hfind]
   rw [hres];clear hres hfind;go_wp2_with (first
    | (go_at_call 63;have _t:=tok1;refine (jW 10000 kj nj ksj Aj cj _ Ac Ac r1).mono ?_;rintro e w2 ⟨A2,c2,rfl,hl2,hf2,hb2⟩;have hZ2:=hZ1.keep hb2;have g2:=g1.trans (hb2.mono g1.size);obtain ⟨d0,d1,d2,e0,e1,e2⟩:=bZ hZ2)
    | (go_at_call 86;refine (qH (aG ksj+1) 30 kj nj ksj Aj cj _ Ac Ac (bC hvj.out) Ac hrj).mono ?_;rw [hfo.out];intro e w1 hp1;obtain ⟨A1,m1,c1,rfl,hb1⟩:=hp1.none_;have hT1:=hT.keep hb1;have hZ1:=hZ.keep hb1;have g1:=hb.trans (hb1.mono hb.size);have r1:=hrj.below hb1;obtain ⟨x0,x1,x2⟩:=hT1.three;have tok1:=trivial))
   have lz:=hZ1.lt;refine bodyPost_ret (v:=.tuple #[.agg (Ro kj nj A2 ksj.length c2),.int .i64 j,.int .i64 0]) (by simp [results,results85,go_sem,d0,d1,d2]) rfl ⟨kj,nj,ksj,A2,c2,j,rfl,rfl,hl2,?_,?_⟩
   ·exact ((((hf2.rd'.setCell Ai _).setCell Ai _).setCell Ai _)).mono (λb hb=>Nat.le_trans g1.size hb)
   ·exact bV g2
  | some p=>
   obtain ⟨ku,nu,us,hat,hxu⟩:=aKc _ _ hfind;have hfo:=aD hfind;have hat':=aD hat
   have hxu':=aD hxu;by_cases hjf:j=fuel
   ·subst hjf;have hres:redI cA j (.mk k n ks)=(none,1):=by rw [<- hred.out,Nat.sub_self,aAb hfind]
    rw [hres];clear hres hfind hat hxu;go_wp2_with (go_at_call 86;refine (qH (aG ksj+1) 30 kj nj ksj Aj cj _ Ac Ac (bC hvj.out) Ac hrj).mono ?_;rw [hfo.out];intro e w1 hp1;obtain ⟨A1,m1,c1,rfl,hm1,hmc1,hme,hpx,hb1⟩:=hp1.some_;have hT1:=hT.keep hb1;have hZ1:=hZ.keep hb1;have g1:=hb.trans (hb1.mono hb.size);have r1:=hrj.below hb1;have ri:=hpx.rdi;subst hme;obtain ⟨x0,x1,x2⟩:=hT1.three;have tok1:=trivial;obtain ⟨d0,d1,d2,e0,e1,e2⟩:=bZ hZ1);refine bodyPost_ret (v:=.tuple #[.agg Zr,.int .i64 j,.int .i64 1]) (by simp [results,results85,go_sem,d0,d1,d2]) rfl ⟨0,0,[],none,0,j,rfl,rfl,by simp,RdP.nil,?_⟩;exact bV g1
   ·have hjlt:j<fuel:=by omega
    have hq:((j:Int)==(fuel:Int))=false:=by simp;omega
    obtain ⟨f,hfe⟩:∃f,fuel - j=f+1:=⟨fuel - j - 1,by omega⟩;cases hct:pB (.mk kj nj ksj) p with
    | none=>
     have hres:redI cA fuel (.mk k n ks)=(none,2):=by rw [<- hred.out,hfe,wZ hfind hct]
     rw [hres];have hct':=aD hct;clear hres hfind hat hxu hct;go_wp2_with (first
      | (go_at_call 109;have _t:=tok1;refine (tI kj nj ksj Aj cj p A1 c1 _ hvj.out Ac hmc1 hat'.out hxu'.out r1 ri).mono ?_;rw [hct'.out];intro e w2 hgo;obtain ⟨rfl,hb2⟩:=dS hgo;have hZ2:=hZ1.keep hb2;have g2:=g1.trans (hb2.mono g1.size);obtain ⟨d0,d1,d2,e0,e1,e2,lz⟩:=dN hZ2;have n1:w.heap.size+1≠w2.heap.size:=Ac)
      | (go_at_call 86;refine (qH (aG ksj+1) 30 kj nj ksj Aj cj _ Ac Ac (bC hvj.out) Ac hrj).mono ?_;rw [hfo.out];intro e w1 hp1;obtain ⟨A1,m1,c1,rfl,hm1,hmc1,hme,hpx,hb1⟩:=hp1.some_;have hT1:=hT.keep hb1;have hZ1:=hZ.keep hb1;have g1:=hb.trans (hb1.mono hb.size);have r1:=hrj.below hb1;have ri:=hpx.rdi;subst hme;obtain ⟨x0,x1,x2⟩:=hT1.three;have tok1:=trivial))
     have y:=λ(o:Obj)=>(((((hZ2.set_ 0 (.int .i64 0)).set_ 1 (.int .i64 0)).set_ 2 (.slice none 0 0)).alloc o:Blk _ _ Zr)).three
     refine bodyPost_ret (v:=.tuple #[.agg Zr,.int .i64 j,.int .i64 2]) (by simp [results,results85,go_sem,y]) rfl ⟨0,0,[],none,0,j,rfl,rfl,by simp,RdP.nil,?_⟩;exact (bV g2).alloc (by simp [World.setCell];exact g2.size) _
    | some t'=>
     obtain ⟨kt,nt,kst⟩:=t';have hvt:=aD (rR hct);have hres:=aD (show redI cA (fuel - (j+1)) (.mk kt nt kst)=redI cA fuel (.mk k n ks) by rw [<- hred.out,hfe,aAz hfind hct];congr 1;omega);have hct':=aD hct;clear hfind hat hxu hct;go_wp2_with (first
      | (go_at_call 109;have _t:=tok1;refine (tI kj nj ksj Aj cj p A1 c1 _ hvj.out Ac hmc1 hat'.out hxu'.out r1 ri).mono ?_;rw [hct'.out];intro e w2 hgo;obtain ⟨A2,c2,rfl,hl2,hf2,hb2⟩:=cS hgo;have hT2:=hT1.keep hb2;have hZ2:=hZ1.keep hb2;have g2:=g1.trans (hb2.mono g1.size);obtain ⟨e0,e1,e2⟩:=bkf hT2;obtain ⟨d0,d1,d2⟩:=hT2.three;have lz:=hT2.lt)
      | (go_at_call 86;refine (qH (aG ksj+1) 30 kj nj ksj Aj cj _ Ac Ac (bC hvj.out) Ac hrj).mono ?_;rw [hfo.out];intro e w1 hp1;obtain ⟨A1,m1,c1,rfl,hm1,hmc1,hme,hpx,hb1⟩:=hp1.some_;have hT1:=hT.keep hb1;have hZ1:=hZ.keep hb1;have g1:=hb.trans (hb1.mono hb.size);have r1:=hrj.below hb1;have ri:=hpx.rdi;subst hme;obtain ⟨x0,x1,x2⟩:=hT1.three;have tok1:=trivial))
     have lt1:=hT1.lt;go_roundw
     case rel=>
      refine ⟨j+1,kt,nt,kst,A2,c2,by omega,by go_num,hres,hvt,?_,(((hT2.set_ 0 _).set_ 1 _).set_ 2 _).alloc _,(((hZ2.far Ag _).far Ag _).far Ag _).alloc _,(bV g2).alloc (by simp [World.setCell];exact g2.size) _⟩;exact ((((hf2.rd'.setCell Ai _).setCell Ai _).setCell Ai _).alloc _).rd
     case measure=>simp [intOf];omega
theorem iF (k n:Int)(ks:List Tm)(A:Ba)(c:Nat)(fuel:Nat)(w:Bb)(hv:aE (.mk k n ks)=true)(hf:fuel<=200)(hr:Rd w A 0 ks) :
  Calls prog 51 #[.agg (Ro k n A ks.length c),.int .i64 fuel] w (aUz w (redI cA fuel (.mk k n ks))):=by
 generalize hre:redI cA fuel (.mk k n ks)=re;have hR:=aD (λ(w:Bb) (hr:Rd w A 0 ks)=>by have:=yN k n ks A c fuel w hv hf hr;rwa [hre] at this);clear hre hv;go_enter func51,ntmps51;go_wp2_with (go_at_call 85;refine (hR.out _ ((hr.alloc _).alloc _)).mono ?_;rintro e w1 ⟨k1,n1',ks1,A1,c1,st,hk1,rfl,hl1,r1,hb1⟩;have hZ1:Blk w1 (w.heap.size+1) Zr:=(aC _ 32 _ Ag).keep hb1;have g1:Bw w w1:=bN bw2 hb1;obtain ⟨d0,d1,d2,e0,e1,e2,lz⟩:=dN hZ1;have n1:w.heap.size+1≠w1.heap.size:=Ac);have y:=λ(o:Obj)=>(((((hZ1.set_ 0 (.int .i64 k1)).set_ 1 (.int .i64 n1')).set_ 2 (.slice A1 ks1.length c1)).alloc o:Blk _ _ (Ro k1 n1' A1 ks1.length c1))).three
 refine bodyPost_ret (v:=.tuple #[.agg (Ro k1 n1' A1 ks1.length c1),.int .i64 re.2]) (by simp [results,results51,go_sem,y]) rfl ⟨k1,n1',ks1,A1,c1,hk1,rfl,hl1,?_,?_⟩
 ·exact ((((r1.setCell Ag _).setCell Ag _).setCell Ag _).alloc _).mono (λb hb=>by simp at hb;omega)
 ·exact (bV g1).alloc (by simp [World.setCell];exact g1.size) _
end Go.Proofs.YtjlaenhcemacdaaGreat
