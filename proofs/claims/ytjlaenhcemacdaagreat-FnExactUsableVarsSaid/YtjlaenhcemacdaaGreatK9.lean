/- Parts of the proof. No condition. -/
import Derived.Test.YtjlaenhcemacdaaGreatK8
import Derived.Deep.DeepCutAuto
open Go.Proofs.Tryz
namespace Go.Proofs.YtjlaenhcemacdaaGreat
open Go.RowKit
set_option maxHeartbeats 8000000
set_option maxRecDepth 100000
set_option linter.unusedSimpArgs false
set_option linter.unusedVariables false
theorem cB {S:World→Prop}{K:Act→World→Prop}{Q:Exit→Act→World→Prop}{a:Act}{w:World}(h:∀wx,wx=w→qL S K Q .normal a wx):qL S K Q .normal a w:=h w rfl
def aSw (p:Nat→Prop)(w:World)(t:Tm)(e:Ending)(w':World):Prop:=
 ∃A c,e = .returned (.agg (Ro t.k t.n A t.ks.length c))∧t.ks.length≤9223372036854775807∧RdP (fun b=>p b∨w.heap.size≤b) w' A 0 t.ks∧Bw w w'
theorem aGj {p:Nat→Prop}{w:World}{k n:Int}{ks:List Tm}{e:Ending}{w':World}(h:aSw p w (.mk k n ks) e w'):∃A c,e = .returned (.agg (Ro k n A ks.length c))∧ks.length≤9223372036854775807∧RdP (fun b=>p b∨w.heap.size≤b) w' A 0 ks∧Bw w w':=h
theorem aIi {b off cp:Nat}{is:List Int}{x:Int}{w0:World}(hcp:is.length+1≤cp)(hi:RdI w0 (some ⟨b,off,none⟩) (x::is)) :
  ∃off',(∀w,(Instr.sliceAt 27 (.slice (some ⟨b,off,none⟩) (is.length+1) cp) (some (.int .i64 1)) none none).run prog w = .ok (.slice (some ⟨b,off',none⟩) is.length (cp - 1)) w)∧RdI w0 (some ⟨b,off',none⟩) is:=by
 have hu:prog.underlying 27=some (.slice (prog.elem 27)):=by kernel_rfl
 have he:prog.elem 27=3:=by kernel_rfl
 have hs:∀w,(sizeOf 3).run prog w = .ok 1 w:=fun w=>by kernel_rfl
 refine ⟨if cp=1 then off else off+1,fun w=>?_,fun j hj=>?_⟩
 ·rw [run_sliceAt_slice (t:=27) (h:=hu),run_slice_l (t:=27) (ht:=hu) (h0:=by omega) (h1:=by omega),he,hs];simp only [Result.andThen,sliced]
  by_cases h:cp=1
  ·simp [h]
  ·simp [h,Addr.add]
 ·obtain ⟨b1,off1,hA,hc⟩:=hi (j+1) (by simpa using hj);injection hA with hA;injection hA with e1 e2;subst e1 e2;refine ⟨_,_,rfl,?_⟩;rw [if_neg (by omega)];rw [show off+1+j=off+(j+1) from by omega];simpa using hc
theorem aCn (p:Nat→Prop)(ku nu:Int)(us:List Tm)(hus:aG us≤1000000):∀(xs:List Int) (k n:Int) (ks:List Tm) (A:Option Addr) (c:Nat) (P:Option Addr) (cp:Nat) (U:Option Addr) (cu:Nat) (w:World) (u0:Tm),mK (.mk k n ks) xs=some u0→xs.length≤cp→aG ks≤1000000→RdP p w A 0 ks→RdI w P xs→RdP p w U 0 us→(∀b,p b→b<w.heap.size)→
  Calls prog 135 #[.agg (Ro k n A ks.length c),.slice P xs.length cp,.agg (Ro ku nu U us.length cu)] w (aSw p w (jV (.mk k n ks) xs (.mk ku nu us)))
 | [],k,n,ks,A,c,P,cp,U,cu,w,u0,h,hcp,hM,hr,hi,hru,hpw=>by
  have hlu:=aJ us;rw [jV];go_enter func135,ntmps135;go_wp2_with fail
  refine bodyPost_ret (v:=.agg (Ro ku nu U us.length cu)) (by simp [results,results135,go_sem]) rfl ⟨U,cu,rfl,by simp [Tm.ks];omega,?_,?_⟩
  ·exact (((hru.alloc _).alloc _).alloc _).mono (fun b h=>Or.inl h)
  ·exact bw3
 | x::is,k,n,ks,A,c,P,cp,U,cu,w,u0,h,hcp,hM,hr,hi,hru,hpw=>by
  have hlen:=aJ ks;have hlu:=aJ us;rw [mK] at h;split at h
  case isFalse=>cases h
  rename_i hh
  have hx2:x<ks.length:=hh.2;obtain ⟨i,rfl⟩:∃i:Nat,x=(i:Int):=⟨x.toNat,by omega⟩;have hik:i<ks.length:=by omega
  have h0:=aD h;clear h hh;obtain ⟨b3,o3,k3,n3,ks3,A3,c3,rfl,hkj,hc1,hc2,hc3,hl3,hr3⟩:=hr.at_ hik;have hsz:=cF (iC hik);rw [hkj] at hsz;simp only [Tm.size] at hsz
  have e3:ks.getD (i:Int).toNat default = .mk k3 n3 ks3:=by rw [Int.toNat_natCast,List.getD_eq_getElem?_getD,qR hik,Option.getD_some,hkj]
  have h1:mK (.mk k3 n3 ks3) is=some u0:=by have:=h0.out;rw [show (Tm.mk k n ks).kids=ks from rfl,e3] at this;exact this
  have h1':=aD h1;obtain ⟨b,off,rfl,hp0⟩:=hi 0 (by simp);obtain ⟨off',ht,hti⟩:=aIi (by simpa using hcp) hi;simp only [List.getElem_cons_zero,Nat.add_zero] at hp0
  obtain ⟨pk,pn,pks,hput⟩:∃pk pn pks,jV (.mk k3 n3 ks3) is (.mk ku nu us) = .mk pk pn pks:=by cases jV (.mk k3 n3 ks3) is (.mk ku nu us) with|mk a b c=>exact ⟨a,b,c,rfl⟩
  have hput':=aD hput;have hres:jV (.mk k n ks) ((i:Int)::is) (.mk ku nu us) = .mk k n (ks.set i (.mk pk pn pks)):=by rw [jV,e3,hput,Int.toNat_natCast]
  have hres':=aD hres;have hcp':is.length+1≤cp:=by simpa using hcp
  have q3:(((is.length:Nat):Int)+1==0)=false:=by simp;omega
  have q4:(0:Int)<((is.length:Nat):Int)+1:=by omega
  have hlk:(i:Int)<(ks.length:Int):=by omega
  clear h1 hput hres e3 hkj hx2;rw [List.length_cons];go_enter func135,ntmps135;go_wp2_with fail
  refine aBe (show Blk _ w.heap.size (Ro k n (some ⟨b3,o3,none⟩) ks.length c) from (((aC _ 32 _ rfl).alloc _).alloc _)) (show Blk _ (w.heap.size+1) (Ro ku nu U us.length cu) from ((aC _ 32 _ (by simp)).alloc _)) (show Blk _ (w.heap.size+1+1) Zr from (aC _ 32 _ (by simp))) bw3 ?_;intro wx h0x h1x h2x bx hwx;have lx:=h2x.lt;clear hwx;have rx:=hr.below bx;obtain ⟨g0,g1,g2⟩:=jR h0x;go_cut [7] (fun s7 wy=>∃(g7 g c7:Nat) (q:Nat→Prop),s7 = .pointer (some ⟨g7,0,none⟩)∧Blk wy g7 (Ro k n (some ⟨g,0,none⟩) ks.length c7)∧RowT q wy g ks∧¬q g∧(∀b,q b→p b∨wx.heap.size≤b)∧Bw wx wy∧wx.heap.size≤g7∧wx.heap.size≤g∧g≠g7)
  case first=>
   refine eT wx [7,9] [0,1,2,3,4,5] 10 4 (lT:=[_,_,_,_,_,_]) ?_;intro q0 bq0;refine bZ (aD ?_);refine nK 6 8 ?_ ?_
   ·have swq1:=bq0.size;go_wp2_with (go_at_call 94;refine (mX p ks _ c _ (by omega) (rx.below bq0) (fun b hb=>by have:=hpw b hb;omega)).mono ?_;rintro e q1 ⟨A7,c7,rfl,hPq1,hbq1⟩;obtain ⟨g,rfl,-,hBg,hgl,hRq1⟩:=hPq1.rowS (by omega))
    refine aX bq0 hbq1 ?_;intro bq1 lq1;refine fB [7] 2 (lT:=[_]) ?_;refine bZ (aD ?_);refine bB 8 ?_
    ·have szq2:=bq1.size;go_wp2_with fail
     refine cB ?_;intro q2 hn;have bq2:Bw wx q2:=by rw [hn];exact bq1.alloc szq2 _
     have zq2:Blk q2 q1.heap.size Zr:=by rw [hn];exact aC _ 32 _ rfl
     have eq2:q2.heap.size=q1.heap.size+1:=by rw [hn];simp
     have kq2:Bw q1 q2:=by rw [hn];exact bw1
     have seq2:q1.heap.size<q2.heap.size:=by omega
     clear hn eq2;have Rq2:=hRq1.below kq2;refine aQ bq2 ?_;refine cP [9] (lB:=[_]) ?_;obtain ⟨d0,d1,d2,e0,e1,e2,szl⟩:=dJ zq2;have szb:wx.heap.size≤q1.heap.size:=by first|exact bq0.size|exact bq1.size
     have sxx:=bx.size;have hgb:wx.heap.size≤g:=by have:=bq0.size;omega
     have hgz:g≠q1.heap.size:=by omega
     have hnz:¬((p q1.heap.size∨q0.heap.size≤q1.heap.size)∧q1.heap.size<q1.heap.size∧q1.heap.size≠g):=by
      rintro ⟨h|h,h2,-⟩
      ·have:=hpw _ h;omega
      ·omega
     go_wp2_with fail
     go_meet
     exact ⟨q1.heap.size,g,c7,_,rfl,((zq2.set_ 0 _).set_ 1 _).set_ 2 _,((Rq2.setCell (a:=⟨q1.heap.size,0,none⟩) hnz hgz _).setCell (a:=⟨q1.heap.size,1,none⟩) hnz hgz _).setCell (a:=⟨q1.heap.size,2,none⟩) hnz hgz _,(fun h=>h.2.2 rfl),(fun b hb=>hb.1.imp id fun h=>Nat.le_trans (by have:=bq0.size;omega) h),(bP bq2),szb,hgb,hgz⟩
   ·have szq3:=bq0.size;go_wp2_with fail
    refine cB ?_;intro q3 hn;have bq3:Bw wx q3:=by rw [hn];exact bq0.alloc szq3 _
    have zq3:Blk q3 q0.heap.size Zr:=by rw [hn];exact aC _ 32 _ rfl
    have eq3:q3.heap.size=q0.heap.size+1:=by rw [hn];simp
    have kq3:Bw q0 q3:=by rw [hn];exact bw1
    have seq3:q0.heap.size<q3.heap.size:=by omega
    clear hn eq3;refine aQ bq3 ?_;refine bB 6 ?_
    ·have swq4:=bq3.size;have szzq4:=zq3.lt;go_wp2_with (go_at_call 94;refine (mX p ks _ c _ (by omega) (rx.below bq3) (fun b hb=>by have:=hpw b hb;omega)).mono ?_;rintro e q4 ⟨A7,c7,rfl,hPq4,hbq4⟩;obtain ⟨g,rfl,-,hBg,hgl,hRq4⟩:=hPq4.rowS (by omega))
     have zq4:=zq3.keep hbq4;refine aX bq3 hbq4 ?_;intro bq4 lq4;refine fB [7] 1 (lT:=[_]) ?_;refine bZ (aD ?_);refine cP [9] (lB:=[_]) ?_;obtain ⟨d0,d1,d2,e0,e1,e2,szl⟩:=dJ zq4;have szb:wx.heap.size≤q0.heap.size:=by first|exact bq0.size|exact bq0.size
     have sxx:=bx.size;have hgb:wx.heap.size≤g:=by have:=bq3.size;omega
     have hgz:g≠q0.heap.size:=by omega
     have hnz:¬((p q0.heap.size∨q3.heap.size≤q0.heap.size)∧q0.heap.size<q4.heap.size∧q0.heap.size≠g):=by
      rintro ⟨h|h,h2,-⟩
      ·have:=hpw _ h;omega
      ·omega
     go_wp2_with fail
     go_meet
     exact ⟨q0.heap.size,g,c7,_,rfl,((zq4.set_ 0 _).set_ 1 _).set_ 2 _,((hRq4.setCell (a:=⟨q0.heap.size,0,none⟩) hnz hgz _).setCell (a:=⟨q0.heap.size,1,none⟩) hnz hgz _).setCell (a:=⟨q0.heap.size,2,none⟩) hnz hgz _,(fun h=>h.2.2 rfl),(fun b hb=>hb.1.imp id fun h=>Nat.le_trans (by have:=bq3.size;omega) h),(bP bq4),szb,hgb,hgz⟩
  case rest=>
   obtain ⟨g7,g,c7,q,rfl,hT7,hRow,hqg,hqp,hxy,hg7,hg,hgne⟩:=hcut;clear g0 g1 g2;go_upto_region 4 with fail
   refine aW ?_;intro wy hwy;subst hwy;have sxy:=hxy.size;have by_:Bw w wy:=bx.trans (hxy.mono bx.size);have h0y:=h0x.keep hxy;have h1y:=h1x.keep hxy;have h2y:=h2x.keep hxy;have ruy:=hru.below by_;have r3y:=hr3.below by_;have hiy:=hti.below by_;obtain ⟨g0,g1,g2⟩:=jR h0y;obtain ⟨v0,v1,v2⟩:=jR h1y;have u0':=aF hT7.three.1;have u1':=aF hT7.three.2.1;have u2':=aF hT7.three.2.2;have y0:=aF ((cM by_) _ _ hc1);have y1:=aF ((cM by_) _ _ hc2);have y2:=aF ((cM by_) _ _ hc3);have p0:=aF ((cM by_) _ _ hp0);have htk:=aD (fun w=>ht w);clear hc1 hc2 hc3 hp0;refine bL (fun w'=>Bw wy w') [0,1,2,3,4,5,6,7,8,9,10,11,12,13,14] [15] [16,17] [_,_,_,_,_,_,_,_,_,_,_,_,_,_,_] [_] [_,_] (by kernel_rfl) (by kernel_rfl) rfl rfl rfl (fun _ _ d _ _ h=>by cases d<;>exact h) (eR _ _).drew ?_;refine bZ (aD ?_);refine bO ?_;clear g0 g1 g2 v0 v1 v2 y0 y1 y2 p0 ht u0' u1' u2';have lg7:=hT7.lt;have lg:=hRow.1.lt;go_wp2_with (go_at_call 135;refine (aCn p ku nu us hus is k3 n3 ks3 A3 c3 (some ⟨b,off',none⟩) (cp - 1) U cu wy.drew u0 h1'.out (by omega) (by omega) r3y.drew (hiy.below (eR _ _).drew) ruy.drew (fun b hb=>by have:=hpw b hb;show b<wy.heap.size;omega)).mono ?_;rw [hput'.out];intro e w1 hgo;obtain ⟨A1,c1,rfl,hl1,hq1,hb1⟩:=aGj hgo;have b1:Bw wy w1:=(eR _ _).drew.trans hb1)
   refine aQ b1 (dL ?_);have s1:=b1.size;have hT7a:=hT7.keep b1;have h2a:=h2y.keep b1;have hRow1:=hRow.below b1;obtain ⟨a0,ha0⟩:=hRow1.1.cell (j:=i*3) (by omega);obtain ⟨a1,ha1⟩:=hRow1.1.cell (j:=i*3+1) (by omega);obtain ⟨a2,ha2⟩:=hRow1.1.cell (j:=i*3+2) (by omega);have z0:=hRow1.1.frozen (i*3);have z1:=hRow1.1.frozen (i*3+1);have z2:=hRow1.1.frozen (i*3+2);have q1:¬(fun b=>p b∨wy.heap.size≤b) g:=by rintro (h|h);have:=hpw _ h;have:=bx.size;omega;omega
   have hfin:=hRow1.1.set hqg hik (cu:=c1) hl1 hq1 q1 (r:=fun b=>p b∨wx.heap.size≤b) (fun b hb=>hqp b hb) (fun b hb=>hb.imp id fun h=>Nat.le_trans sxy h) (.inr hg) (ku:=pk) (nu:=pn);obtain ⟨t0,t1,t2⟩:=hT7a.three;obtain ⟨d0,d1,d2,e0,e1,e2⟩:=bW h2a;have sx0:=bx.size;have n1:g≠w.heap.size+1+1:=by omega
   have n2:g7≠w.heap.size+1+1:=by omega
   go_wp2_with fail
   have hnr:∀o,¬(fun b=>p b∨wx.heap.size≤b) (⟨w.heap.size+1+1,o,none⟩:Addr).block:=by
    rintro o (h|h)
    ·have:=hpw _ h;simp at this;omega
    ·simp at h;omega
   refine bodyPost_ret (v:=.agg (Ro k n (some ⟨g,0,none⟩) ks.length c7)) (by simp [results,results135,go_sem,d0,d1,d2,n1,n2]) rfl ?_;rw [hres'.out];refine ⟨some ⟨g,0,none⟩,c7,by simp [Tm.ks,Tm.k,Tm.n],by simp [Tm.ks];omega,?_,?_⟩
   ·exact (((hfin.setCell (hnr 0) _).setCell (hnr 1) _).setCell (hnr 2) _).mono (fun b h=>h.imp id fun h=>by omega)
   ·have hbb:=by_.trans (b1.mono by_.size);exact (((((hbb.setCell (by simp;omega) _).setCell (by simp;omega) _).setCell (by simp;omega) _).setCell (by simp;omega) _).setCell (by simp;omega) _).setCell (by simp;omega) _
theorem aP (k:Int)(v:Value)(hv:∃A l c,v = .slice A l c)(w:World):Calls prog 71 #[.int .i64 k,v] w fun e w'=>e = .returned (.agg #[.int .i64 k,.int .i64 0,v])∧Bw w w':=by
 obtain ⟨A,l,c,rfl⟩:=hv;go_enter func71,ntmps71;go_wp2
 refine bodyPost_ret (v:=.agg (Ro k 0 A l c)) (by simp [results,results71,go_sem]) rfl ⟨rfl,?_⟩;exact bw1
theorem aZ {t:Tm}(h:aE t=true):shape 30 t=true:=by simp only [aE,Bool.and_eq_true] at h;exact h.1
theorem bG {k n:Int}{ks:List Tm}(h:aE (.mk k n ks)=true):aU k=(ks.length:Int)∧0≤n∧n≤dG k:=by
 have:=(bF 29 k n ks).1 (aZ h);exact ⟨this.1,this.2.1,this.2.2.1⟩
theorem lH {α:Type}:∀{l:List α},l.length=1→∃a,l=[a]
 | [a],_=>⟨a,rfl⟩
theorem jY {α:Type}:∀{l:List α},l.length=2→∃a b,l=[a,b]
 | [a,b],_=>⟨a,b,rfl⟩
theorem gG {α:Type}:∀{l:List α},l.length=3→∃a b c,l=[a,b,c]
 | [a,b,c],_=>⟨a,b,c,rfl⟩
theorem uT {α:Type}:∀{l:List α},l.length=4→∃a b c d,l=[a,b,c,d]
 | [a,b,c,d],_=>⟨a,b,c,d,rfl⟩
theorem aGc {k:Int}{ks:List Tm}(h:rdx k ks≠0) :
  (rdx k ks = 1 ∧ k = 5 ∧ fZ ks 0 = 4) ∨ (rdx k ks = 2 ∧ k = 9 ∧ fZ ks 3 = 7) ∨ (rdx k ks = 3 ∧ k = 9 ∧ fZ ks 3 = 8) ∨ (rdx k ks = 4 ∧ k = 12 ∧ fZ ks 1 = 11) ∨ (rdx k ks = 5 ∧ k = 15 ∧ fZ ks 0 = 14) ∨ (rdx k ks = 6 ∧ k = 16 ∧ fZ ks 0 = 14) := by
 unfold rdx at h⊢
 by_cases h5:k=5
 ·rw [if_pos h5] at h⊢;by_cases h4:fZ ks 0=4
  ·exact .inl ⟨by rw [if_pos h4],h5,h4⟩
  ·rw [if_neg h4] at h;exact absurd rfl h
 rw [if_neg h5] at h⊢;by_cases h9:k=9
 ·rw [if_pos h9] at h⊢;by_cases h7:fZ ks 3=7
  ·exact .inr (.inl ⟨by rw [if_pos h7],h9,h7⟩)
  ·rw [if_neg h7] at h⊢;by_cases h8:fZ ks 3=8
   ·exact .inr (.inr (.inl ⟨by rw [if_pos h8],h9,h8⟩))
   ·rw [if_neg h8] at h;exact absurd rfl h
 rw [if_neg h9] at h⊢;by_cases h12:k=12
 ·rw [if_pos h12] at h⊢;by_cases h4:fZ ks 1=11
  ·exact .inr (.inr (.inr (.inl ⟨by rw [if_pos h4],h12,h4⟩)))
  ·rw [if_neg h4] at h;exact absurd rfl h
 rw [if_neg h12] at h⊢;by_cases h15:k=15
 ·rw [if_pos h15] at h⊢;by_cases h4:fZ ks 0=14
  ·exact .inr (.inr (.inr (.inr (.inl ⟨by rw [if_pos h4],h15,h4⟩))))
  ·rw [if_neg h4] at h;exact absurd rfl h
 rw [if_neg h15] at h⊢;by_cases h16:k=16
 ·rw [if_pos h16] at h⊢;by_cases h4:fZ ks 0=14
  ·exact .inr (.inr (.inr (.inr (.inr ⟨by rw [if_pos h4],h16,h4⟩))))
  ·rw [if_neg h4] at h;exact absurd rfl h
 rw [if_neg h16] at h;exact absurd rfl h
section
variable {w:World}{g:Nat}{k0 n0 k1 n1 k2 n2 k3 n3:Int}{s0 s1 s2 s3:List Tm}{A0 A1 A2 A3:Option Addr}{c0 c1 c2 c3:Nat}
theorem aAx (hB:Blk w g (Ro k0 n0 A0 s0.length c0))(l0:s0.length≤9223372036854775807)(r0:Rd w A0 0 s0):Rd w (some ⟨g,0,none⟩) 0 [.mk k0 n0 s0]:=
 Rd.cons_iff.2 ⟨⟨g,0,rfl,RdC.iff.2 ⟨hB.at_ (i:=0) rfl,hB.at_ (i:=1) rfl,A0,c0,hB.at_ (i:=2) rfl,l0,r0⟩⟩,Rd.nil⟩
theorem dP (hB:Blk w g #[.int .i64 k0,.int .i64 n0,.slice A0 s0.length c0,.int .i64 k1,.int .i64 n1,.slice A1 s1.length c1])(l0:s0.length≤9223372036854775807)(l1:s1.length≤9223372036854775807)(r0:Rd w A0 0 s0)(r1:Rd w A1 0 s1):Rd w (some ⟨g,0,none⟩) 0 [.mk k0 n0 s0,.mk k1 n1 s1]:=
 Rd.cons_iff.2 ⟨⟨g,0,rfl,RdC.iff.2 ⟨hB.at_ (i:=0) rfl,hB.at_ (i:=1) rfl,A0,c0,hB.at_ (i:=2) rfl,l0,r0⟩⟩,
  Rd.cons_iff.2 ⟨⟨g,0,rfl,RdC.iff.2 ⟨hB.at_ (i:=3) rfl,hB.at_ (i:=4) rfl,A1,c1,hB.at_ (i:=5) rfl,l1,r1⟩⟩,Rd.nil⟩⟩
theorem aNb (hB:Blk w g #[.int .i64 k0,.int .i64 n0,.slice A0 s0.length c0,.int .i64 k1,.int .i64 n1,.slice A1 s1.length c1,.int .i64 k2,.int .i64 n2,.slice A2 s2.length c2])(l0:s0.length≤9223372036854775807)(l1:s1.length≤9223372036854775807)(l2:s2.length≤9223372036854775807)(r0:Rd w A0 0 s0)(r1:Rd w A1 0 s1)(r2:Rd w A2 0 s2):Rd w (some ⟨g,0,none⟩) 0 [.mk k0 n0 s0,.mk k1 n1 s1,.mk k2 n2 s2]:=
 Rd.cons_iff.2 ⟨⟨g,0,rfl,RdC.iff.2 ⟨hB.at_ (i:=0) rfl,hB.at_ (i:=1) rfl,A0,c0,hB.at_ (i:=2) rfl,l0,r0⟩⟩,
  Rd.cons_iff.2 ⟨⟨g,0,rfl,RdC.iff.2 ⟨hB.at_ (i:=3) rfl,hB.at_ (i:=4) rfl,A1,c1,hB.at_ (i:=5) rfl,l1,r1⟩⟩,
  Rd.cons_iff.2 ⟨⟨g,0,rfl,RdC.iff.2 ⟨hB.at_ (i:=6) rfl,hB.at_ (i:=7) rfl,A2,c2,hB.at_ (i:=8) rfl,l2,r2⟩⟩,Rd.nil⟩⟩⟩
theorem uB (hB:Blk w g #[.int .i64 k0,.int .i64 n0,.slice A0 s0.length c0,.int .i64 k1,.int .i64 n1,.slice A1 s1.length c1,.int .i64 k2,.int .i64 n2,.slice A2 s2.length c2,.int .i64 k3,.int .i64 n3,.slice A3 s3.length c3])(l0:s0.length≤9223372036854775807)(l1:s1.length≤9223372036854775807)(l2:s2.length≤9223372036854775807)(l3:s3.length≤9223372036854775807)(r0:Rd w A0 0 s0)(r1:Rd w A1 0 s1)(r2:Rd w A2 0 s2)(r3:Rd w A3 0 s3):Rd w (some ⟨g,0,none⟩) 0 [.mk k0 n0 s0,.mk k1 n1 s1,.mk k2 n2 s2,.mk k3 n3 s3]:=
 Rd.cons_iff.2 ⟨⟨g,0,rfl,RdC.iff.2 ⟨hB.at_ (i:=0) rfl,hB.at_ (i:=1) rfl,A0,c0,hB.at_ (i:=2) rfl,l0,r0⟩⟩,
  Rd.cons_iff.2 ⟨⟨g,0,rfl,RdC.iff.2 ⟨hB.at_ (i:=3) rfl,hB.at_ (i:=4) rfl,A1,c1,hB.at_ (i:=5) rfl,l1,r1⟩⟩,
  Rd.cons_iff.2 ⟨⟨g,0,rfl,RdC.iff.2 ⟨hB.at_ (i:=6) rfl,hB.at_ (i:=7) rfl,A2,c2,hB.at_ (i:=8) rfl,l2,r2⟩⟩,
  Rd.cons_iff.2 ⟨⟨g,0,rfl,RdC.iff.2 ⟨hB.at_ (i:=9) rfl,hB.at_ (i:=10) rfl,A3,c3,hB.at_ (i:=11) rfl,l3,r3⟩⟩,Rd.nil⟩⟩⟩⟩
end
section
variable {P:Program}{ops:Array Oper}{Q:Exit→Act→World→Prop}{S:World→Prop}{B:List Nat}
theorem rS {i j m:Nat}{l:Array Bool}{a:Act}{w:World}{f:Nat}{o o2 o3:Oper}(hr:Region.ready .any ops l=[i,j,m])(ho:ops[i]?=some o)(ho2:ops[j]?=some o2)(ho3:ops[m]?=some o3)
  (h : wpList P ops (qL S (gC P ops Q S B f (l.setIfInBounds i true)) Q) [o] a w) (h2 : wpList P ops (qL S (gC P ops Q S B f (l.setIfInBounds j true)) Q) [o2] a w) (h3 : wpList P ops (qL S (gC P ops Q S B f (l.setIfInBounds m true)) Q) [o3] a w) : gC P ops Q S B (f + 1) l a w := by
 refine aAk (by rw [hr];simp) fun i' hi o' ho'=>?_
 rw [hr] at hi;simp only [List.mem_cons,List.not_mem_nil,or_false] at hi
 rcases hi with rfl|rfl|rfl
 ·rw [ho] at ho';injection ho' with ho';subst ho';exact h
 ·rw [ho2] at ho';injection ho' with ho';subst ho';exact h2
 ·rw [ho3] at ho';injection ho' with ho';subst ho';exact h3
theorem aOb {i j m q:Nat}{l:Array Bool}{a:Act}{w:World}{f:Nat}{o o2 o3 o4:Oper}(hr:Region.ready .any ops l=[i,j,m,q])(ho:ops[i]?=some o)(ho2:ops[j]?=some o2)(ho3:ops[m]?=some o3)(ho4:ops[q]?=some o4)
  (h : wpList P ops (qL S (gC P ops Q S B f (l.setIfInBounds i true)) Q) [o] a w) (h2 : wpList P ops (qL S (gC P ops Q S B f (l.setIfInBounds j true)) Q) [o2] a w) (h3 : wpList P ops (qL S (gC P ops Q S B f (l.setIfInBounds m true)) Q) [o3] a w) (h4 : wpList P ops (qL S (gC P ops Q S B f (l.setIfInBounds q true)) Q) [o4] a w) : gC P ops Q S B (f + 1) l a w := by
 refine aAk (by rw [hr];simp) fun i' hi o' ho'=>?_
 rw [hr] at hi;simp only [List.mem_cons,List.not_mem_nil,or_false] at hi
 rcases hi with rfl|rfl|rfl|rfl
 ·rw [ho] at ho';injection ho' with ho';subst ho';exact h
 ·rw [ho2] at ho';injection ho' with ho';subst ho';exact h2
 ·rw [ho3] at ho';injection ho' with ho';subst ho';exact h3
 ·rw [ho4] at ho';injection ho' with ho';subst ho';exact h4
end
end Go.Proofs.YtjlaenhcemacdaaGreat
