/- Parts of the proof. No condition. -/
import Derived.Test.YtddkehjdjfmhmaaGreatK15
import Derived.Deep.DeepCutAuto
open Go.Proofs.Tryz
namespace Go.Proofs.YtddkehjdjfmhmaaGreat
open Go.RowKit
set_option maxHeartbeats 16000000
set_option maxRecDepth 100000
set_option linter.unusedSimpArgs false
set_option linter.unusedVariables false
theorem eF {S:World→Prop}{K:Act→World→Prop}{Q:Exit→Act→World→Prop}{a:Act}{w:World}(h:∀wx,wx=w→nU S K Q .normal a wx):nU S K Q .normal a w:=h w rfl
def aSt (p:Nat→Prop)(w:World)(t:Tm)(e:Ending)(w':World):Prop:=
 ∃A c,e = .returned (.agg (Ro t.k t.n A t.ks.length c))∧t.ks.length≤9223372036854775807∧RdP (fun b=>p b∨w.heap.size≤b) w' A 0 t.ks∧Bw w w'
theorem aEr {p:Nat→Prop}{w:World}{k n:Int}{ks:List Tm}{e:Ending}{w':World}(h:aSt p w (.mk k n ks) e w'):∃A c,e = .returned (.agg (Ro k n A ks.length c))∧ks.length≤9223372036854775807∧RdP (fun b=>p b∨w.heap.size≤b) w' A 0 ks∧Bw w w':=h
theorem aGs {b off cp:Nat}{is:List Int}{x:Int}{w0:World}(hcp:is.length+1≤cp)(hi:RdI w0 (some ⟨b,off,none⟩) (x::is)) :
  ∃off',(∀w,(Instr.sliceAt 26 (.slice (some ⟨b,off,none⟩) (is.length+1) cp) (some (.int .i64 1)) none none).run prog w = .ok (.slice (some ⟨b,off',none⟩) is.length (cp - 1)) w)∧RdI w0 (some ⟨b,off',none⟩) is:=by
 have hu:prog.underlying 26=some (.slice (prog.elem 26)):=by kernel_rfl
 have he:prog.elem 26=3:=by kernel_rfl
 have hs:∀w,(sizeOf 3).run prog w = .ok 1 w:=fun w=>by kernel_rfl
 refine ⟨if cp=1 then off else off+1,fun w=>?_,fun j hj=>?_⟩
 ·rw [run_sliceAt_slice (t:=26) (h:=hu),run_slice_l (t:=26) (ht:=hu) (h0:=by omega) (h1:=by omega),he,hs];simp only [Result.andThen,sliced]
  by_cases h:cp=1
  ·simp [h]
  ·simp [h,Addr.add]
 ·obtain ⟨b1,off1,hA,hc⟩:=hi (j+1) (by simpa using hj);injection hA with hA;injection hA with e1 e2;subst e1 e2;refine ⟨_,_,rfl,?_⟩;rw [if_neg (by omega)];rw [show off+1+j=off+(j+1) from by omega];simpa using hc
theorem aAi (p:Nat→Prop)(ku nu:Int)(us:List Tm)(hus:aG us≤1000000):∀(xs:List Int) (k n:Int) (ks:List Tm) (A:Option Addr) (c:Nat) (P:Option Addr) (cp:Nat) (U:Option Addr) (cu:Nat) (w:World) (u0:Tm),eP (.mk k n ks) xs=some u0→xs.length≤cp→aG ks≤1000000→RdP p w A 0 ks→RdI w P xs→RdP p w U 0 us→(∀b,p b→b<w.heap.size)→
  Calls prog 126 #[.agg (Ro k n A ks.length c),.slice P xs.length cp,.agg (Ro ku nu U us.length cu)] w (aSt p w (iL (.mk k n ks) xs (.mk ku nu us)))
 | [],k,n,ks,A,c,P,cp,U,cu,w,u0,h,hcp,hM,hr,hi,hru,hpw=>by
  have hlu:=aJ us;rw [iL];go_enter func126,ntmps126;go_wp2_with fail
  refine bodyPost_ret (v:=.agg (Ro ku nu U us.length cu)) (by simp [results,results126,go_sem]) rfl ⟨U,cu,rfl,by simp [Tm.ks];omega,?_,?_⟩
  ·exact (((hru.alloc _).alloc _).alloc _).mono (fun b h=>Or.inl h)
  ·exact bw3
 | x::is,k,n,ks,A,c,P,cp,U,cu,w,u0,h,hcp,hM,hr,hi,hru,hpw=>by
  have hlen:=aJ ks;have hlu:=aJ us;rw [eP] at h;split at h
  case isFalse=>cases h
  rename_i hh
  have hx2:x<ks.length:=hh.2;obtain ⟨i,rfl⟩:∃i:Nat,x=(i:Int):=⟨x.toNat,by omega⟩;have hik:i<ks.length:=by omega
  have h0:=aD h;clear h hh;obtain ⟨b3,o3,k3,n3,ks3,A3,c3,rfl,hkj,hc1,hc2,hc3,hl3,hr3⟩:=hr.at_ hik;have hsz:=bY (fG hik);rw [hkj] at hsz;simp only [Tm.size] at hsz
  have e3:ks.getD (i:Int).toNat default = .mk k3 n3 ks3:=by rw [Int.toNat_natCast,List.getD_eq_getElem?_getD,iG hik,Option.getD_some,hkj]
  have h1:eP (.mk k3 n3 ks3) is=some u0:=by have:=h0.out;rw [show (Tm.mk k n ks).kids=ks from rfl,e3] at this;exact this
  have h1':=aD h1;obtain ⟨b,off,rfl,hp0⟩:=hi 0 (by simp);obtain ⟨off',ht,hti⟩:=aGs (by simpa using hcp) hi;simp only [List.getElem_cons_zero,Nat.add_zero] at hp0
  obtain ⟨pk,pn,pks,hput⟩:∃pk pn pks,iL (.mk k3 n3 ks3) is (.mk ku nu us) = .mk pk pn pks:=by cases iL (.mk k3 n3 ks3) is (.mk ku nu us) with|mk a b c=>exact ⟨a,b,c,rfl⟩
  have hput':=aD hput;have hres:iL (.mk k n ks) ((i:Int)::is) (.mk ku nu us) = .mk k n (ks.set i (.mk pk pn pks)):=by rw [iL,e3,hput,Int.toNat_natCast]
  have hres':=aD hres;have hcp':is.length+1≤cp:=by simpa using hcp
  have q3:(((is.length:Nat):Int)+1==0)=false:=by simp;omega
  have q4:(0:Int)<((is.length:Nat):Int)+1:=by omega
  have hlk:(i:Int)<(ks.length:Int):=by omega
  clear h1 hput hres e3 hkj hx2;rw [List.length_cons];go_enter func126,ntmps126;go_wp2_with fail
  refine pR (show Blk _ w.heap.size (Ro k n (some ⟨b3,o3,none⟩) ks.length c) from (((aC _ 25 _ rfl).alloc _).alloc _)) (show Blk _ (w.heap.size+1) (Ro ku nu U us.length cu) from ((aC _ 25 _ (by simp)).alloc _)) (show Blk _ (w.heap.size+1+1) Zr from (aC _ 25 _ (by simp))) bw3 ?_;intro wx h0x h1x h2x bx hwx;have lx:=h2x.lt;clear hwx;have rx:=hr.below bx;obtain ⟨g0,g1,g2⟩:=kZ h0x;go_cut [7] (fun s7 wy=>∃(g7 g c7:Nat) (q:Nat→Prop),s7 = .pointer (some ⟨g7,0,none⟩)∧Blk wy g7 (Ro k n (some ⟨g,0,none⟩) ks.length c7)∧RowT q wy g ks∧¬q g∧(∀b,q b→p b∨wx.heap.size≤b)∧Bw wx wy∧wx.heap.size≤g7∧wx.heap.size≤g∧g≠g7)
  case first=>
   refine fE wx [7,9] [0,1,2,3,4,5] 10 4 (lT:=[_,_,_,_,_,_]) ?_;intro q0 bq0;refine cL (aD ?_);refine oC 6 8 ?_ ?_
   ·have swq1:=bq0.size;go_wp2_with (go_at_call 115;refine (mX p ks _ c _ (by omega) (rx.below bq0) (fun b hb=>by have:=hpw b hb;omega)).mono ?_;rintro e q1 ⟨A7,c7,rfl,hPq1,hbq1⟩;obtain ⟨g,rfl,-,hBg,hgl,hRq1⟩:=hPq1.rowS (by omega))
    refine bJ bq0 hbq1 ?_;intro bq1 lq1;refine jW [7] 2 (lT:=[_]) ?_;refine cL (aD ?_);refine bG 8 ?_
    ·have szq2:=bq1.size;go_wp2_with fail
     refine eF ?_;intro q2 hn;have bq2:Bw wx q2:=by rw [hn];exact bq1.alloc szq2 _
     have zq2:Blk q2 q1.heap.size Zr:=by rw [hn];exact aC _ 25 _ rfl
     have eq2:q2.heap.size=q1.heap.size+1:=by rw [hn];simp
     have kq2:Bw q1 q2:=by rw [hn];exact bw1
     have seq2:q1.heap.size<q2.heap.size:=by omega
     clear hn eq2;have Rq2:=hRq1.below kq2;refine aH bq2 ?_;refine cY [9] (lB:=[_]) ?_;obtain ⟨d0,d1,d2,e0,e1,e2,szl⟩:=cZ zq2;have szb:wx.heap.size≤q1.heap.size:=by first|exact bq0.size|exact bq1.size
     have sxx:=bx.size;have hgb:wx.heap.size≤g:=by have:=bq0.size;omega
     have hgz:g≠q1.heap.size:=by omega
     have hnz:¬((p q1.heap.size∨q0.heap.size≤q1.heap.size)∧q1.heap.size<q1.heap.size∧q1.heap.size≠g):=by
      rintro ⟨h|h,h2,-⟩
      ·have:=hpw _ h;omega
      ·omega
     go_wp2_with fail
     go_meet
     exact ⟨q1.heap.size,g,c7,_,rfl,((zq2.set_ 0 _).set_ 1 _).set_ 2 _,((Rq2.setCell (a:=⟨q1.heap.size,0,none⟩) hnz hgz _).setCell (a:=⟨q1.heap.size,1,none⟩) hnz hgz _).setCell (a:=⟨q1.heap.size,2,none⟩) hnz hgz _,(fun h=>h.2.2 rfl),(fun b hb=>hb.1.imp id fun h=>Nat.le_trans (by have:=bq0.size;omega) h),(bV bq2),szb,hgb,hgz⟩
   ·have szq3:=bq0.size;go_wp2_with fail
    refine eF ?_;intro q3 hn;have bq3:Bw wx q3:=by rw [hn];exact bq0.alloc szq3 _
    have zq3:Blk q3 q0.heap.size Zr:=by rw [hn];exact aC _ 25 _ rfl
    have eq3:q3.heap.size=q0.heap.size+1:=by rw [hn];simp
    have kq3:Bw q0 q3:=by rw [hn];exact bw1
    have seq3:q0.heap.size<q3.heap.size:=by omega
    clear hn eq3;refine aH bq3 ?_;refine bG 6 ?_
    ·have swq4:=bq3.size;have szzq4:=zq3.lt;go_wp2_with (go_at_call 115;refine (mX p ks _ c _ (by omega) (rx.below bq3) (fun b hb=>by have:=hpw b hb;omega)).mono ?_;rintro e q4 ⟨A7,c7,rfl,hPq4,hbq4⟩;obtain ⟨g,rfl,-,hBg,hgl,hRq4⟩:=hPq4.rowS (by omega))
     have zq4:=zq3.keep hbq4;refine bJ bq3 hbq4 ?_;intro bq4 lq4;refine jW [7] 1 (lT:=[_]) ?_;refine cL (aD ?_);refine cY [9] (lB:=[_]) ?_;obtain ⟨d0,d1,d2,e0,e1,e2,szl⟩:=cZ zq4;have szb:wx.heap.size≤q0.heap.size:=by first|exact bq0.size|exact bq0.size
     have sxx:=bx.size;have hgb:wx.heap.size≤g:=by have:=bq3.size;omega
     have hgz:g≠q0.heap.size:=by omega
     have hnz:¬((p q0.heap.size∨q3.heap.size≤q0.heap.size)∧q0.heap.size<q4.heap.size∧q0.heap.size≠g):=by
      rintro ⟨h|h,h2,-⟩
      ·have:=hpw _ h;omega
      ·omega
     go_wp2_with fail
     go_meet
     exact ⟨q0.heap.size,g,c7,_,rfl,((zq4.set_ 0 _).set_ 1 _).set_ 2 _,((hRq4.setCell (a:=⟨q0.heap.size,0,none⟩) hnz hgz _).setCell (a:=⟨q0.heap.size,1,none⟩) hnz hgz _).setCell (a:=⟨q0.heap.size,2,none⟩) hnz hgz _,(fun h=>h.2.2 rfl),(fun b hb=>hb.1.imp id fun h=>Nat.le_trans (by have:=bq3.size;omega) h),(bV bq4),szb,hgb,hgz⟩
  case rest=>
   obtain ⟨g7,g,c7,q,rfl,hT7,hRow,hqg,hqp,hxy,hg7,hg,hgne⟩:=hcut;clear g0 g1 g2;go_upto_region 4 with fail
   refine aT ?_;intro wy hwy;subst hwy;have sxy:=hxy.size;have by_:Bw w wy:=bx.trans (hxy.mono bx.size);have h0y:=h0x.keep hxy;have h1y:=h1x.keep hxy;have h2y:=h2x.keep hxy;have ruy:=hru.below by_;have r3y:=hr3.below by_;have hiy:=hti.below by_;obtain ⟨g0,g1,g2⟩:=kZ h0y;obtain ⟨v0,v1,v2⟩:=kZ h1y;have u0':=aF hT7.three.1;have u1':=aF hT7.three.2.1;have u2':=aF hT7.three.2.2;have y0:=aF ((bR by_) _ _ hc1);have y1:=aF ((bR by_) _ _ hc2);have y2:=aF ((bR by_) _ _ hc3);have p0:=aF ((bR by_) _ _ hp0);have htk:=aD (fun w=>ht w);clear hc1 hc2 hc3 hp0;refine aZ (fun w'=>Bw wy w') [0,1,2,3,4,5,6,7,8,9,10,11,12,13,14] [15] [16,17] [_,_,_,_,_,_,_,_,_,_,_,_,_,_,_] [_] [_,_] (by kernel_rfl) (by kernel_rfl) rfl rfl rfl (fun _ _ d _ _ h=>by cases d<;>exact h) (dV _ _).drew ?_;refine cL (aD ?_);refine bF ?_;clear g0 g1 g2 v0 v1 v2 y0 y1 y2 p0 ht u0' u1' u2';have lg7:=hT7.lt;have lg:=hRow.1.lt;go_wp2_with (go_at_call 126;refine (aAi p ku nu us hus is k3 n3 ks3 A3 c3 (some ⟨b,off',none⟩) (cp - 1) U cu wy.drew u0 h1'.out (by omega) (by omega) r3y.drew (hiy.below (dV _ _).drew) ruy.drew (fun b hb=>by have:=hpw b hb;show b<wy.heap.size;omega)).mono ?_;rw [hput'.out];intro e w1 hgo;obtain ⟨A1,c1,rfl,hl1,hq1,hb1⟩:=aEr hgo;have b1:Bw wy w1:=(dV _ _).drew.trans hb1)
   refine aH b1 (cS ?_);have s1:=b1.size;have hT7a:=hT7.keep b1;have h2a:=h2y.keep b1;have hRow1:=hRow.below b1;obtain ⟨a0,ha0⟩:=hRow1.1.cell (j:=i*3) (by omega);obtain ⟨a1,ha1⟩:=hRow1.1.cell (j:=i*3+1) (by omega);obtain ⟨a2,ha2⟩:=hRow1.1.cell (j:=i*3+2) (by omega);have z0:=hRow1.1.frozen (i*3);have z1:=hRow1.1.frozen (i*3+1);have z2:=hRow1.1.frozen (i*3+2);have q1:¬(fun b=>p b∨wy.heap.size≤b) g:=by rintro (h|h);have:=hpw _ h;have:=bx.size;omega;omega
   have hfin:=hRow1.1.set hqg hik (cu:=c1) hl1 hq1 q1 (r:=fun b=>p b∨wx.heap.size≤b) (fun b hb=>hqp b hb) (fun b hb=>hb.imp id fun h=>Nat.le_trans sxy h) (.inr hg) (ku:=pk) (nu:=pn);obtain ⟨t0,t1,t2⟩:=hT7a.three;obtain ⟨d0,d1,d2,e0,e1,e2⟩:=cA h2a;have sx0:=bx.size;have n1:g≠w.heap.size+1+1:=by omega
   have n2:g7≠w.heap.size+1+1:=by omega
   go_wp2_with fail
   have hnr:∀o,¬(fun b=>p b∨wx.heap.size≤b) (⟨w.heap.size+1+1,o,none⟩:Addr).block:=by
    rintro o (h|h)
    ·have:=hpw _ h;simp at this;omega
    ·simp at h;omega
   refine bodyPost_ret (v:=.agg (Ro k n (some ⟨g,0,none⟩) ks.length c7)) (by simp [results,results126,go_sem,d0,d1,d2,n1,n2]) rfl ?_;rw [hres'.out];refine ⟨some ⟨g,0,none⟩,c7,by simp [Tm.ks,Tm.k,Tm.n],by simp [Tm.ks];omega,?_,?_⟩
   ·exact (((hfin.setCell (hnr 0) _).setCell (hnr 1) _).setCell (hnr 2) _).mono (fun b h=>h.imp id fun h=>by omega)
   ·have hbb:=by_.trans (b1.mono by_.size);exact (((((hbb.setCell (by simp;omega) _).setCell (by simp;omega) _).setCell (by simp;omega) _).setCell (by simp;omega) _).setCell (by simp;omega) _).setCell (by simp;omega) _
theorem bO {t:Tm}(h:aE t=true):shape 30 t=true:=by simp only [aE,Bool.and_eq_true] at h;exact h.1
theorem bC {k n:Int}{ks:List Tm}(h:aE (.mk k n ks)=true):aW k=(ks.length:Int)∧0≤n∧n≤eX k:=by
 have:=(bD 29 k n ks).1 (bO h);exact ⟨this.1,this.2.1,this.2.2.1⟩
theorem aAl {α:Type}:∀{l:List α},l.length=1→∃a,l=[a]
 | [a],_=>⟨a,rfl⟩
theorem qK {α:Type}:∀{l:List α},l.length=2→∃a b,l=[a,b]
 | [a,b],_=>⟨a,b,rfl⟩
theorem uQ {α:Type}:∀{l:List α},l.length=3→∃a b c,l=[a,b,c]
 | [a,b,c],_=>⟨a,b,c,rfl⟩
theorem aIx {α:Type}:∀{l:List α},l.length=4→∃a b c d,l=[a,b,c,d]
 | [a,b,c,d],_=>⟨a,b,c,d,rfl⟩
theorem aOi {k:Int}{ks:List Tm}(h:cT k ks≠0) :
  (cT k ks = 1 ∧ k = 5 ∧ lI ks 0 = 4) ∨ (cT k ks = 2 ∧ k = 9 ∧ lI ks 3 = 7) ∨ (cT k ks = 3 ∧ k = 9 ∧ lI ks 3 = 8) ∨ (cT k ks = 4 ∧ k = 12 ∧ lI ks 1 = 11) ∨ (cT k ks = 5 ∧ k = 15 ∧ lI ks 0 = 14) ∨ (cT k ks = 6 ∧ k = 16 ∧ lI ks 0 = 14) := by
 unfold cT at h⊢
 by_cases h5:k=5
 ·rw [if_pos h5] at h⊢;by_cases h4:lI ks 0=4
  ·exact .inl ⟨by rw [if_pos h4],h5,h4⟩
  ·rw [if_neg h4] at h;exact absurd rfl h
 rw [if_neg h5] at h⊢;by_cases h9:k=9
 ·rw [if_pos h9] at h⊢;by_cases h7:lI ks 3=7
  ·exact .inr (.inl ⟨by rw [if_pos h7],h9,h7⟩)
  ·rw [if_neg h7] at h⊢;by_cases h8:lI ks 3=8
   ·exact .inr (.inr (.inl ⟨by rw [if_pos h8],h9,h8⟩))
   ·rw [if_neg h8] at h;exact absurd rfl h
 rw [if_neg h9] at h⊢;by_cases h12:k=12
 ·rw [if_pos h12] at h⊢;by_cases h4:lI ks 1=11
  ·exact .inr (.inr (.inr (.inl ⟨by rw [if_pos h4],h12,h4⟩)))
  ·rw [if_neg h4] at h;exact absurd rfl h
 rw [if_neg h12] at h⊢;by_cases h15:k=15
 ·rw [if_pos h15] at h⊢;by_cases h4:lI ks 0=14
  ·exact .inr (.inr (.inr (.inr (.inl ⟨by rw [if_pos h4],h15,h4⟩))))
  ·rw [if_neg h4] at h;exact absurd rfl h
 rw [if_neg h15] at h⊢;by_cases h16:k=16
 ·rw [if_pos h16] at h⊢;by_cases h4:lI ks 0=14
  ·exact .inr (.inr (.inr (.inr (.inr ⟨by rw [if_pos h4],h16,h4⟩))))
  ·rw [if_neg h4] at h;exact absurd rfl h
 rw [if_neg h16] at h;exact absurd rfl h
section
variable {w:World}{g:Nat}{k0 n0 k1 n1 k2 n2 k3 n3:Int}{s0 s1 s2 s3:List Tm}{A0 A1 A2 A3:Option Addr}{c0 c1 c2 c3:Nat}
theorem aEq (hB:Blk w g (Ro k0 n0 A0 s0.length c0))(l0:s0.length≤9223372036854775807)(r0:Rd w A0 0 s0):Rd w (some ⟨g,0,none⟩) 0 [.mk k0 n0 s0]:=
 Rd.cons_iff.2 ⟨⟨g,0,rfl,RdC.iff.2 ⟨hB.at_ (i:=0) rfl,hB.at_ (i:=1) rfl,A0,c0,hB.at_ (i:=2) rfl,l0,r0⟩⟩,Rd.nil⟩
theorem fF (hB:Blk w g #[.int .i64 k0,.int .i64 n0,.slice A0 s0.length c0,.int .i64 k1,.int .i64 n1,.slice A1 s1.length c1])(l0:s0.length≤9223372036854775807)(l1:s1.length≤9223372036854775807)(r0:Rd w A0 0 s0)(r1:Rd w A1 0 s1):Rd w (some ⟨g,0,none⟩) 0 [.mk k0 n0 s0,.mk k1 n1 s1]:=
 Rd.cons_iff.2 ⟨⟨g,0,rfl,RdC.iff.2 ⟨hB.at_ (i:=0) rfl,hB.at_ (i:=1) rfl,A0,c0,hB.at_ (i:=2) rfl,l0,r0⟩⟩,
  Rd.cons_iff.2 ⟨⟨g,0,rfl,RdC.iff.2 ⟨hB.at_ (i:=3) rfl,hB.at_ (i:=4) rfl,A1,c1,hB.at_ (i:=5) rfl,l1,r1⟩⟩,Rd.nil⟩⟩
theorem aOm (hB:Blk w g #[.int .i64 k0,.int .i64 n0,.slice A0 s0.length c0,.int .i64 k1,.int .i64 n1,.slice A1 s1.length c1,.int .i64 k2,.int .i64 n2,.slice A2 s2.length c2])(l0:s0.length≤9223372036854775807)(l1:s1.length≤9223372036854775807)(l2:s2.length≤9223372036854775807)(r0:Rd w A0 0 s0)(r1:Rd w A1 0 s1)(r2:Rd w A2 0 s2):Rd w (some ⟨g,0,none⟩) 0 [.mk k0 n0 s0,.mk k1 n1 s1,.mk k2 n2 s2]:=
 Rd.cons_iff.2 ⟨⟨g,0,rfl,RdC.iff.2 ⟨hB.at_ (i:=0) rfl,hB.at_ (i:=1) rfl,A0,c0,hB.at_ (i:=2) rfl,l0,r0⟩⟩,
  Rd.cons_iff.2 ⟨⟨g,0,rfl,RdC.iff.2 ⟨hB.at_ (i:=3) rfl,hB.at_ (i:=4) rfl,A1,c1,hB.at_ (i:=5) rfl,l1,r1⟩⟩,
  Rd.cons_iff.2 ⟨⟨g,0,rfl,RdC.iff.2 ⟨hB.at_ (i:=6) rfl,hB.at_ (i:=7) rfl,A2,c2,hB.at_ (i:=8) rfl,l2,r2⟩⟩,Rd.nil⟩⟩⟩
theorem uA (hB:Blk w g #[.int .i64 k0,.int .i64 n0,.slice A0 s0.length c0,.int .i64 k1,.int .i64 n1,.slice A1 s1.length c1,.int .i64 k2,.int .i64 n2,.slice A2 s2.length c2,.int .i64 k3,.int .i64 n3,.slice A3 s3.length c3])(l0:s0.length≤9223372036854775807)(l1:s1.length≤9223372036854775807)(l2:s2.length≤9223372036854775807)(l3:s3.length≤9223372036854775807)(r0:Rd w A0 0 s0)(r1:Rd w A1 0 s1)(r2:Rd w A2 0 s2)(r3:Rd w A3 0 s3):Rd w (some ⟨g,0,none⟩) 0 [.mk k0 n0 s0,.mk k1 n1 s1,.mk k2 n2 s2,.mk k3 n3 s3]:=
 Rd.cons_iff.2 ⟨⟨g,0,rfl,RdC.iff.2 ⟨hB.at_ (i:=0) rfl,hB.at_ (i:=1) rfl,A0,c0,hB.at_ (i:=2) rfl,l0,r0⟩⟩,
  Rd.cons_iff.2 ⟨⟨g,0,rfl,RdC.iff.2 ⟨hB.at_ (i:=3) rfl,hB.at_ (i:=4) rfl,A1,c1,hB.at_ (i:=5) rfl,l1,r1⟩⟩,
  Rd.cons_iff.2 ⟨⟨g,0,rfl,RdC.iff.2 ⟨hB.at_ (i:=6) rfl,hB.at_ (i:=7) rfl,A2,c2,hB.at_ (i:=8) rfl,l2,r2⟩⟩,
  Rd.cons_iff.2 ⟨⟨g,0,rfl,RdC.iff.2 ⟨hB.at_ (i:=9) rfl,hB.at_ (i:=10) rfl,A3,c3,hB.at_ (i:=11) rfl,l3,r3⟩⟩,Rd.nil⟩⟩⟩⟩
end
section
variable {P:Program}{ops:Array Oper}{Q:Exit→Act→World→Prop}{S:World→Prop}{B:List Nat}
theorem qQ {i j m:Nat}{l:Array Bool}{a:Act}{w:World}{f:Nat}{o o2 o3:Oper}(hr:Region.ready .any ops l=[i,j,m])(ho:ops[i]?=some o)(ho2:ops[j]?=some o2)(ho3:ops[m]?=some o3)
  (h : wpList P ops (nU S (gC P ops Q S B f (l.setIfInBounds i true)) Q) [o] a w) (h2 : wpList P ops (nU S (gC P ops Q S B f (l.setIfInBounds j true)) Q) [o2] a w) (h3 : wpList P ops (nU S (gC P ops Q S B f (l.setIfInBounds m true)) Q) [o3] a w) : gC P ops Q S B (f + 1) l a w := by
 refine zE (by rw [hr];simp) fun i' hi o' ho'=>?_
 rw [hr] at hi;simp only [List.mem_cons,List.not_mem_nil,or_false] at hi
 rcases hi with rfl|rfl|rfl
 ·rw [ho] at ho';injection ho' with ho';subst ho';exact h
 ·rw [ho2] at ho';injection ho' with ho';subst ho';exact h2
 ·rw [ho3] at ho';injection ho' with ho';subst ho';exact h3
theorem aNf {i j m q:Nat}{l:Array Bool}{a:Act}{w:World}{f:Nat}{o o2 o3 o4:Oper}(hr:Region.ready .any ops l=[i,j,m,q])(ho:ops[i]?=some o)(ho2:ops[j]?=some o2)(ho3:ops[m]?=some o3)(ho4:ops[q]?=some o4)
  (h : wpList P ops (nU S (gC P ops Q S B f (l.setIfInBounds i true)) Q) [o] a w) (h2 : wpList P ops (nU S (gC P ops Q S B f (l.setIfInBounds j true)) Q) [o2] a w) (h3 : wpList P ops (nU S (gC P ops Q S B f (l.setIfInBounds m true)) Q) [o3] a w) (h4 : wpList P ops (nU S (gC P ops Q S B f (l.setIfInBounds q true)) Q) [o4] a w) : gC P ops Q S B (f + 1) l a w := by
 refine zE (by rw [hr];simp) fun i' hi o' ho'=>?_
 rw [hr] at hi;simp only [List.mem_cons,List.not_mem_nil,or_false] at hi
 rcases hi with rfl|rfl|rfl|rfl
 ·rw [ho] at ho';injection ho' with ho';subst ho';exact h
 ·rw [ho2] at ho';injection ho' with ho';subst ho';exact h2
 ·rw [ho3] at ho';injection ho' with ho';subst ho';exact h3
 ·rw [ho4] at ho';injection ho' with ho';subst ho';exact h4
end
theorem bL (k:Int)(v:Value)(hv:∃A l c,v = .slice A l c)(w:World):Calls prog 92 #[.int .i64 k,v] w fun e w'=>e = .returned (.agg #[.int .i64 k,.int .i64 0,v])∧Bw w w':=by
 obtain ⟨A,l,c,rfl⟩:=hv;go_enter func92,ntmps92;go_wp2
 refine bodyPost_ret (v:=.agg (Ro k 0 A l c)) (by simp [results,results92,go_sem]) rfl ⟨rfl,?_⟩;exact bw1
theorem aSn (n n0 ka na:Int)(kas:List Tm)(kb nb:Int)(kbs:List Tm)(k1 n1:Int)(s1:List Tm)(A:Option Addr)(c:Nat)(w:World)(hv:aE (.mk 5 n [.mk 4 n0 [.mk ka na kas,.mk kb nb kbs],.mk k1 n1 s1])=true)(hr:Rd w A 0 [.mk 4 n0 [.mk ka na kas,.mk kb nb kbs],.mk k1 n1 s1]) :
  Calls prog 124 #[.agg (Ro 5 n A 2 c)] w (oX w (eC 0 (.mk k1 n1 s1) (.mk kb nb kbs))):=by
 have har:=aD (bC hv).1;have hrx:=aD (show cT 5 [.mk 4 n0 [.mk ka na kas,.mk kb nb kbs],.mk k1 n1 s1]=1 from rfl);have hv1:=aX hv (t:=.mk k1 n1 s1) (by simp);have hvb:=aX (aX hv (t:=.mk 4 n0 [.mk ka na kas,.mk kb nb kbs]) (by simp)) (t:=.mk kb nb kbs) (by simp);have hsh1:=aD (bO hv1);have hshb:=aD (bO hvb);have hz1:=aI hv1;have hzb:=aI hvb;clear hv hv1 hvb;obtain ⟨b0,o0,k0',n0',ks0',A0,c0,hA0,hk0,i1,i2,i3,hl0,hr0⟩:=hr.at_ (j:=0) (by simp);injection hk0 with e1 e2 e3;subst e1 e2 e3 hA0;obtain ⟨b0',o0',k1',n1',ks1',A1,c1,hA1,hk1,j1,j2,j3,hl1,hr1⟩:=hr.at_ (j:=1) (by simp);injection hk1 with e1 e2 e3;injection hA1 with hA1;injection hA1 with hA2 hA3;subst e1 e2 e3 hA2 hA3;obtain ⟨bb,ob,kb',nb',kbs',Ab,cb,hAb,hkb,m1,m2,m3,hlb,hrb⟩:=hr0.at_ (j:=1) (by simp);injection hkb with e1 e2 e3;subst e1 e2 e3 hAb;simp only [Nat.zero_mul,Nat.add_zero,Nat.one_mul] at i1 i2 i3 j1 j2 j3 m1 m2 m3
 cases hres:eC 0 (.mk k1 n1 s1) (.mk kb nb kbs) with
 | none=>
  replace hres:=aD hres;go_enter func124,ntmps124;go_wp2_with (go_at_call 106;refine (cU 5 n [.mk 4 n0 [.mk ka na kas,.mk kb nb kbs],.mk k1 n1 s1] _ c _ (by simp) har.out ((hr.alloc _).alloc _)).mono ?_;rw [hrx.out];rintro e w1 ⟨rfl,hb1⟩;have hX:=((aC w 25 (Ro 5 n (some ⟨b0,o0,none⟩) 2 c) rfl).alloc (.cells Zr 25)).keep hb1;have hZ:=bA hb1;have g1:Bw w w1:=bW bw2 hb1)
  refine aT ?_;intro wx hwx;have hXx:=(show Blk wx w.heap.size _ by rw [hwx];exact hX);have hZx:=(show Blk wx (w.heap.size+1) _ by rw [hwx];exact hZ);have gx:Bw w wx:=by rw [hwx];exact g1
  clear hwx;have lz:=hZx.lt;have g0:=aF hXx.three.1;have g1':=aF hXx.three.2.1;have g2:=aF hXx.three.2.2;have y2:=aF ((bR gx) _ _ i3);have m0:=aF ((bR gx) _ _ m1);have m1':=aF ((bR gx) _ _ m2);have m2':=aF ((bR gx) _ _ m3);have v0:=aF ((bR gx) _ _ j1);have v1:=aF ((bR gx) _ _ j2);have v2:=aF ((bR gx) _ _ j3);have r1:=hr1.below gx;have rb:=hrb.below gx;clear i1 i2 i3 j1 j2 j3 m1 m2 m3;refine fE wx [12,13,14,15] [0,1,2,3,4,5,6,7,8,9,10] 16 5 (lT:=[_,_,_,_,_,_,_,_,_,_,_]) ?_;intro q0 bq0;refine cL (aD ?_);refine bG 11 ?_
  ·go_wp2_with (go_at_call 99;refine (kF kb nb kbs Ab cb 0 k1 n1 s1 A1 c1 _ (by omega) hsh1.out (by omega) (r1.below bq0) (by omega) hshb.out (rb.below bq0)).mono ?_;rw [hres.out];intro e q1 hgo;obtain ⟨rfl,hbq1⟩:=(iX hgo))
   refine bJ bq0 hbq1 ?_;intro bq1 lq1;refine jW [12,13] 2 (lT:=[_,_]) ?_;refine cL (aD ?_);refine cY [14,15] (lB:=[_,_]) ?_;have hZ2:=hZx.keep bq1;obtain ⟨d0,d1,d2,e0,e1,e2⟩:=cA hZ2;have gf:=gx.trans (bq1.mono gx.size);have sx:=gx.size;go_wp2_with fail
   refine bodyPost_ret (v:=.tuple #[dC,.bool false]) (by simp [results,results124,go_sem,d0,d1,d2,dC]) rfl ⟨rfl,?_⟩;exact ((gf.setCell (by simp) _).setCell (by simp) _).setCell (by simp) _
 | some r=>
  obtain ⟨kr,nr,rs⟩:=r;replace hres:=aD hres;go_enter func124,ntmps124;go_wp2_with (go_at_call 106;refine (cU 5 n [.mk 4 n0 [.mk ka na kas,.mk kb nb kbs],.mk k1 n1 s1] _ c _ (by simp) har.out ((hr.alloc _).alloc _)).mono ?_;rw [hrx.out];rintro e w1 ⟨rfl,hb1⟩;have hX:=((aC w 25 (Ro 5 n (some ⟨b0,o0,none⟩) 2 c) rfl).alloc (.cells Zr 25)).keep hb1;have hZ:=bA hb1;have g1:Bw w w1:=bW bw2 hb1)
  refine aT ?_;intro wx hwx;have hXx:=(show Blk wx w.heap.size _ by rw [hwx];exact hX);have hZx:=(show Blk wx (w.heap.size+1) _ by rw [hwx];exact hZ);have gx:Bw w wx:=by rw [hwx];exact g1
  clear hwx;have lz:=hZx.lt;have g0:=aF hXx.three.1;have g1':=aF hXx.three.2.1;have g2:=aF hXx.three.2.2;have y2:=aF ((bR gx) _ _ i3);have m0:=aF ((bR gx) _ _ m1);have m1':=aF ((bR gx) _ _ m2);have m2':=aF ((bR gx) _ _ m3);have v0:=aF ((bR gx) _ _ j1);have v1:=aF ((bR gx) _ _ j2);have v2:=aF ((bR gx) _ _ j3);have r1:=hr1.below gx;have rb:=hrb.below gx;clear i1 i2 i3 j1 j2 j3 m1 m2 m3;refine fE wx [12,13,14,15] [0,1,2,3,4,5,6,7,8,9,10] 16 5 (lT:=[_,_,_,_,_,_,_,_,_,_,_]) ?_;intro q0 bq0;refine cL (aD ?_);refine bG 11 ?_
  ·go_wp2_with (go_at_call 99;refine (kF kb nb kbs Ab cb 0 k1 n1 s1 A1 c1 _ (by omega) hsh1.out (by omega) (r1.below bq0) (by omega) hshb.out (rb.below bq0)).mono ?_;rw [hres.out];intro e q1 hgo;obtain ⟨A7,c7,rfl,hl7,hfq1,hbq1⟩:=dE hgo)
   refine bJ bq0 hbq1 ?_;intro bq1 lq1;refine jW [12,13] 2 (lT:=[_,_]) ?_;refine cL (aD ?_);refine cY [14,15] (lB:=[_,_]) ?_;have hZ2:=hZx.keep bq1;obtain ⟨d0,d1,d2,e0,e1,e2⟩:=cA hZ2;have gf:=gx.trans (bq1.mono gx.size);have sx:=gx.size;go_wp2_with fail
   refine bodyPost_ret (v:=.tuple #[.agg (Ro kr nr A7 rs.length c7),.bool true]) (by simp [results,results124,go_sem,d0,d1,d2,dC]) rfl ⟨A7,c7,rfl,hl7,?_,?_⟩
   ·exact ((((hfq1.mono (by have:=bq0.size;omega)).setCell (by simp;omega) _).setCell (by simp;omega) _).setCell (by simp;omega) _).mono (by omega)
   ·exact ((gf.setCell (by simp) _).setCell (by simp) _).setCell (by simp) _
theorem aUc (n:Int)(t0:Tm)(k1 n1:Int)(s1:List Tm)(t2:Tm)(n3:Int)(s3:List Tm)(A:Option Addr)(c:Nat)(w:World)(hv:aE (.mk 9 n [t0,.mk k1 n1 s1,t2,.mk 7 n3 s3])=true)(hr:Rd w A 0 [t0,.mk k1 n1 s1,t2,.mk 7 n3 s3]) :
  Calls prog 124 #[.agg (Ro 9 n A 4 c)] w (oX w (some (.mk k1 n1 s1))):=by
 have har:=aD (bC hv).1;have hrx:=aD (show cT 9 [t0,.mk k1 n1 s1,t2,.mk 7 n3 s3]=2 from rfl);have hv1:=aD (aX hv (t:=.mk k1 n1 s1) (by simp));have hz1:=aI hv1.out;clear hv;obtain ⟨b0,o0,k0',n0',ks0',A0,c0,hA0,hk0,i1,i2,i3,hl0,hr0⟩:=hr.at_ (j:=1) (by simp);injection hk0 with e1 e2 e3;subst e1 e2 e3 hA0;simp only [Nat.zero_mul,Nat.add_zero,Nat.one_mul,Nat.reduceMul] at i1 i2 i3
 have q5:=((Keeps.alloc w (.cells (Ro 9 n (some ⟨b0,o0,none⟩) 4 c) 25)).trans (Keeps.alloc _ (.cells Zr 25)));go_enter func124,ntmps124;go_wp2_with (first
  | (go_at_call 119;have _t:=tok2;refine (gQ k1 n1 s1 A8 c8 _ (by omega) hf8.rd hv1.out).mono ?_;rintro e w9 ⟨rfl,hb9⟩;have hZ9:=hZ8.keep hb9;have g9:=g8.trans (hb9.mono g8.size);have hf9:=hf8.below hb9;obtain ⟨d0,d1,d2,e0,e1,e2⟩:=cA hZ9)
  | (go_at_call 26;have _t:=tok1;refine (gF (s1.length+aG s1+1) k1 n1 s1 A0 c0 _ (by omega) (by omega) rP).mono ?_;rintro e w8 ⟨A8,c8,rfl,hl8,hf8,hb8⟩;have hZ8:=hZ.keep hb8;have g8:=g1.trans (hb8.mono g1.size);have tok2:=trivial)
  | (go_at_call 106;refine (cU 9 n [t0,.mk k1 n1 s1,t2,.mk 7 n3 s3] _ c _ (by simp) har.out ((hr.alloc _).alloc _)).mono ?_;rw [hrx.out];rintro e w1 ⟨rfl,hb1⟩;have hX:=((aC w 25 (Ro 9 n (some ⟨b0,o0,none⟩) 4 c) rfl).alloc (.cells Zr 25)).keep hb1;have hZ:=bA hb1;have g1:Bw w w1:=bW bw2 hb1;obtain ⟨x0,x1,x2⟩:=hX.three;have y0:=(bR g1) _ _ i1;have y1:=(bR g1) _ _ i2;have y2:=(bR g1) _ _ i3;  have rP:=hr0.below g1;have tok1:=trivial))
 have sz:=g1.size;have s8:=hb8.size;refine bodyPost_ret (v:=.tuple #[.agg (Ro k1 n1 A8 s1.length c8),.bool true]) (by simp [results,results124,go_sem,d0,d1,d2]) rfl ⟨A8,c8,rfl,hl8,?_,?_⟩
 ·exact (((hf9.setCell (by have:=hZ.lt;simp;omega) _).setCell (by have:=hZ.lt;simp;omega) _).setCell (by have:=hZ.lt;simp;omega) _).mono sz
 ·exact bV g9
theorem aUd (n:Int)(t0:Tm)(n3:Int)(s3:List Tm)(k1 n1:Int)(s1:List Tm)(A:Option Addr)(c:Nat)(w:World)(hv:aE (.mk 12 n [t0,.mk 11 n3 s3,.mk k1 n1 s1])=true)(hr:Rd w A 0 [t0,.mk 11 n3 s3,.mk k1 n1 s1]) :
  Calls prog 124 #[.agg (Ro 12 n A 3 c)] w (oX w (some (.mk k1 n1 s1))):=by
 have har:=aD (bC hv).1;have hrx:=aD (show cT 12 [t0,.mk 11 n3 s3,.mk k1 n1 s1]=4 from rfl);have hv1:=aD (aX hv (t:=.mk k1 n1 s1) (by simp));have hz1:=aI hv1.out;clear hv;obtain ⟨b0,o0,k0',n0',ks0',A0,c0,hA0,hk0,i1,i2,i3,hl0,hr0⟩:=hr.at_ (j:=2) (by simp);injection hk0 with e1 e2 e3;subst e1 e2 e3 hA0;simp only [Nat.zero_mul,Nat.add_zero,Nat.one_mul,Nat.reduceMul] at i1 i2 i3
 have q5:=((Keeps.alloc w (.cells (Ro 12 n (some ⟨b0,o0,none⟩) 3 c) 25)).trans (Keeps.alloc _ (.cells Zr 25)));go_enter func124,ntmps124;go_wp2_with (first
  | (go_at_call 119;have _t:=tok2;refine (gQ k1 n1 s1 A8 c8 _ (by omega) hf8.rd hv1.out).mono ?_;rintro e w9 ⟨rfl,hb9⟩;have hZ9:=hZ8.keep hb9;have g9:=g8.trans (hb9.mono g8.size);have hf9:=hf8.below hb9;obtain ⟨d0,d1,d2,e0,e1,e2⟩:=cA hZ9)
  | (go_at_call 26;have _t:=tok1;refine (gF (s1.length+aG s1+1) k1 n1 s1 A0 c0 _ (by omega) (by omega) rP).mono ?_;rintro e w8 ⟨A8,c8,rfl,hl8,hf8,hb8⟩;have hZ8:=hZ.keep hb8;have g8:=g1.trans (hb8.mono g1.size);have tok2:=trivial)
  | (go_at_call 106;refine (cU 12 n [t0,.mk 11 n3 s3,.mk k1 n1 s1] _ c _ (by simp) har.out ((hr.alloc _).alloc _)).mono ?_;rw [hrx.out];rintro e w1 ⟨rfl,hb1⟩;have hX:=((aC w 25 (Ro 12 n (some ⟨b0,o0,none⟩) 3 c) rfl).alloc (.cells Zr 25)).keep hb1;have hZ:=bA hb1;have g1:Bw w w1:=bW bw2 hb1;obtain ⟨x0,x1,x2⟩:=hX.three;have y0:=(bR g1) _ _ i1;have y1:=(bR g1) _ _ i2;have y2:=(bR g1) _ _ i3;  have rP:=hr0.below g1;have tok1:=trivial))
 have sz:=g1.size;have s8:=hb8.size;refine bodyPost_ret (v:=.tuple #[.agg (Ro k1 n1 A8 s1.length c8),.bool true]) (by simp [results,results124,go_sem,d0,d1,d2]) rfl ⟨A8,c8,rfl,hl8,?_,?_⟩
 ·exact (((hf9.setCell (by have:=hZ.lt;simp;omega) _).setCell (by have:=hZ.lt;simp;omega) _).setCell (by have:=hZ.lt;simp;omega) _).mono sz
 ·exact bV g9
theorem aUb (n:Int)(n3:Int)(t0:Tm)(k1 n1:Int)(s1:List Tm)(t2:Tm)(A:Option Addr)(c:Nat)(w:World)(hv:aE (.mk 15 n [.mk 14 n3 [t0,.mk k1 n1 s1,t2]])=true)(hr:Rd w A 0 [.mk 14 n3 [t0,.mk k1 n1 s1,t2]]) :
  Calls prog 124 #[.agg (Ro 15 n A 1 c)] w (oX w (some (.mk k1 n1 s1))):=by
 have har:=aD (bC hv).1;have hrx:=aD (show cT 15 [.mk 14 n3 [t0,.mk k1 n1 s1,t2]]=5 from rfl);have hv1:=aD (aX (aX hv (t:=.mk 14 n3 [t0,.mk k1 n1 s1,t2]) (by simp)) (t:=.mk k1 n1 s1) (by simp));have hz1:=aI hv1.out;clear hv;obtain ⟨b0,o0,k0',n0',ks0',A0,c0,hA0,hk0,i1,i2,i3,hl0,hr0⟩:=hr.at_ (j:=0) (by simp);injection hk0 with e1 e2 e3;subst e1 e2 e3 hA0;simp only [Nat.zero_mul,Nat.add_zero,Nat.one_mul,Nat.reduceMul] at i1 i2 i3
 obtain ⟨bb,ob,kb',nb',kbs',Ab,cb,hAb,hkb,m1,m2,m3,hlb,hrb⟩:=hr0.at_ (j:=1) (by simp);injection hkb with e1 e2 e3;subst e1 e2 e3 hAb;simp only [Nat.zero_mul,Nat.add_zero,Nat.one_mul,Nat.reduceMul] at m1 m2 m3
 have q5:=((Keeps.alloc w (.cells (Ro 15 n (some ⟨b0,o0,none⟩) 1 c) 25)).trans (Keeps.alloc _ (.cells Zr 25)));go_enter func124,ntmps124;go_wp2_with (first
  | (go_at_call 119;have _t:=tok2;refine (gQ k1 n1 s1 A8 c8 _ (by omega) hf8.rd hv1.out).mono ?_;rintro e w9 ⟨rfl,hb9⟩;have hZ9:=hZ8.keep hb9;have g9:=g8.trans (hb9.mono g8.size);have hf9:=hf8.below hb9;obtain ⟨d0,d1,d2,e0,e1,e2⟩:=cA hZ9)
  | (go_at_call 26;have _t:=tok1;refine (gF (s1.length+aG s1+1) k1 n1 s1 Ab cb _ (by omega) (by omega) rP).mono ?_;rintro e w8 ⟨A8,c8,rfl,hl8,hf8,hb8⟩;have hZ8:=hZ.keep hb8;have g8:=g1.trans (hb8.mono g1.size);have tok2:=trivial)
  | (go_at_call 106;refine (cU 15 n [.mk 14 n3 [t0,.mk k1 n1 s1,t2]] _ c _ (by simp) har.out ((hr.alloc _).alloc _)).mono ?_;rw [hrx.out];rintro e w1 ⟨rfl,hb1⟩;have hX:=((aC w 25 (Ro 15 n (some ⟨b0,o0,none⟩) 1 c) rfl).alloc (.cells Zr 25)).keep hb1;have hZ:=bA hb1;have g1:Bw w w1:=bW bw2 hb1;obtain ⟨x0,x1,x2⟩:=hX.three;have y0:=(bR g1) _ _ i1;have y1:=(bR g1) _ _ i2;have y2:=(bR g1) _ _ i3;have z0:=(bR g1) _ _ m1;have z1:=(bR g1) _ _ m2;have z2:=(bR g1) _ _ m3;have rP:=hrb.below g1;have tok1:=trivial))
 have sz:=g1.size;have s8:=hb8.size;refine bodyPost_ret (v:=.tuple #[.agg (Ro k1 n1 A8 s1.length c8),.bool true]) (by simp [results,results124,go_sem,d0,d1,d2]) rfl ⟨A8,c8,rfl,hl8,?_,?_⟩
 ·exact (((hf9.setCell (by have:=hZ.lt;simp;omega) _).setCell (by have:=hZ.lt;simp;omega) _).setCell (by have:=hZ.lt;simp;omega) _).mono sz
 ·exact bV g9
theorem aTl (n:Int)(n3:Int)(t0 t1:Tm)(k1 n1:Int)(s1:List Tm)(A:Option Addr)(c:Nat)(w:World)(hv:aE (.mk 16 n [.mk 14 n3 [t0,t1,.mk k1 n1 s1]])=true)(hr:Rd w A 0 [.mk 14 n3 [t0,t1,.mk k1 n1 s1]]) :
  Calls prog 124 #[.agg (Ro 16 n A 1 c)] w (oX w (some (.mk k1 n1 s1))):=by
 have har:=aD (bC hv).1;have hrx:=aD (show cT 16 [.mk 14 n3 [t0,t1,.mk k1 n1 s1]]=6 from rfl);have hv1:=aD (aX (aX hv (t:=.mk 14 n3 [t0,t1,.mk k1 n1 s1]) (by simp)) (t:=.mk k1 n1 s1) (by simp));have hz1:=aI hv1.out;clear hv;obtain ⟨b0,o0,k0',n0',ks0',A0,c0,hA0,hk0,i1,i2,i3,hl0,hr0⟩:=hr.at_ (j:=0) (by simp);injection hk0 with e1 e2 e3;subst e1 e2 e3 hA0;simp only [Nat.zero_mul,Nat.add_zero,Nat.one_mul,Nat.reduceMul] at i1 i2 i3
 obtain ⟨bb,ob,kb',nb',kbs',Ab,cb,hAb,hkb,m1,m2,m3,hlb,hrb⟩:=hr0.at_ (j:=2) (by simp);injection hkb with e1 e2 e3;subst e1 e2 e3 hAb;simp only [Nat.zero_mul,Nat.add_zero,Nat.one_mul,Nat.reduceMul] at m1 m2 m3
 have q5:=((Keeps.alloc w (.cells (Ro 16 n (some ⟨b0,o0,none⟩) 1 c) 25)).trans (Keeps.alloc _ (.cells Zr 25)));go_enter func124,ntmps124;go_wp2_with (first
  | (go_at_call 119;have _t:=tok2;refine (gQ k1 n1 s1 A8 c8 _ (by omega) hf8.rd hv1.out).mono ?_;rintro e w9 ⟨rfl,hb9⟩;have hZ9:=hZ8.keep hb9;have g9:=g8.trans (hb9.mono g8.size);have hf9:=hf8.below hb9;obtain ⟨d0,d1,d2,e0,e1,e2⟩:=cA hZ9)
  | (go_at_call 26;have _t:=tok1;refine (gF (s1.length+aG s1+1) k1 n1 s1 Ab cb _ (by omega) (by omega) rP).mono ?_;rintro e w8 ⟨A8,c8,rfl,hl8,hf8,hb8⟩;have hZ8:=hZ.keep hb8;have g8:=g1.trans (hb8.mono g1.size);have tok2:=trivial)
  | (go_at_call 106;refine (cU 16 n [.mk 14 n3 [t0,t1,.mk k1 n1 s1]] _ c _ (by simp) har.out ((hr.alloc _).alloc _)).mono ?_;rw [hrx.out];rintro e w1 ⟨rfl,hb1⟩;have hX:=((aC w 25 (Ro 16 n (some ⟨b0,o0,none⟩) 1 c) rfl).alloc (.cells Zr 25)).keep hb1;have hZ:=bA hb1;have g1:Bw w w1:=bW bw2 hb1;obtain ⟨x0,x1,x2⟩:=hX.three;have y0:=(bR g1) _ _ i1;have y1:=(bR g1) _ _ i2;have y2:=(bR g1) _ _ i3;have z0:=(bR g1) _ _ m1;have z1:=(bR g1) _ _ m2;have z2:=(bR g1) _ _ m3;have rP:=hrb.below g1;have tok1:=trivial))
 have sz:=g1.size;have s8:=hb8.size;refine bodyPost_ret (v:=.tuple #[.agg (Ro k1 n1 A8 s1.length c8),.bool true]) (by simp [results,results124,go_sem,d0,d1,d2]) rfl ⟨A8,c8,rfl,hl8,?_,?_⟩
 ·exact (((hf9.setCell (by have:=hZ.lt;simp;omega) _).setCell (by have:=hZ.lt;simp;omega) _).setCell (by have:=hZ.lt;simp;omega) _).mono sz
 ·exact bV g9
theorem xC (k n:Int)(ks:List Tm)(A:Option Addr)(c:Nat)(w:World)(hM:aG ks≤1099511627775)(hr:Rd w A 0 ks)(hv:aE (.mk k n ks)=false) :
  Calls prog 119 #[(.agg (Ro k n A ks.length c))] w fun e w'=>e = .returned (.tuple #[.agg Zr,.bool false])∧Bw w w':=vR k n ks A c w hM hr hv
theorem aCt {W q:World}{a b c d:Nat}{xa ya za xb yb zb xc yc zc xd yd zd:Value}(hab:a≠b)(hac:a≠c)(had:a≠d)(hbc:b≠c)(hbd:b≠d)(hcd:c≠d)(za0:Blk q a Zr)(zb0:Blk q b Zr)(zc0:Blk q c Zr)(zd0:Blk q d Zr)(h:Bw W q)(sa:W.heap.size≤a)(sb:W.heap.size≤b)(sc:W.heap.size≤c)(sd:W.heap.size≤d) :
  Blk ((((((((((((q.setCell ⟨a,0,none⟩ xa).setCell ⟨a,1,none⟩ ya).setCell ⟨a,2,none⟩ za).setCell ⟨b,0,none⟩ xb).setCell ⟨b,1,none⟩ yb).setCell ⟨b,2,none⟩ zb).setCell ⟨c,0,none⟩ xc).setCell ⟨c,1,none⟩ yc).setCell ⟨c,2,none⟩ zc).setCell ⟨d,0,none⟩ xd).setCell ⟨d,1,none⟩ yd).setCell ⟨d,2,none⟩ zd) a #[xa,ya,za]∧Blk ((((((((((((q.setCell ⟨a,0,none⟩ xa).setCell ⟨a,1,none⟩ ya).setCell ⟨a,2,none⟩ za).setCell ⟨b,0,none⟩ xb).setCell ⟨b,1,none⟩ yb).setCell ⟨b,2,none⟩ zb).setCell ⟨c,0,none⟩ xc).setCell ⟨c,1,none⟩ yc).setCell ⟨c,2,none⟩ zc).setCell ⟨d,0,none⟩ xd).setCell ⟨d,1,none⟩ yd).setCell ⟨d,2,none⟩ zd) b #[xb,yb,zb]∧Blk ((((((((((((q.setCell ⟨a,0,none⟩ xa).setCell ⟨a,1,none⟩ ya).setCell ⟨a,2,none⟩ za).setCell ⟨b,0,none⟩ xb).setCell ⟨b,1,none⟩ yb).setCell ⟨b,2,none⟩ zb).setCell ⟨c,0,none⟩ xc).setCell ⟨c,1,none⟩ yc).setCell ⟨c,2,none⟩ zc).setCell ⟨d,0,none⟩ xd).setCell ⟨d,1,none⟩ yd).setCell ⟨d,2,none⟩ zd) c #[xc,yc,zc]∧Blk ((((((((((((q.setCell ⟨a,0,none⟩ xa).setCell ⟨a,1,none⟩ ya).setCell ⟨a,2,none⟩ za).setCell ⟨b,0,none⟩ xb).setCell ⟨b,1,none⟩ yb).setCell ⟨b,2,none⟩ zb).setCell ⟨c,0,none⟩ xc).setCell ⟨c,1,none⟩ yc).setCell ⟨c,2,none⟩ zc).setCell ⟨d,0,none⟩ xd).setCell ⟨d,1,none⟩ yd).setCell ⟨d,2,none⟩ zd) d #[xd,yd,zd]∧Bw W ((((((((((((q.setCell ⟨a,0,none⟩ xa).setCell ⟨a,1,none⟩ ya).setCell ⟨a,2,none⟩ za).setCell ⟨b,0,none⟩ xb).setCell ⟨b,1,none⟩ yb).setCell ⟨b,2,none⟩ zb).setCell ⟨c,0,none⟩ xc).setCell ⟨c,1,none⟩ yc).setCell ⟨c,2,none⟩ zc).setCell ⟨d,0,none⟩ xd).setCell ⟨d,1,none⟩ yd).setCell ⟨d,2,none⟩ zd):=
 ⟨((((((((((((za0.set_ 0 _).set_ 1 _).set_ 2 _).far (p:=⟨b,0,none⟩) hab _).far (p:=⟨b,1,none⟩) hab _).far (p:=⟨b,2,none⟩) hab _).far (p:=⟨c,0,none⟩) hac _).far (p:=⟨c,1,none⟩) hac _).far (p:=⟨c,2,none⟩) hac _).far (p:=⟨d,0,none⟩) had _).far (p:=⟨d,1,none⟩) had _).far (p:=⟨d,2,none⟩) had _),((((((((((((zb0.far (p:=⟨a,0,none⟩) hab.symm _).far (p:=⟨a,1,none⟩) hab.symm _).far (p:=⟨a,2,none⟩) hab.symm _).set_ 0 _).set_ 1 _).set_ 2 _).far (p:=⟨c,0,none⟩) hbc _).far (p:=⟨c,1,none⟩) hbc _).far (p:=⟨c,2,none⟩) hbc _).far (p:=⟨d,0,none⟩) hbd _).far (p:=⟨d,1,none⟩) hbd _).far (p:=⟨d,2,none⟩) hbd _),((((((((((((zc0.far (p:=⟨a,0,none⟩) hac.symm _).far (p:=⟨a,1,none⟩) hac.symm _).far (p:=⟨a,2,none⟩) hac.symm _).far (p:=⟨b,0,none⟩) hbc.symm _).far (p:=⟨b,1,none⟩) hbc.symm _).far (p:=⟨b,2,none⟩) hbc.symm _).set_ 0 _).set_ 1 _).set_ 2 _).far (p:=⟨d,0,none⟩) hcd _).far (p:=⟨d,1,none⟩) hcd _).far (p:=⟨d,2,none⟩) hcd _),((((((((((((zd0.far (p:=⟨a,0,none⟩) had.symm _).far (p:=⟨a,1,none⟩) had.symm _).far (p:=⟨a,2,none⟩) had.symm _).far (p:=⟨b,0,none⟩) hbd.symm _).far (p:=⟨b,1,none⟩) hbd.symm _).far (p:=⟨b,2,none⟩) hbd.symm _).far (p:=⟨c,0,none⟩) hcd.symm _).far (p:=⟨c,1,none⟩) hcd.symm _).far (p:=⟨c,2,none⟩) hcd.symm _).set_ 0 _).set_ 1 _).set_ 2 _),oY (oY (oY (oY h sa) sb) sc) sd⟩
theorem aTk (n kp np:Int)(sp:List Tm)(kz nz:Int)(sz:List Tm)(k2 n2:Int)(s2:List Tm)(n8 ka na:Int)(sa:List Tm)(A:Option Addr)(c:Nat)(w:World)(hv:aE (.mk 9 n [.mk kp np sp,.mk kz nz sz,.mk k2 n2 s2,.mk 8 n8 [.mk ka na sa]])=true)(hr:Rd w A 0 [.mk kp np sp,.mk kz nz sz,.mk k2 n2 s2,.mk 8 n8 [.mk ka na sa]])(o:Option Tm)(ho0:vO (.mk 5 0 [.mk 5 0 [.mk k2 n2 s2,.mk ka na sa],.mk 9 0 [.mk kp np sp,.mk kz nz sz,.mk k2 n2 s2,.mk ka na sa]])=o) :
  Calls prog 124 #[.agg (Ro 9 n A 4 c)] w (oX w o):=by
 have har:=aD (bC hv).1;have hrx:=aD (show cT 9 [.mk kp np sp,.mk kz nz sz,.mk k2 n2 s2,.mk 8 n8 [.mk ka na sa]]=3 from rfl);have hszv:=aI hv;simp only [aG,Tm.size] at hszv
 have ho:=aD ho0;clear hv ho0;obtain ⟨b0,o0,x1,x2,x3,Ap,cp,hA0,hk,i1,i2,i3,hlp,hr0⟩:=hr.at_ (j:=0) (by simp);injection hk with e1 e2 e3;subst e1 e2 e3;subst hA0;obtain ⟨b1,o1,x1,x2,x3,Az,cz,hA1,hk,j1,j2,j3,hlz,hr1⟩:=hr.at_ (j:=1) (by simp);injection hk with e1 e2 e3;subst e1 e2 e3;injection hA1 with hA;injection hA with hA1 hA2;subst hA1 hA2;obtain ⟨b2,o2,x1,x2,x3,A2,c2,hA2,hk,m1,m2,m3,hl2,hr2⟩:=hr.at_ (j:=2) (by simp);injection hk with e1 e2 e3;subst e1 e2 e3;injection hA2 with hA;injection hA with hA1 hA2;subst hA1 hA2;obtain ⟨b3,o3,x1,x2,x3,A8',c8',hA3,hk,y1,y2,y3,hly,hr3⟩:=hr.at_ (j:=3) (by simp);injection hk with e1 e2 e3;subst e1 e2 e3;injection hA3 with hA;injection hA with hA1 hA2;subst hA1 hA2;obtain ⟨ba,oa,x1,x2,x3,Aa,ca,hAa,hk,z1,z2,z3,hla,hra⟩:=hr3.at_ (j:=0) (by simp);injection hk with e1 e2 e3;subst e1 e2 e3 hAa;simp only [Nat.zero_mul,Nat.add_zero,Nat.one_mul,Nat.reduceMul] at i1 i2 i3 j1 j2 j3 m1 m2 m3 y1 y2 y3 z1 z2 z3
 go_enter func124,ntmps124;go_wp2_with (go_at_call 106;refine (cU 9 n [.mk kp np sp,.mk kz nz sz,.mk k2 n2 s2,.mk 8 n8 [.mk ka na sa]] _ c _ (by simp) har.out ((hr.alloc _).alloc _)).mono ?_;rw [hrx.out];rintro e w1 ⟨rfl,hb1⟩;have hX:=((aC w 25 (Ro 9 n (some ⟨b0,o0,none⟩) 4 c) rfl).alloc (.cells Zr 25)).keep hb1;have hZ:=bA hb1;have g1:Bw w w1:=bW bw2 hb1)
 refine aT ?_;intro wx hwx;have hXx:=(show Blk wx w.heap.size _ by rw [hwx];exact hX);have hZx:=(show Blk wx (w.heap.size+1) _ by rw [hwx];exact hZ);have gx:Bw w wx:=by rw [hwx];exact g1
 clear hwx;have lz:=hZx.lt;have rpx:=hr0.below gx;have rzx:=hr1.below gx;have r2x:=hr2.below gx;have rax:=hra.below gx;have g0:=aF hXx.three.1;have g1':=aF hXx.three.2.1;have g2:=aF hXx.three.2.2;have ui1:=aF ((bR gx) _ _ i1);have ui2:=aF ((bR gx) _ _ i2);have ui3:=aF ((bR gx) _ _ i3);have uj1:=aF ((bR gx) _ _ j1);have uj2:=aF ((bR gx) _ _ j2);have uj3:=aF ((bR gx) _ _ j3);have um1:=aF ((bR gx) _ _ m1);have um2:=aF ((bR gx) _ _ m2);have um3:=aF ((bR gx) _ _ m3);have uy1:=aF ((bR gx) _ _ y1);have uy2:=aF ((bR gx) _ _ y2);have uy3:=aF ((bR gx) _ _ y3);have uz1:=aF ((bR gx) _ _ z1);have uz2:=aF ((bR gx) _ _ z2);have uz3:=aF ((bR gx) _ _ z3);clear i1 i2 i3 j1 j2 j3 m1 m2 m3 y1 y2 y3 z1 z2 z3;go_cut [4,5,6,7] (fun v4 v5 v6 v7 wy=>∃(g4 g5 g6 g7:Nat),v4 = .pointer (some ⟨g4,0,none⟩)∧v5 = .pointer (some ⟨g5,0,none⟩)∧v6 = .pointer (some ⟨g6,0,none⟩)∧v7 = .pointer (some ⟨g7,0,none⟩)∧Blk wy g4 (Ro kp np Ap sp.length cp)∧Blk wy g5 (Ro kz nz Az sz.length cz)∧Blk wy g6 (Ro k2 n2 A2 s2.length c2)∧Blk wy g7 (Ro ka na Aa sa.length ca)∧Bw wx wy)
 case first=>
  refine fE wx [26] [0,1,2,3,4,5,6,7,8,9,10,11,12,13,14,15,16,17,18] 27 8 (lT:=[_,_,_,_,_,_,_,_,_,_,_,_,_,_,_,_,_,_,_]) ?_;intro q0 bq0;refine cL (aD ?_);refine aNf (i:=19) (j:=20) (m:=21) (q:=22) (by kernel_rfl) rfl rfl rfl rfl ?_ ?_ ?_ ?_;all_goals
   go_wp2_with fail
   refine eQ ?_;intro q1 hbq1 zq1 seq1;refine bJ bq0 hbq1 ?_;intro bq1 lq1
  all_goals first
   | refine qQ (i:=20) (j:=21) (m:=22) (by decide +kernel) rfl rfl rfl ?_ ?_ ?_
   | refine qQ (i:=19) (j:=21) (m:=22) (by decide +kernel) rfl rfl rfl ?_ ?_ ?_
   | refine qQ (i:=19) (j:=20) (m:=22) (by decide +kernel) rfl rfl rfl ?_ ?_ ?_
   | refine qQ (i:=19) (j:=20) (m:=21) (by decide +kernel) rfl rfl rfl ?_ ?_ ?_
  all_goals
   go_wp2_with fail
   refine eQ ?_;intro q2 hbq2 zq2 seq2;replace zq1:=zq1.keep hbq2;refine bJ bq1 hbq2 ?_;intro bq2 lq2
  all_goals first
   | refine nX (i:=19) (j:=20) (by decide +kernel) rfl rfl ?_ ?_
   | refine nX (i:=19) (j:=21) (by decide +kernel) rfl rfl ?_ ?_
   | refine nX (i:=19) (j:=22) (by decide +kernel) rfl rfl ?_ ?_
   | refine nX (i:=20) (j:=21) (by decide +kernel) rfl rfl ?_ ?_
   | refine nX (i:=20) (j:=22) (by decide +kernel) rfl rfl ?_ ?_
   | refine nX (i:=21) (j:=22) (by decide +kernel) rfl rfl ?_ ?_
  all_goals
   go_wp2_with fail
   refine eQ ?_;intro q3 hbq3 zq3 seq3;replace zq1:=zq1.keep hbq3;replace zq2:=zq2.keep hbq3;refine bJ bq2 hbq3 ?_;intro bq3 lq3
  all_goals first
   | refine mO (i:=19) (by decide +kernel) rfl ?_
   | refine mO (i:=20) (by decide +kernel) rfl ?_
   | refine mO (i:=21) (by decide +kernel) rfl ?_
   | refine mO (i:=22) (by decide +kernel) rfl ?_
  all_goals
   go_wp2_with fail
   refine eQ ?_;intro q4 hbq4 zq4 seq4;replace zq1:=zq1.keep hbq4;replace zq2:=zq2.keep hbq4;replace zq3:=zq3.keep hbq4;refine bJ bq3 hbq4 ?_;intro bq4 lq4
  all_goals
   obtain ⟨d10,d11,d12,e10,e11,e12⟩:=cA zq1;have sb1:wx.heap.size≤q0.heap.size:=bq0.size;obtain ⟨d20,d21,d22,e20,e21,e22⟩:=cA zq2;have sb2:wx.heap.size≤q1.heap.size:=bq1.size;obtain ⟨d30,d31,d32,e30,e31,e32⟩:=cA zq3;have sb3:wx.heap.size≤q2.heap.size:=bq2.size;obtain ⟨d40,d41,d42,e40,e41,e42⟩:=cA zq4;have sb4:wx.heap.size≤q3.heap.size:=bq3.size;have n01:q0.heap.size≠q1.heap.size:=by omega
   have n02:q0.heap.size≠q2.heap.size:=by omega
   have n03:q0.heap.size≠q3.heap.size:=by omega
   have n10:q1.heap.size≠q0.heap.size:=by omega
   have n12:q1.heap.size≠q2.heap.size:=by omega
   have n13:q1.heap.size≠q3.heap.size:=by omega
   have n20:q2.heap.size≠q0.heap.size:=by omega
   have n21:q2.heap.size≠q1.heap.size:=by omega
   have n23:q2.heap.size≠q3.heap.size:=by omega
   have n30:q3.heap.size≠q0.heap.size:=by omega
   have n31:q3.heap.size≠q1.heap.size:=by omega
   have n32:q3.heap.size≠q2.heap.size:=by omega
   refine bG 23 ?_;go_wp2_with fail
   refine aH (oY bq4 (by assumption)) ?_;refine bG 24 ?_;go_wp2_with fail
   refine aH (oY (oY bq4 (by assumption)) (by assumption)) ?_;refine bG 25 ?_;go_wp2_with fail
   refine aH (oY (oY (oY bq4 (by assumption)) (by assumption)) (by assumption)) ?_;refine cY [26] (lB:=[_]) ?_;go_wp2_with fail
   go_meet
   exact ⟨_,_,_,_,rfl,rfl,rfl,rfl,aCt (by assumption) (by assumption) (by assumption) (by assumption) (by assumption) (by assumption) (by assumption) (by assumption) (by assumption) (by assumption) bq4 (by assumption) (by assumption) (by assumption) (by assumption)⟩
 case rest=>
  obtain ⟨g4,g5,g6,g7,rfl,rfl,rfl,rfl,hT4,hT5,hT6,hT7,hxy⟩:=hcut;clear ui1 ui2 ui3 uj1 uj2 uj3 um1 um2 um3 uy1 uy2 uy3 uz1 uz2 uz3 g0 g1' g2;go_upto_region 8 with fail
  refine aT ?_;intro wy hwy;subst hwy;have gy:Bw w wy:=gx.trans (hxy.mono gx.size);have hZy:=hZx.keep hxy;have rp:=rpx.below hxy;have rz:=rzx.below hxy;have r2:=r2x.below hxy;have ra:=rax.below hxy;obtain ⟨t40,t41,t42⟩:=kZ hT4;obtain ⟨t50,t51,t52⟩:=kZ hT5;obtain ⟨t60,t61,t62⟩:=kZ hT6;obtain ⟨t70,t71,t72⟩:=kZ hT7;refine fE wy [14,15,16,17] [0,1,4,5,6,7] 18 12 (lT:=[_,_,_,_,_,_]) ?_;intro q0 bq0;refine cL (aD ?_);refine oC 2 8 ?_ ?_;all_goals first
   | (go_wp2_with (go_at_call 92;refine (bL _ _ ⟨_,_,_,rfl⟩ _).mono ?_;rintro e q1 ⟨rfl,hbq1⟩);first|(replace rA:=rA.below hbq1;replace rB:=rB.below hbq1)|replace rA:=rA.below hbq1|replace rB:=rB.below hbq1)
   | (go_wp2_with fail;refine eF ?_;intro q1 hn;have hbq1:Bw q0 q1:=(by rw [hn];exact bw1);have zA:Blk q1 q0.heap.size #[.int .i64 k2,.int .i64 n2,.slice A2 s2.length c2,.int .i64 ka,.int .i64 na,.slice Aa sa.length ca]:=(by rw [hn];exact aC _ 25 _ rfl);clear hn;have rA:=fF zA hl2 hla ((r2.below bq0).below hbq1) ((ra.below bq0).below hbq1);clear zA;obtain ⟨aA,haA⟩:∃a,a=q0.heap.size:=⟨_,rfl⟩;rw [← haA] at rA;try replace rB:=rB.below hbq1)
   | (go_wp2_with fail;refine eF ?_;intro q1 hn;have hbq1:Bw q0 q1:=(by rw [hn];exact bw1);have zB:Blk q1 q0.heap.size #[.int .i64 kp,.int .i64 np,.slice Ap sp.length cp,.int .i64 kz,.int .i64 nz,.slice Az sz.length cz,.int .i64 k2,.int .i64 n2,.slice A2 s2.length c2,.int .i64 ka,.int .i64 na,.slice Aa sa.length ca]:=(by rw [hn];exact aC _ 25 _ rfl);clear hn;have rB:=uA zB hlp hlz hl2 hla ((rp.below bq0).below hbq1) ((rz.below bq0).below hbq1) ((r2.below bq0).below hbq1) ((ra.below bq0).below hbq1);clear zB;obtain ⟨aB,haB⟩:∃a,a=q0.heap.size:=⟨_,rfl⟩;rw [← haB] at rB;try replace rA:=rA.below hbq1)
  all_goals
   refine bJ bq0 hbq1 ?_;intro bq1 lq1
  all_goals first
   | refine nX (i:=3) (j:=8) (by decide +kernel) rfl rfl ?_ ?_
   | refine mO (i:=2) (by decide +kernel) rfl ?_
  all_goals first
   | (go_wp2_with (go_at_call 92;refine (bL _ _ ⟨_,_,_,rfl⟩ _).mono ?_;rintro e q2 ⟨rfl,hbq2⟩);first|(replace rA:=rA.below hbq2;replace rB:=rB.below hbq2)|replace rA:=rA.below hbq2|replace rB:=rB.below hbq2)
   | (go_wp2_with fail;refine eF ?_;intro q2 hn;have hbq2:Bw q1 q2:=(by rw [hn];exact bw1);have zA:Blk q2 q1.heap.size #[.int .i64 k2,.int .i64 n2,.slice A2 s2.length c2,.int .i64 ka,.int .i64 na,.slice Aa sa.length ca]:=(by rw [hn];exact aC _ 25 _ rfl);clear hn;have rA:=fF zA hl2 hla ((r2.below bq1).below hbq2) ((ra.below bq1).below hbq2);clear zA;obtain ⟨aA,haA⟩:∃a,a=q1.heap.size:=⟨_,rfl⟩;rw [← haA] at rA;try replace rB:=rB.below hbq2)
   | (go_wp2_with fail;refine eF ?_;intro q2 hn;have hbq2:Bw q1 q2:=(by rw [hn];exact bw1);have zB:Blk q2 q1.heap.size #[.int .i64 kp,.int .i64 np,.slice Ap sp.length cp,.int .i64 kz,.int .i64 nz,.slice Az sz.length cz,.int .i64 k2,.int .i64 n2,.slice A2 s2.length c2,.int .i64 ka,.int .i64 na,.slice Aa sa.length ca]:=(by rw [hn];exact aC _ 25 _ rfl);clear hn;have rB:=uA zB hlp hlz hl2 hla ((rp.below bq1).below hbq2) ((rz.below bq1).below hbq2) ((r2.below bq1).below hbq2) ((ra.below bq1).below hbq2);clear zB;obtain ⟨aB,haB⟩:∃a,a=q1.heap.size:=⟨_,rfl⟩;rw [← haB] at rB;try replace rA:=rA.below hbq2)
  all_goals
   refine bJ bq1 hbq2 ?_;intro bq2 lq2
  all_goals first
   | refine mO (i:=8) (by decide +kernel) rfl ?_
   | refine mO (i:=3) (by decide +kernel) rfl ?_
  all_goals first
   | (go_wp2_with (go_at_call 92;refine (bL _ _ ⟨_,_,_,rfl⟩ _).mono ?_;rintro e q3 ⟨rfl,hbq3⟩);first|(replace rA:=rA.below hbq3;replace rB:=rB.below hbq3)|replace rA:=rA.below hbq3|replace rB:=rB.below hbq3)
   | (go_wp2_with fail;refine eF ?_;intro q3 hn;have hbq3:Bw q2 q3:=(by rw [hn];exact bw1);have zA:Blk q3 q2.heap.size #[.int .i64 k2,.int .i64 n2,.slice A2 s2.length c2,.int .i64 ka,.int .i64 na,.slice Aa sa.length ca]:=(by rw [hn];exact aC _ 25 _ rfl);clear hn;have rA:=fF zA hl2 hla ((r2.below bq2).below hbq3) ((ra.below bq2).below hbq3);clear zA;obtain ⟨aA,haA⟩:∃a,a=q2.heap.size:=⟨_,rfl⟩;rw [← haA] at rA;try replace rB:=rB.below hbq3)
   | (go_wp2_with fail;refine eF ?_;intro q3 hn;have hbq3:Bw q2 q3:=(by rw [hn];exact bw1);have zB:Blk q3 q2.heap.size #[.int .i64 kp,.int .i64 np,.slice Ap sp.length cp,.int .i64 kz,.int .i64 nz,.slice Az sz.length cz,.int .i64 k2,.int .i64 n2,.slice A2 s2.length c2,.int .i64 ka,.int .i64 na,.slice Aa sa.length ca]:=(by rw [hn];exact aC _ 25 _ rfl);clear hn;have rB:=uA zB hlp hlz hl2 hla ((rp.below bq2).below hbq3) ((rz.below bq2).below hbq3) ((r2.below bq2).below hbq3) ((ra.below bq2).below hbq3);clear zB;obtain ⟨aB,haB⟩:∃a,a=q2.heap.size:=⟨_,rfl⟩;rw [← haB] at rB;try replace rA:=rA.below hbq3)
  all_goals
   refine bJ bq2 hbq3 ?_;intro bq3 lq3
  all_goals first
   | refine mO (i:=9) (by decide +kernel) rfl ?_
  all_goals first
   | (go_wp2_with (go_at_call 92;refine (bL _ _ ⟨_,_,_,rfl⟩ _).mono ?_;rintro e q4 ⟨rfl,hbq4⟩);first|(replace rA:=rA.below hbq4;replace rB:=rB.below hbq4)|replace rA:=rA.below hbq4|replace rB:=rB.below hbq4)
   | (go_wp2_with fail;refine eF ?_;intro q4 hn;have hbq4:Bw q3 q4:=(by rw [hn];exact bw1);have zA:Blk q4 q3.heap.size #[.int .i64 k2,.int .i64 n2,.slice A2 s2.length c2,.int .i64 ka,.int .i64 na,.slice Aa sa.length ca]:=(by rw [hn];exact aC _ 25 _ rfl);clear hn;have rA:=fF zA hl2 hla ((r2.below bq3).below hbq4) ((ra.below bq3).below hbq4);clear zA;obtain ⟨aA,haA⟩:∃a,a=q3.heap.size:=⟨_,rfl⟩;rw [← haA] at rA;try replace rB:=rB.below hbq4)
   | (go_wp2_with fail;refine eF ?_;intro q4 hn;have hbq4:Bw q3 q4:=(by rw [hn];exact bw1);have zB:Blk q4 q3.heap.size #[.int .i64 kp,.int .i64 np,.slice Ap sp.length cp,.int .i64 kz,.int .i64 nz,.slice Az sz.length cz,.int .i64 k2,.int .i64 n2,.slice A2 s2.length c2,.int .i64 ka,.int .i64 na,.slice Aa sa.length ca]:=(by rw [hn];exact aC _ 25 _ rfl);clear hn;have rB:=uA zB hlp hlz hl2 hla ((rp.below bq3).below hbq4) ((rz.below bq3).below hbq4) ((r2.below bq3).below hbq4) ((ra.below bq3).below hbq4);clear zB;obtain ⟨aB,haB⟩:∃a,a=q3.heap.size:=⟨_,rfl⟩;rw [← haB] at rB;try replace rA:=rA.below hbq4)
  all_goals
   refine bJ bq3 hbq4 ?_;intro bq4 lq4
  all_goals
   refine bG 10 ?_;go_wp2_with fail
   refine eF ?_;intro q5 hn;have hbq5:Bw q4 q5:=by rw [hn];exact bw1
   have zq5:Blk q5 q4.heap.size #[.int .i64 5,.int .i64 0,.slice (some ⟨aA,0,none⟩) 2 2,.int .i64 9,.int .i64 0,.slice (some ⟨aB,0,none⟩) 4 4]:=by rw [hn,haA,haB];exact aC _ 25 _ rfl
   clear hn;have rq5:Rd q5 (some ⟨q4.heap.size,0,none⟩) 0 [.mk 5 0 [.mk k2 n2 s2,.mk ka na sa],.mk 9 0 [.mk kp np sp,.mk kz nz sz,.mk k2 n2 s2,.mk ka na sa]]:=fF (s0:=[.mk k2 n2 s2,.mk ka na sa]) (s1:=[.mk kp np sp,.mk kz nz sz,.mk k2 n2 s2,.mk ka na sa]) zq5 (by simp) (by simp) (rA.below hbq5) (rB.below hbq5);refine bJ bq4 hbq5 ?_;intro bq5 lq5;refine bG 11 ?_;go_wp2_with (go_at_call 92;refine (bL 5 _ ⟨_,_,_,rfl⟩ _).mono ?_;rintro e q6 ⟨rfl,hbq6⟩)
   have Tq6:=rq5.below hbq6;refine bJ bq5 hbq6 ?_;intro bq6 lq6;refine bG 12 ?_;go_wp2_with (go_at_call 26;refine (gF 10000 5 0 [.mk 5 0 [.mk k2 n2 s2,.mk ka na sa],.mk 9 0 [.mk kp np sp,.mk kz nz sz,.mk k2 n2 s2,.mk ka na sa]] _ 2 _ (by simp only [aG,Tm.size];omega) (by simp only [aG,Tm.size];omega) Tq6).mono ?_;rintro e q7 ⟨A8,c8,rfl,hl8,hfq7,hbq7⟩)
   have hgq7:=hfq7.mono (B':=wy.heap.size) bq6.size;refine bJ bq6 hbq7 ?_;intro bq7 lq7;refine bG 13 ?_;have hZ7:=hZy.keep bq7;have gf7:=gy.trans (bq7.mono gy.size);have sy:=gy.size;have lzy:=hZy.lt;cases hvr0:aE (.mk 5 0 [.mk 5 0 [.mk k2 n2 s2,.mk ka na sa],.mk 9 0 [.mk kp np sp,.mk kz nz sz,.mk k2 n2 s2,.mk ka na sa]]) with
   | false=>
    obtain rfl:o=none:=by rw [← ho.out,vO,hvr0];rfl
    have hvr:=aD hvr0;clear hvr0 ho;go_wp2_with (go_at_call 119;refine (xC 5 0 _ A8 c8 _ (by simp only [aG,Tm.size];omega) hgq7.rd hvr.out).mono ?_;rintro e q8 ⟨rfl,hbq8⟩)
    have Oq8:=hgq7.below hbq8;have bq8:Bw wy q8:=bq7.trans (hbq8.mono bq7.size);refine aH bq8 ?_;refine jW [14,15] 2 (lT:=[_,_]) ?_;refine cL (aD ?_);refine cY [16,17] (lB:=[_,_]) ?_;have hZ2:=hZy.keep bq8;obtain ⟨d0,d1,d2,e0,e1,e2⟩:=cA hZ2;have gf:=gy.trans (bq8.mono gy.size);go_wp2_with fail
    refine bodyPost_ret (v:=.tuple #[dC,.bool false]) (by simp [results,results124,go_sem,d0,d1,d2,dC]) rfl ⟨rfl,?_⟩;exact ((gf.setCell (by simp) _).setCell (by simp) _).setCell (by simp) _
   | true=>
    obtain rfl:o=some (.mk 5 0 [.mk 5 0 [.mk k2 n2 s2,.mk ka na sa],.mk 9 0 [.mk kp np sp,.mk kz nz sz,.mk k2 n2 s2,.mk ka na sa]]):=by rw [← ho.out,vO,hvr0];rfl
    have hvr:=aD hvr0;clear hvr0 ho;go_wp2_with (go_at_call 119;refine (gQ 5 0 _ A8 c8 _ (by simp only [aG,Tm.size];omega) hgq7.rd hvr.out).mono ?_;rintro e q8 ⟨rfl,hbq8⟩)
    have Oq8:=hgq7.below hbq8;have bq8:Bw wy q8:=bq7.trans (hbq8.mono bq7.size);refine aH bq8 ?_;refine jW [14,15] 2 (lT:=[_,_]) ?_;refine cL (aD ?_);refine cY [16,17] (lB:=[_,_]) ?_;have hZ2:=hZy.keep bq8;obtain ⟨d0,d1,d2,e0,e1,e2⟩:=cA hZ2;have gf:=gy.trans (bq8.mono gy.size);go_wp2_with fail
    refine bodyPost_ret (v:=.tuple #[.agg (Ro 5 0 A8 2 c8),.bool true]) (by simp [results,results124,go_sem,d0,d1,d2,dC]) rfl ⟨A8,c8,rfl,by simp [Tm.ks],?_,?_⟩
    ·exact (((Oq8.setCell (by simp;omega) _).setCell (by simp;omega) _).setCell (by simp;omega) _).mono (by omega)
    ·exact ((gf.setCell (by simp) _).setCell (by simp) _).setCell (by simp) _
theorem lD (k n:Int)(ks:List Tm)(A:Option Addr)(c:Nat)(w:World)(hv:aE (.mk k n ks)=true)(hx:cT k ks≠0)(hr:Rd w A 0 ks) :
  Calls prog 124 #[.agg (Ro k n A ks.length c)] w (oX w (oV (.mk k n ks))):=by
 have har:=(bC hv).1;rcases aOi hx with ⟨h,rfl,h2⟩|⟨h,rfl,h2⟩|⟨h,rfl,h2⟩|⟨h,rfl,h2⟩|⟨h,rfl,h2⟩|⟨h,rfl,h2⟩
 ·obtain ⟨a,b,rfl⟩:=qK (l:=ks) (by have:aW 5=2:=rfl;omega);obtain ⟨k0,n0,s0⟩:=a;obtain ⟨k1,n1,s1⟩:=b;obtain rfl:k0=4:=h2;have ha0:=(bC (aX hv (t:=.mk 4 n0 s0) (by simp))).1;obtain ⟨x,y,rfl⟩:=qK (l:=s0) (by have:aW 4=2:=rfl;omega);obtain ⟨ka,na,kas⟩:=x;obtain ⟨kb,nb,kbs⟩:=y;exact aSn n n0 ka na kas kb nb kbs k1 n1 s1 A c w hv hr
 ·obtain ⟨a,b,x,d,rfl⟩:=aIx (l:=ks) (by have:aW 9=4:=rfl;omega);obtain ⟨k1,n1,s1⟩:=b;obtain ⟨k3,n3,s3⟩:=d;obtain rfl:k3=7:=h2;have hz:oV (.mk 9 n [a,.mk k1 n1 s1,x,.mk 7 n3 s3])=some (.mk k1 n1 s1):=by
   show vO (.mk k1 n1 s1)=_
   rw [vO,if_pos (aX hv (by simp))]
  rw [hz];exact aUc n a k1 n1 s1 x n3 s3 A c w hv hr
 ·obtain ⟨a,b,x,d,rfl⟩:=aIx (l:=ks) (by have:aW 9=4:=rfl;omega);obtain ⟨kp,np,sp⟩:=a;obtain ⟨kz,nz,sz⟩:=b;obtain ⟨k2,n2,s2⟩:=x;obtain ⟨k3,n8,s3⟩:=d;obtain rfl:k3=8:=h2;have ha0:=(bC (aX hv (t:=.mk 8 n8 s3) (by simp))).1;obtain ⟨x,rfl⟩:=aAl (l:=s3) (by have:aW 8=1:=rfl;omega);obtain ⟨ka,na,sa⟩:=x;have hz:oV (.mk 9 n [.mk kp np sp,.mk kz nz sz,.mk k2 n2 s2,.mk 8 n8 [.mk ka na sa]])=vO (.mk 5 0 [.mk 5 0 [.mk k2 n2 s2,.mk ka na sa],.mk 9 0 [.mk kp np sp,.mk kz nz sz,.mk k2 n2 s2,.mk ka na sa]]):=rfl;rw [hz];exact aTk n kp np sp kz nz sz k2 n2 s2 n8 ka na sa A c w hv hr _ rfl
 ·obtain ⟨a,b,x,rfl⟩:=uQ (l:=ks) (by have:aW 12=3:=rfl;omega);obtain ⟨k1,n1,s1⟩:=x;obtain ⟨k3,n3,s3⟩:=b;obtain rfl:k3=11:=h2;have hz:oV (.mk 12 n [a,.mk 11 n3 s3,.mk k1 n1 s1])=some (.mk k1 n1 s1):=by
   show vO (.mk k1 n1 s1)=_
   rw [vO,if_pos (aX hv (by simp))]
  rw [hz];exact aUd n a n3 s3 k1 n1 s1 A c w hv hr
 ·obtain ⟨a,rfl⟩:=aAl (l:=ks) (by have:aW 15=1:=rfl;omega);obtain ⟨k3,n3,s3⟩:=a;obtain rfl:k3=14:=h2;have hv0:=aX hv (t:=.mk 14 n3 s3) (by simp);have ha0:=(bC hv0).1;obtain ⟨a,b,x,rfl⟩:=uQ (l:=s3) (by have:aW 14=3:=rfl;omega);obtain ⟨k1,n1,s1⟩:=b;have hz:oV (.mk 15 n [.mk 14 n3 [a,.mk k1 n1 s1,x]])=some (.mk k1 n1 s1):=by
   show vO (.mk k1 n1 s1)=_
   rw [vO,if_pos (aX hv0 (by simp))]
  rw [hz];exact aUb n n3 a k1 n1 s1 x A c w hv hr
 ·obtain ⟨a,rfl⟩:=aAl (l:=ks) (by have:aW 16=1:=rfl;omega);obtain ⟨k3,n3,s3⟩:=a;obtain rfl:k3=14:=h2;have hv0:=aX hv (t:=.mk 14 n3 s3) (by simp);have ha0:=(bC hv0).1;obtain ⟨a,b,x,rfl⟩:=uQ (l:=s3) (by have:aW 14=3:=rfl;omega);obtain ⟨k1,n1,s1⟩:=x;have hz:oV (.mk 16 n [.mk 14 n3 [a,b,.mk k1 n1 s1]])=some (.mk k1 n1 s1):=by
   show vO (.mk k1 n1 s1)=_
   rw [vO,if_pos (aX hv0 (by simp))]
  rw [hz];exact aTl n n3 a b k1 n1 s1 A c w hv hr
end Go.Proofs.YtddkehjdjfmhmaaGreat
