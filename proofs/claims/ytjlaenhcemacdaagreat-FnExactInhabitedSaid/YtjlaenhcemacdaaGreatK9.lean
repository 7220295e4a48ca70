/- Parts of the proof. No condition. -/
import Derived.Test.YtjlaenhcemacdaaGreatK7
import Derived.Deep.DeepCutAuto
open Go.Proofs.Tryz
namespace Go.Proofs.YtjlaenhcemacdaaGreat
open Go.RowKit
set_option maxHeartbeats 8000000
set_option maxRecDepth 100000
set_option linter.unusedSimpArgs false
set_option linter.unusedVariables false
theorem cF {S:Bb->Prop}{K:Act->Bb->Prop}{Q:Exit->Act->Bb->Prop}{a:Act}{w:Bb}(h:∀wx,wx=w->rX S K Q .normal a wx):rX S K Q .normal a w:=h w rfl
def aXm (p:Nat->Prop)(w:Bb)(t:Tm)(e:Ending)(w':Bb):Prop:=
 ∃A c,e = .returned (.agg (Ro t.k t.n A t.ks.length c))/\t.ks.length<=9223372036854775807/\RdP (λb=>p b\/w.heap.size<=b) w' A 0 t.ks/\Bw w w'
theorem aJg {p:Nat->Prop}{w:Bb}{k n:Int}{ks:List Tm}{e:Ending}{w':Bb}(h:aXm p w (.mk k n ks) e w'):∃A c,e = .returned (.agg (Ro k n A ks.length c))/\ks.length<=9223372036854775807/\RdP (λb=>p b\/w.heap.size<=b) w' A 0 ks/\Bw w w':=h
theorem aKi {b off cp:Nat}{is:List Int}{x:Int}{w0:Bb}(hcp:is.length+1<=cp)(hi:RdI w0 (some ⟨b,off,none⟩) (x::is)) :
  ∃off',(∀w,(Instr.sliceAt 27 (.slice (some ⟨b,off,none⟩) (is.length+1) cp) (some (.int .i64 1)) none none).run prog w = .ok (.slice (some ⟨b,off',none⟩) is.length (cp - 1)) w)/\RdI w0 (some ⟨b,off',none⟩) is:=by
 have hu:prog.underlying 27=some (.slice (prog.elem 27)):=by kernel_rfl
 have he:prog.elem 27=3:=by kernel_rfl
 have hs:∀w,(sizeOf 3).run prog w = .ok 1 w:=λw=>by kernel_rfl
 refine ⟨if cp=1 then off else off+1,λw=>?_,λj hj=>?_⟩
 ·rw [run_sliceAt_slice (t:=27) (h:=hu),run_slice_l (t:=27) (ht:=hu) (h0:=by omega) (h1:=by omega),he,hs];simp only [Result.andThen,sliced];by_cases h:cp=1
  ·simp [h]
  ·simp [h,Addr.add]
 ·obtain ⟨b1,off1,hA,hc⟩:=hi (j+1) (by simpa using hj);injection hA with hA;injection hA with e1 e2;subst e1 e2;refine ⟨_,_,rfl,?_⟩;rw [Aw Ac];rw [show off+1+j=off+(j+1) from by omega];simpa using hc
theorem aFb (p:Nat->Prop)(ku nu:Int)(us:List Tm)(hus:aG us<=1000000):∀(xs:List Int) (k n:Int) (ks:List Tm) (A:Ba) (c:Nat) (P:Ba) (cp:Nat) (U:Ba) (cu:Nat) (w:Bb) (u0:Tm),nN (.mk k n ks) xs=some u0->xs.length<=cp->aG ks<=1000000->RdP p w A 0 ks->RdI w P xs->RdP p w U 0 us->(∀b,p b->b<w.heap.size)->
  Calls prog 135 #[.agg (Ro k n A ks.length c),.slice P xs.length cp,.agg (Ro ku nu U us.length cu)] w (aXm p w (kR (.mk k n ks) xs (.mk ku nu us)))
 | [],k,n,ks,A,c,P,cp,U,cu,w,u0,h,hcp,hM,hr,hi,hru,hpw=>by
  have hlu:=aJ us;rw [kR];go_enter func135,ntmps135;go_wp2_with fail;refine bodyPost_ret (v:=.agg (Ro ku nu U us.length cu)) (by simp [results,results135,go_sem]) rfl ⟨U,cu,rfl,by simp [Tm.ks];omega,?_,?_⟩
  ·exact (((hru.alloc _).alloc _).alloc _).mono (λb h=>Or.inl h)
  ·exact bw3
 | x::is,k,n,ks,A,c,P,cp,U,cu,w,u0,h,hcp,hM,hr,hi,hru,hpw=>by
  have hlen:=aJ ks;have hlu:=aJ us;rw [nN] at h;split at h
  case isFalse=>cases h
  rename_i hh;have hx2:x<ks.length:=hh.2;obtain ⟨i,rfl⟩:∃i:Nat,x=(i:Int):=⟨x.toNat,by omega⟩;have hik:i<ks.length:=by omega
  have h0:=aD h;clear h hh;obtain ⟨b3,o3,k3,n3,ks3,A3,c3,rfl,hkj,hc1,hc2,hc3,hl3,hr3⟩:=hr.at_ hik;have hsz:=cG (gM hik);rw [hkj] at hsz;simp only [Tm.size] at hsz;have e3:ks.getD (i:Int).toNat default = .mk k3 n3 ks3:=by rw [Int.toNat_natCast,List.getD_eq_getElem?_getD,sE hik,Option.getD_some,hkj]
  have h1:nN (.mk k3 n3 ks3) is=some u0:=by have:=h0.out;rw [show (Tm.mk k n ks).kids=ks from rfl,e3] at this;exact this
  have h1':=aD h1;obtain ⟨b,off,rfl,hp0⟩:=hi 0 Ag;obtain ⟨off',ht,hti⟩:=aKi (by simpa using hcp) hi;simp only [List.getElem_cons_zero,Nat.add_zero] at hp0;obtain ⟨pk,pn,pks,hput⟩:∃pk pn pks,kR (.mk k3 n3 ks3) is (.mk ku nu us) = .mk pk pn pks:=by cases kR (.mk k3 n3 ks3) is (.mk ku nu us) with|mk a b c=>exact ⟨a,b,c,rfl⟩
  have hput':=aD hput;have hres:kR (.mk k n ks) ((i:Int)::is) (.mk ku nu us) = .mk k n (ks.set i (.mk pk pn pks)):=by rw [kR,e3,hput,Int.toNat_natCast]
  have hres':=aD hres;have hcp':is.length+1<=cp:=by simpa using hcp
  have q3:(((is.length:Nat):Int)+1==0)=false:=by simp;omega
  have q4:(0:Int)<((is.length:Nat):Int)+1:=by omega
  have hlk:(i:Int)<(ks.length:Int):=by omega
  clear h1 hput hres e3 hkj hx2;rw [List.length_cons];go_enter func135,ntmps135;go_wp2_with fail;refine rM (show Blk _ w.heap.size (Ro k n (some ⟨b3,o3,none⟩) ks.length c) from (((aC _ 32 _ rfl).alloc _).alloc _)) (show Blk _ (w.heap.size+1) (Ro ku nu U us.length cu) from ((aC _ 32 _ Ag).alloc _)) (show Blk _ (w.heap.size+1+1) Zr from (aC _ 32 _ Ag)) bw3 ?_;intro wx h0x h1x h2x bx hwx;have lx:=h2x.lt;clear hwx;have rx:=hr.below bx;obtain ⟨g0,g1,g2⟩:=fW h0x;go_cut [7] (λs7 wy=>∃(g7 g c7:Nat) (q:Nat->Prop),s7 = .pointer (some ⟨g7,0,none⟩)/\Blk wy g7 (Ro k n (some ⟨g,0,none⟩) ks.length c7)/\RowT q wy g ks/\¬q g/\(∀b,q b->p b\/wx.heap.size<=b)/\Bw wx wy/\wx.heap.size<=g7/\wx.heap.size<=g/\g≠g7)
  case first=>
   refine eK wx [7,9] [0,1,2,3,4,5] 10 4 (lT:=[_,_,_,_,_,_]) ?_;intro q0 bq0;refine bU (aD ?_);refine mW 6 8 ?_ ?_
   ·have swq1:=bq0.size;go_wp2_with (go_at_call 94;refine (jM p ks _ c _ Ac (rx.below bq0) (λb hb=>by have:=hpw b hb;omega)).mono ?_;rintro e q1 ⟨A7,c7,rfl,hPq1,hbq1⟩;obtain ⟨g,rfl,-,hBg,hgl,hRq1⟩:=hPq1.rowS Ac);refine aV bq0 hbq1 ?_;intro bq1 lq1;refine fB [7] 2 (lT:=[_]) ?_;refine bU (aD ?_);refine aZ 8 ?_
    ·have szq2:=bq1.size;go_wp2_with fail;refine cF ?_;intro q2 hn;have bq2:Bw wx q2:=by rw [hn];exact bq1.alloc szq2 _
     have zq2:Blk q2 q1.heap.size Zr:=by rw [hn];exact aC _ 32 _ rfl
     have eq2:q2.heap.size=q1.heap.size+1:=by rw [hn];simp
     have kq2:Bw q1 q2:=by rw [hn];exact bw1
     have seq2:q1.heap.size<q2.heap.size:=by omega
     clear hn eq2;have Rq2:=hRq1.below kq2;refine aS bq2 ?_;refine cK [9] (lB:=[_]) ?_;obtain ⟨d0,d1,d2,e0,e1,e2,szl⟩:=dN zq2;have szb:wx.heap.size<=q1.heap.size:=by first|exact bq0.size|exact bq1.size
     have sxx:=bx.size;have hgb:wx.heap.size<=g:=by have:=bq0.size;omega
     have hgz:g≠q1.heap.size:=by omega
     have hnz:¬((p q1.heap.size\/q0.heap.size<=q1.heap.size)/\q1.heap.size<q1.heap.size/\q1.heap.size≠g):=by
      rintro ⟨h|h,h2,-⟩
      ·have:=hpw _ h;omega
      ·omega
     go_wp2_with fail;go_meet
     exact ⟨q1.heap.size,g,c7,_,rfl,((zq2.set_ 0 _).set_ 1 _).set_ 2 _,((Rq2.setCell (a:=⟨q1.heap.size,0,none⟩) hnz hgz _).setCell (a:=⟨q1.heap.size,1,none⟩) hnz hgz _).setCell (a:=⟨q1.heap.size,2,none⟩) hnz hgz _,(λh=>h.2.2 rfl),(λb hb=>hb.1.imp id λh=>Nat.le_trans (by have:=bq0.size;omega) h),(bV bq2),szb,hgb,hgz⟩
   ·have szq3:=bq0.size;go_wp2_with fail;refine cF ?_;intro q3 hn;have bq3:Bw wx q3:=by rw [hn];exact bq0.alloc szq3 _
    have zq3:Blk q3 q0.heap.size Zr:=by rw [hn];exact aC _ 32 _ rfl
    have eq3:q3.heap.size=q0.heap.size+1:=by rw [hn];simp
    have kq3:Bw q0 q3:=by rw [hn];exact bw1
    have seq3:q0.heap.size<q3.heap.size:=by omega
    clear hn eq3;refine aS bq3 ?_;refine aZ 6 ?_
    ·have swq4:=bq3.size;have szzq4:=zq3.lt;go_wp2_with (go_at_call 94;refine (jM p ks _ c _ Ac (rx.below bq3) (λb hb=>by have:=hpw b hb;omega)).mono ?_;rintro e q4 ⟨A7,c7,rfl,hPq4,hbq4⟩;obtain ⟨g,rfl,-,hBg,hgl,hRq4⟩:=hPq4.rowS Ac);have zq4:=zq3.keep hbq4;refine aV bq3 hbq4 ?_;intro bq4 lq4;refine fB [7] 1 (lT:=[_]) ?_;refine bU (aD ?_);refine cK [9] (lB:=[_]) ?_;obtain ⟨d0,d1,d2,e0,e1,e2,szl⟩:=dN zq4;have szb:wx.heap.size<=q0.heap.size:=by first|exact bq0.size|exact bq0.size
     have sxx:=bx.size;have hgb:wx.heap.size<=g:=by have:=bq3.size;omega
     have hgz:g≠q0.heap.size:=by omega
     have hnz:¬((p q0.heap.size\/q3.heap.size<=q0.heap.size)/\q0.heap.size<q4.heap.size/\q0.heap.size≠g):=by
      rintro ⟨h|h,h2,-⟩
      ·have:=hpw _ h;omega
      ·omega
     go_wp2_with fail;go_meet
     exact ⟨q0.heap.size,g,c7,_,rfl,((zq4.set_ 0 _).set_ 1 _).set_ 2 _,((hRq4.setCell (a:=⟨q0.heap.size,0,none⟩) hnz hgz _).setCell (a:=⟨q0.heap.size,1,none⟩) hnz hgz _).setCell (a:=⟨q0.heap.size,2,none⟩) hnz hgz _,(λh=>h.2.2 rfl),(λb hb=>hb.1.imp id λh=>Nat.le_trans (by have:=bq3.size;omega) h),(bV bq4),szb,hgb,hgz⟩
  case rest=>
   obtain ⟨g7,g,c7,q,rfl,hT7,hRow,hqg,hqp,hxy,hg7,hg,hgne⟩:=hcut;clear g0 g1 g2;go_upto_region 4 with fail
   refine aU ?_;intro wy hwy;subst hwy;have sxy:=hxy.size;have by_:Bw w wy:=bx.trans (hxy.mono bx.size);have h0y:=h0x.keep hxy;have h1y:=h1x.keep hxy;have h2y:=h2x.keep hxy;have ruy:=hru.below by_;have r3y:=hr3.below by_;have hiy:=hti.below by_;obtain ⟨g0,g1,g2⟩:=fW h0y;obtain ⟨v0,v1,v2⟩:=fW h1y;have u0':=aF hT7.three.1;have u1':=aF hT7.three.2.1;have u2':=aF hT7.three.2.2;have y0:=aF ((cM by_) _ _ hc1);have y1:=aF ((cM by_) _ _ hc2);have y2:=aF ((cM by_) _ _ hc3);have p0:=aF ((cM by_) _ _ hp0);have htk:=aD (λw=>ht w);clear hc1 hc2 hc3 hp0;refine bQ (λw'=>Bw wy w') [0,1,2,3,4,5,6,7,8,9,10,11,12,13,14] [15] [16,17] [_,_,_,_,_,_,_,_,_,_,_,_,_,_,_] [_] [_,_] (by kernel_rfl) (by kernel_rfl) rfl rfl rfl (λ_ _ d _ _ h=>by cases d<;>exact h) (eI _ _).drew ?_;refine bU (aD ?_);refine bO ?_;clear g0 g1 g2 v0 v1 v2 y0 y1 y2 p0 ht u0' u1' u2';have lg7:=hT7.lt;have lg:=hRow.1.lt;go_wp2_with (go_at_call 135;refine (aFb p ku nu us hus is k3 n3 ks3 A3 c3 (some ⟨b,off',none⟩) (cp - 1) U cu wy.drew u0 h1'.out Ac Ac r3y.drew (hiy.below (eI _ _).drew) ruy.drew (λb hb=>by have:=hpw b hb;show b<wy.heap.size;omega)).mono ?_;rw [hput'.out];intro e w1 hgo;obtain ⟨A1,c1,rfl,hl1,hq1,hb1⟩:=aJg hgo;have b1:Bw wy w1:=(eI _ _).drew.trans hb1)
   refine aS b1 (eB ?_);have s1:=b1.size;have hT7a:=hT7.keep b1;have h2a:=h2y.keep b1;have hRow1:=hRow.below b1;obtain ⟨a0,ha0⟩:=hRow1.1.cell (j:=i*3) Ac;obtain ⟨a1,ha1⟩:=hRow1.1.cell (j:=i*3+1) Ac;obtain ⟨a2,ha2⟩:=hRow1.1.cell (j:=i*3+2) Ac;have z0:=hRow1.1.frozen (i*3);have z1:=hRow1.1.frozen (i*3+1);have z2:=hRow1.1.frozen (i*3+2);have q1:¬(λb=>p b\/wy.heap.size<=b) g:=by rintro (h|h);have:=hpw _ h;have:=bx.size;omega;omega
   have hfin:=hRow1.1.set hqg hik (cu:=c1) hl1 hq1 q1 (r:=λb=>p b\/wx.heap.size<=b) (λb hb=>hqp b hb) (λb hb=>hb.imp id λh=>Nat.le_trans sxy h) (.inr hg) (ku:=pk) (nu:=pn);obtain ⟨t0,t1,t2⟩:=hT7a.three;obtain ⟨d0,d1,d2,e0,e1,e2⟩:=bZ h2a;have sx0:=bx.size;have n1:g≠w.heap.size+1+1:=by omega
   have n2:g7≠w.heap.size+1+1:=by omega
   go_wp2_with fail;have hnr:∀o,¬(λb=>p b\/wx.heap.size<=b) (⟨w.heap.size+1+1,o,none⟩:Addr).block:=by
    rintro o (h|h)
    ·have:=hpw _ h;simp at this;omega
    ·simp at h;omega
   refine bodyPost_ret (v:=.agg (Ro k n (some ⟨g,0,none⟩) ks.length c7)) (by simp [results,results135,go_sem,d0,d1,d2,n1,n2]) rfl ?_;rw [hres'.out];refine ⟨some ⟨g,0,none⟩,c7,by simp [Tm.ks,Tm.k,Tm.n],by simp [Tm.ks];omega,?_,?_⟩
   ·exact (((hfin.setCell (hnr 0) _).setCell (hnr 1) _).setCell (hnr 2) _).mono (λb h=>h.imp id λh=>by omega)
   ·have hbb:=by_.trans (b1.mono by_.size);exact (((((hbb.setCell Ai _).setCell Ai _).setCell Ai _).setCell Ai _).setCell Ai _).setCell Ai _
theorem bC {t:Tm}(h:aE t=true):shape 30 t=true:=by simp only [aE,Bool.and_eq_true] at h;exact h.1
theorem bD {k n:Int}{ks:List Tm}(h:aE (.mk k n ks)=true):aX k=(ks.length:Int)/\0<=n/\n<=dL k:=by
 have:=(bH 29 k n ks).1 (bC h);exact ⟨this.1,this.2.1,this.2.2.1⟩
theorem mB {α:Type}:∀{l:List α},l.length=1->∃a,l=[a]
 | [a],_=>⟨a,rfl⟩
theorem kP {α:Type}:∀{l:List α},l.length=2->∃a b,l=[a,b]
 | [a,b],_=>⟨a,b,rfl⟩
theorem gA {α:Type}:∀{l:List α},l.length=3->∃a b c,l=[a,b,c]
 | [a,b,c],_=>⟨a,b,c,rfl⟩
theorem wJ {α:Type}:∀{l:List α},l.length=4->∃a b c d,l=[a,b,c,d]
 | [a,b,c,d],_=>⟨a,b,c,d,rfl⟩
theorem aIq {k:Int}{ks:List Tm}(h:rdx k ks≠0) :
  (rdx k ks = 1 /\ k = 5 /\ gN ks 0 = 4) \/ (rdx k ks = 2 /\ k = 9 /\ gN ks 3 = 7) \/ (rdx k ks = 3 /\ k = 9 /\ gN ks 3 = 8) \/ (rdx k ks = 4 /\ k = 12 /\ gN ks 1 = 11) \/ (rdx k ks = 5 /\ k = 15 /\ gN ks 0 = 14) \/ (rdx k ks = 6 /\ k = 16 /\ gN ks 0 = 14) := by
 unfold rdx at h⊢;by_cases h5:k=5
 ·rw [Av h5] at h⊢;by_cases h4:gN ks 0=4
  ·exact .inl ⟨by rw [Av h4],h5,h4⟩
  ·rw [Aw h4] at h;exact absurd rfl h
 rw [Aw h5] at h⊢;by_cases h9:k=9
 ·rw [Av h9] at h⊢;by_cases h7:gN ks 3=7
  ·exact .inr (.inl ⟨by rw [Av h7],h9,h7⟩)
  ·rw [Aw h7] at h⊢;by_cases h8:gN ks 3=8
   ·exact .inr (.inr (.inl ⟨by rw [Av h8],h9,h8⟩))
   ·rw [Aw h8] at h;exact absurd rfl h
 rw [Aw h9] at h⊢;by_cases h12:k=12
 ·rw [Av h12] at h⊢;by_cases h4:gN ks 1=11
  ·exact .inr (.inr (.inr (.inl ⟨by rw [Av h4],h12,h4⟩)))
  ·rw [Aw h4] at h;exact absurd rfl h
 rw [Aw h12] at h⊢;by_cases h15:k=15
 ·rw [Av h15] at h⊢;by_cases h4:gN ks 0=14
  ·exact .inr (.inr (.inr (.inr (.inl ⟨by rw [Av h4],h15,h4⟩))))
  ·rw [Aw h4] at h;exact absurd rfl h
 rw [Aw h15] at h⊢;by_cases h16:k=16
 ·rw [Av h16] at h⊢;by_cases h4:gN ks 0=14
  ·exact .inr (.inr (.inr (.inr (.inr ⟨by rw [Av h4],h16,h4⟩))))
  ·rw [Aw h4] at h;exact absurd rfl h
 rw [Aw h16] at h;exact absurd rfl h
section
variable {w:Bb}{g:Nat}{k0 n0 k1 n1 k2 n2 k3 n3:Int}{s0 s1 s2 s3:List Tm}{A0 A1 A2 A3:Ba}{c0 c1 c2 c3:Nat}
theorem aBm (hB:Blk w g (Ro k0 n0 A0 s0.length c0))(l0:s0.length<=9223372036854775807)(r0:Rd w A0 0 s0):Rd w (some ⟨g,0,none⟩) 0 [.mk k0 n0 s0]:=
 Rd.cons_iff.2 ⟨⟨g,0,rfl,RdC.iff.2 ⟨hB.at_ (i:=0) rfl,hB.at_ (i:=1) rfl,A0,c0,hB.at_ (i:=2) rfl,l0,r0⟩⟩,Rd.nil⟩
theorem dW (hB:Blk w g #[.int .i64 k0,.int .i64 n0,.slice A0 s0.length c0,.int .i64 k1,.int .i64 n1,.slice A1 s1.length c1])(l0:s0.length<=9223372036854775807)(l1:s1.length<=9223372036854775807)(r0:Rd w A0 0 s0)(r1:Rd w A1 0 s1):Rd w (some ⟨g,0,none⟩) 0 [.mk k0 n0 s0,.mk k1 n1 s1]:=
 Rd.cons_iff.2 ⟨⟨g,0,rfl,RdC.iff.2 ⟨hB.at_ (i:=0) rfl,hB.at_ (i:=1) rfl,A0,c0,hB.at_ (i:=2) rfl,l0,r0⟩⟩,
  Rd.cons_iff.2 ⟨⟨g,0,rfl,RdC.iff.2 ⟨hB.at_ (i:=3) rfl,hB.at_ (i:=4) rfl,A1,c1,hB.at_ (i:=5) rfl,l1,r1⟩⟩,Rd.nil⟩⟩
theorem aRw (hB:Blk w g #[.int .i64 k0,.int .i64 n0,.slice A0 s0.length c0,.int .i64 k1,.int .i64 n1,.slice A1 s1.length c1,.int .i64 k2,.int .i64 n2,.slice A2 s2.length c2])(l0:s0.length<=9223372036854775807)(l1:s1.length<=9223372036854775807)(l2:s2.length<=9223372036854775807)(r0:Rd w A0 0 s0)(r1:Rd w A1 0 s1)(r2:Rd w A2 0 s2):Rd w (some ⟨g,0,none⟩) 0 [.mk k0 n0 s0,.mk k1 n1 s1,.mk k2 n2 s2]:=
 Rd.cons_iff.2 ⟨⟨g,0,rfl,RdC.iff.2 ⟨hB.at_ (i:=0) rfl,hB.at_ (i:=1) rfl,A0,c0,hB.at_ (i:=2) rfl,l0,r0⟩⟩,
  Rd.cons_iff.2 ⟨⟨g,0,rfl,RdC.iff.2 ⟨hB.at_ (i:=3) rfl,hB.at_ (i:=4) rfl,A1,c1,hB.at_ (i:=5) rfl,l1,r1⟩⟩,
  Rd.cons_iff.2 ⟨⟨g,0,rfl,RdC.iff.2 ⟨hB.at_ (i:=6) rfl,hB.at_ (i:=7) rfl,A2,c2,hB.at_ (i:=8) rfl,l2,r2⟩⟩,Rd.nil⟩⟩⟩
theorem wE (hB:Blk w g #[.int .i64 k0,.int .i64 n0,.slice A0 s0.length c0,.int .i64 k1,.int .i64 n1,.slice A1 s1.length c1,.int .i64 k2,.int .i64 n2,.slice A2 s2.length c2,.int .i64 k3,.int .i64 n3,.slice A3 s3.length c3])(l0:s0.length<=9223372036854775807)(l1:s1.length<=9223372036854775807)(l2:s2.length<=9223372036854775807)(l3:s3.length<=9223372036854775807)(r0:Rd w A0 0 s0)(r1:Rd w A1 0 s1)(r2:Rd w A2 0 s2)(r3:Rd w A3 0 s3):Rd w (some ⟨g,0,none⟩) 0 [.mk k0 n0 s0,.mk k1 n1 s1,.mk k2 n2 s2,.mk k3 n3 s3]:=
 Rd.cons_iff.2 ⟨⟨g,0,rfl,RdC.iff.2 ⟨hB.at_ (i:=0) rfl,hB.at_ (i:=1) rfl,A0,c0,hB.at_ (i:=2) rfl,l0,r0⟩⟩,
  Rd.cons_iff.2 ⟨⟨g,0,rfl,RdC.iff.2 ⟨hB.at_ (i:=3) rfl,hB.at_ (i:=4) rfl,A1,c1,hB.at_ (i:=5) rfl,l1,r1⟩⟩,
  Rd.cons_iff.2 ⟨⟨g,0,rfl,RdC.iff.2 ⟨hB.at_ (i:=6) rfl,hB.at_ (i:=7) rfl,A2,c2,hB.at_ (i:=8) rfl,l2,r2⟩⟩,
  Rd.cons_iff.2 ⟨⟨g,0,rfl,RdC.iff.2 ⟨hB.at_ (i:=9) rfl,hB.at_ (i:=10) rfl,A3,c3,hB.at_ (i:=11) rfl,l3,r3⟩⟩,Rd.nil⟩⟩⟩⟩
end
section
variable {P:Program}{ops:Array Oper}{Q:Exit->Act->Bb->Prop}{S:Bb->Prop}{B:List Nat}
theorem sS {i j m:Nat}{l:Array Bool}{a:Act}{w:Bb}{f:Nat}{o o2 o3:Oper}(hr:Region.ready .any ops l=[i,j,m])(ho:ops[i]?=some o)(ho2:ops[j]?=some o2)(ho3:ops[m]?=some o3)
  (h : wpList P ops (rX S (gC P ops Q S B f (l.setIfInBounds i true)) Q) [o] a w) (h2 : wpList P ops (rX S (gC P ops Q S B f (l.setIfInBounds j true)) Q) [o2] a w) (h3 : wpList P ops (rX S (gC P ops Q S B f (l.setIfInBounds m true)) Q) [o3] a w) : gC P ops Q S B (f + 1) l a w := by
 refine aCf (by rw [hr];simp) λi' hi o' ho'=>?_
 rw [hr] at hi;simp only [List.mem_cons,List.not_mem_nil,or_false] at hi;rcases hi with rfl|rfl|rfl
 ·rw [ho] at ho';injection ho' with ho';subst ho';exact h
 ·rw [ho2] at ho';injection ho' with ho';subst ho';exact h2
 ·rw [ho3] at ho';injection ho' with ho';subst ho';exact h3
theorem aRt {i j m q:Nat}{l:Array Bool}{a:Act}{w:Bb}{f:Nat}{o o2 o3 o4:Oper}(hr:Region.ready .any ops l=[i,j,m,q])(ho:ops[i]?=some o)(ho2:ops[j]?=some o2)(ho3:ops[m]?=some o3)(ho4:ops[q]?=some o4)
  (h : wpList P ops (rX S (gC P ops Q S B f (l.setIfInBounds i true)) Q) [o] a w) (h2 : wpList P ops (rX S (gC P ops Q S B f (l.setIfInBounds j true)) Q) [o2] a w) (h3 : wpList P ops (rX S (gC P ops Q S B f (l.setIfInBounds m true)) Q) [o3] a w) (h4 : wpList P ops (rX S (gC P ops Q S B f (l.setIfInBounds q true)) Q) [o4] a w) : gC P ops Q S B (f + 1) l a w := by
 refine aCf (by rw [hr];simp) λi' hi o' ho'=>?_
 rw [hr] at hi;simp only [List.mem_cons,List.not_mem_nil,or_false] at hi;rcases hi with rfl|rfl|rfl|rfl
 ·rw [ho] at ho';injection ho' with ho';subst ho';exact h
 ·rw [ho2] at ho';injection ho' with ho';subst ho';exact h2
 ·rw [ho3] at ho';injection ho' with ho';subst ho';exact h3
 ·rw [ho4] at ho';injection ho' with ho';subst ho';exact h4
end
theorem aQ (k:Int)(v:Value)(hv:∃A l c,v = .slice A l c)(w:Bb):Calls prog 71 #[.int .i64 k,v] w λe w'=>e = .returned (.agg #[.int .i64 k,.int .i64 0,v])/\Bw w w':=by
 obtain ⟨A,l,c,rfl⟩:=hv;go_enter func71,ntmps71;go_wp2;refine bodyPost_ret (v:=.agg (Ro k 0 A l c)) (by simp [results,results71,go_sem]) rfl ⟨rfl,?_⟩;exact bw1
end Go.Proofs.YtjlaenhcemacdaaGreat
