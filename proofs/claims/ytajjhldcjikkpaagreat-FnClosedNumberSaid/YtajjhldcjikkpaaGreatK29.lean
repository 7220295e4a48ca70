/- Parts of the proof. No condition. -/
import Derived.Test.YtajjhldcjikkpaaGreatK26
open Go.Proofs.Tryz
namespace Go.Proofs.YtajjhldcjikkpaaGreat
open Go.RowKit
set_option maxHeartbeats 8000000
set_option maxRecDepth 100000
set_option linter.all false
theorem tV (k n:Int)(ks:List Tm)(A:Option Addr)(c:Nat)(w:World)(hz:aH ks<=2000000)(hv:aE (.mk k n ks)=false)(hr:Rd w A 0 ks) :
  Calls prog 25 #[.agg (Ro k n A ks.length c)] w λ e w'=>e = .returned (.tuple #[.int .i64 0,.bool false])/\Bw w w':=by
 have hv':=aD hv;clear hv;go_enter func25,ntmps25;go_wp2_with (go_at_call 21;refine (aU k n ks A c _ (by omega) (hr.alloc _)).mono ?_;rw [hv'.out];rintro e wv ⟨rfl,hbv⟩;have gv:Bw w wv:=bQ bw1 hbv)
 go_ret2
 exact ⟨rfl,gv⟩
theorem aXs:yB []=true:=rfl
theorem cc0:ccR 0 []=some 0:=rfl
theorem wE:aE (.mk 6 0 [])=true:=by decide +kernel
theorem aVq (N:Nat)(C:Option Addr)(c0:Nat)(w:World) :
  Calls prog 45 #[.slice C 0 c0,.agg (Ro 6 0 none 0 0)] w λ e w'=>e = .returned (.tuple #[.int .i64 0,.int .i64 0])/\Bw w w':=by
 have hvN:=wE;have hL:=aD (λ (w:World)=>eA (sL (N+1)) [] C c0 6 0 [] none 0 (.ok 0) w (aRo N) wE (λ u hu=>absurd hu List.not_mem_nil) (Nat.zero_le _) Rd.nil Rd.nil);go_enter func45,ntmps45;go_wp2_with (first
  | (go_at_call 67;have _t:=tok3;refine (hL.out _).mono ?_;rintro e w4 ⟨rfl,hb4⟩;have g4:=g3.trans (hb4.mono g3.size))
  | (go_at_call 66;have _t:=tok2;refine (yL 0 [] C c0 0 _ cc0 (Nat.zero_le _) (Nat.zero_le _) Rd.nil).mono ?_;rintro e w3 ⟨rfl,hb3⟩;have hX3:=hX2.keep hb3;have g3:=g2.trans (hb3.mono g2.size);clear x0 x1 x2 tok2;obtain ⟨x0,x1,x2⟩:=hX3.three;have tok3:=trivial)
  | (go_at_call 21;have _t:=tok1;refine (aU 6 0 [] none 0 _ (by simp [aH]) Rd.nil).mono ?_;rw [hvN];rintro e w2 ⟨rfl,hb2⟩;have hX2:=hX1.keep hb2;have g2:=g1.trans (hb2.mono g1.size);clear x0 x1 x2 tok1;obtain ⟨x0,x1,x2⟩:=hX2.three;have tok2:=trivial)
  | (go_at_call 44;refine (sZ [] C c0 _ (Nat.zero_le _) Rd.nil).mono ?_;rw [aXs];rintro e w1 ⟨rfl,hb1⟩;have hX1:=nQ hb1;have g1:Bw w w1:=bQ bw1 hb1;obtain ⟨x0,x1,x2⟩:=hX1.three;have tok1:=trivial))
 go_ret2
 exact ⟨rfl,g4⟩
theorem aDj (N:Nat)(C:Option Addr)(c0:Nat)(k n:Int)(ks:List Tm)(A:Option Addr)(c:Nat)(r:Rs Unit)(w:World)(hc:iL (bJ (N+1)) [] (.mk k n ks) (.mk 6 0 [])=some r)(hv:aE (.mk k n ks)=true)(hra:Rd w A 0 ks) :
  Calls prog 22 #[.slice C 0 c0,.agg (Ro k n A ks.length c),.agg (Ro 6 0 none 0 0)] w λ e w'=>e = .returned (.int .i64 r.cd)/\Bw w w':=by
 have hz:=aJ hv;have hvN:=wE;have hv':=aD hv;have hK:=aD (λ (w:World) (hra:Rd w A 0 ks)=>cC (sL (N+1)) [] C c0 k n ks A c 6 0 [] none 0 r w hc hv (λ u hu=>absurd hu List.not_mem_nil) (Nat.zero_le _) Rd.nil hra (by simp [aH]) Rd.nil);clear hc hv;go_enter func22,ntmps22;go_wp2_with (first
  | (go_at_call 46;have _t:=tok4;refine (hK.out _ (hra.below g4)).mono ?_;rintro e w5 ⟨rfl,hb5⟩;have g5:=g4.trans (hb5.mono g4.size))
  | (go_at_call 45;have _t:=tok3;refine (aVq N C c0 _).mono ?_;rintro e w4 ⟨rfl,hb4⟩;have hX4:=hX3.keep hb4;have hY4:=hY3.keep hb4;have g4:=g3.trans (hb4.mono g3.size);clear x0 x1 x2 y0 y1 y2 tok3;obtain ⟨x0,x1,x2⟩:=hX4.three;obtain ⟨y0,y1,y2⟩:=hY4.three;have tok4:=trivial)
  | (go_at_call 21;have _t:=tok2;refine (aU 6 0 [] none 0 _ (by simp [aH]) Rd.nil).mono ?_;rw [hvN];rintro e w3 ⟨rfl,hb3⟩;have hX3:=hX2.keep hb3;have hY3:=hY2.keep hb3;have g3:=g2.trans (hb3.mono g2.size);clear x0 x1 x2 y0 y1 y2 tok2;obtain ⟨x0,x1,x2⟩:=hX3.three;obtain ⟨y0,y1,y2⟩:=hY3.three;have tok3:=trivial)
  | (go_at_call 21;have _t:=tok1;refine (aU k n ks A c _ (by omega) (hra.below g1)).mono ?_;rw [hv'.out];rintro e w2 ⟨rfl,hb2⟩;have hX2:=hX1.keep hb2;have hY2:=hY1.keep hb2;have g2:=g1.trans (hb2.mono g1.size);clear x0 x1 x2 y0 y1 y2 tok1;obtain ⟨x0,x1,x2⟩:=hX2.three;obtain ⟨y0,y1,y2⟩:=hY2.three;have tok2:=trivial)
  | (go_at_call 44;refine (sZ [] C c0 _ (Nat.zero_le _) Rd.nil).mono ?_;rw [aXs];rintro e w1 ⟨rfl,hb1⟩;have hX1:=cV hb1;have hY1:Blk w1 (w.heap.size+1) (Ro 6 0 none 0 0):=(aC (n:=w.heap.size+1) (w.alloc (.cells (Ro k n A ks.length c) 25)) 25 (Ro 6 0 none 0 0) (by simp)).keep hb1;have g1:Bw w w1:=bQ bw2 hb1;obtain ⟨x0,x1,x2⟩:=hX1.three;obtain ⟨y0,y1,y2⟩:=hY1.three;have tok1:=trivial))
 go_ret
 exact ⟨rfl,g5⟩
theorem aRx (N:Nat)(co:Int)(C:Option Addr)(c0:Nat)(k n:Int)(ks:List Tm)(A:Option Addr)(c:Nat)(w:World)(h:ctN (N+1) (.mk k n ks)=some co)(hv:aE (.mk k n ks)=true)(hra:Rd w A 0 ks) :
  Calls prog 22 #[.slice C 0 c0,.agg (Ro k n A ks.length c),.agg (Ro 6 0 none 0 0)] w λ e w'=>e = .returned (.int .i64 co)/\Bw w w':=by
 obtain ⟨r,h1,h2⟩:=aRd h hv;subst h2;exact aDj N C c0 k n ks A c r w h1 hv hra
theorem aEd (N:Nat)(co:Int)(k n:Int)(ks:List Tm)(A:Option Addr)(c:Nat)(w:World)(h:ctN (N+1) (.mk k n ks)=some co)(hz:aH ks<=2000000)(hlen:ks.length<=9223372036854775807)(hra:Rd w A 0 ks) :
  Calls prog 7 #[.agg (Ro k n A ks.length c)] w λ e w'=>e = .returned (.tuple #[.int .i64 (cnC co (.mk k n ks)).1,.int .i64 (cnC co (.mk k n ks)).2])/\Bw w w':=by
 cases hv:aE (.mk k n ks) with
 | false=>
  rw [ctN,hv,if_neg (by decide)] at h;injection h with h;subst h;rw [aBu (by decide)];have hv':=aD hv;clear hv;go_enter func7,ntmps7;go_wp2_with (go_at_call 21;refine (aU k n ks A c _ (by omega) (hra.alloc _)).mono ?_;rw [hv'.out];rintro e w1 ⟨rfl,hb1⟩;have hX1:=nQ hb1;have g1:Bw w w1:=bQ bw1 hb1;obtain ⟨x0,x1,x2⟩:=hX1.three;have tok1:=trivial)
  go_ret2
  exact ⟨rfl,g1⟩
 | true=>
  have hv':=aD hv;have hK:=aD (λ (C:Option Addr) (c0:Nat) (w:World) (hra:Rd w A 0 ks)=>aRx N co C c0 k n ks A c w h hv hra);by_cases hc0:co=0
  ·subst hc0;clear h;rcases nV 200 (.mk k n ks) hv with ⟨⟨k1,n1,s1⟩,hn,hvx⟩|⟨cc,hn,hcc⟩
   ·have hN:=aD hn;replace hvx:=aD hvx;obtain ⟨⟨m,b⟩,hx⟩:∃y,oC (.mk k1 n1 s1)=y:=⟨_,rfl⟩;have hnx:=aD hx;cases b with
    | true=>
     rw [aAz hn hx];clear hn hx hv;go_enter func7,ntmps7;go_upto_region 3 with ((go_at_call 21;refine (aU k n ks A c _ (by omega) (hra.alloc _)).mono ?_;rw [hv'.out];rintro e w1 ⟨rfl,hb1⟩;have hX1:=nQ hb1;have g1:Bw w w1:=bQ bw1 hb1;obtain ⟨x0,x1,x2⟩:=hX1.three;have tok1:=trivial))
     refine aN ?_;intro wx hwx;have h6x:Blk wx w.heap.size (Ro k n A ks.length c):=by rw [hwx];exact hX1
     have kwx:Bw w wx:=by rw [hwx];exact g1
     have hrx:Rd wx A 0 ks:=by rw [hwx];exact hra.below g1
     clear hwx hX1 g1 hb1 x0 x1 x2 tok1;obtain ⟨v0,v1,v2⟩:=iD h6x;refine dX wx [3,4] [1] 5 4 (lT:=[_]) ?_;intro q0 bq0;refine bV (aD ?_);refine kX 0 2 ?_ ?_
     ·go_wp2_with fail
      refine cK ?_;intro q1 hn;have hbq1:Bw q0 q1:=by rw [hn];exact bw1
      clear hn;refine aY bq0 hbq1 ?_;intro bq1 lq1;refine bG 2 ?_
      ·go_wp2_with (go_at_call 23;refine (bB 6 0 _).mono ?_;rintro e q2 ⟨rfl,hbq2⟩)
       refine aY bq1 hbq2 ?_;intro bq2 lq2;refine cD [3,4] (lB:=[_,_]) ?_;have kq:=kwx.trans (bq2.mono kwx.size);have hXq:=h6x.keep bq2;have hrq:=hrx.below bq2;clear v0 v1 v2;refine gS (aD ?_);go_wp2_with (first|(go_at_call 25;have _t:=tok3;refine (lE k1 n1 s1 A3 c3 _ hvx.out (r3.alloc _)).mono ?_;rw [hnx.out];rintro e w4 ⟨rfl,hb4⟩;have g4:=(g3.alloc g3.size (.cells (Ro k1 n1 A3 s1.length c3) 25)).trans (hb4.mono (by have:=g3.size;simp;omega)))|(go_at_call 24;have _t:=tok2;refine (dY dS k n ks A c 200 (by omega) _ hv'.out (by omega) (hra.below g2)).mono ?_;rw [hN.out];rintro e w3 ⟨k3,n3,ks3,A3,c3,he3,rfl,hl3,hr3,hb3⟩;injection he3 with e1 e2 e3;subst e1 e2 e3;have g3:=g2.trans (hb3.mono g2.size);have r3:=hr3.rd;clear tok2;have tok3:=trivial)|(go_at_call 22;refine (hK.out _ _ _ hrq).mono ?_;rintro e w2 ⟨rfl,hb2⟩;have hX2:=hXq.keep hb2;have g2:=kq.trans (hb2.mono kq.size);obtain ⟨x0,x1,x2⟩:=hX2.three;have tok2:=trivial))
       go_ret2
       exact ⟨rfl,g4⟩
     ·go_wp2_with (go_at_call 23;refine (bB 6 0 _).mono ?_;rintro e q3 ⟨rfl,hbq3⟩)
      refine aY bq0 hbq3 ?_;intro bq3 lq3;refine bG 0 ?_
      ·go_wp2_with fail
       refine cK ?_;intro q4 hn;have hbq4:Bw q3 q4:=by rw [hn];exact bw1
       clear hn;refine aY bq3 hbq4 ?_;intro bq4 lq4;refine cD [3,4] (lB:=[_,_]) ?_;have kq:=kwx.trans (bq4.mono kwx.size);have hXq:=h6x.keep bq4;have hrq:=hrx.below bq4;clear v0 v1 v2;refine gS (aD ?_);go_wp2_with (first|(go_at_call 25;have _t:=tok3;refine (lE k1 n1 s1 A3 c3 _ hvx.out (r3.alloc _)).mono ?_;rw [hnx.out];rintro e w4 ⟨rfl,hb4⟩;have g4:=(g3.alloc g3.size (.cells (Ro k1 n1 A3 s1.length c3) 25)).trans (hb4.mono (by have:=g3.size;simp;omega)))|(go_at_call 24;have _t:=tok2;refine (dY dS k n ks A c 200 (by omega) _ hv'.out (by omega) (hra.below g2)).mono ?_;rw [hN.out];rintro e w3 ⟨k3,n3,ks3,A3,c3,he3,rfl,hl3,hr3,hb3⟩;injection he3 with e1 e2 e3;subst e1 e2 e3;have g3:=g2.trans (hb3.mono g2.size);have r3:=hr3.rd;clear tok2;have tok3:=trivial)|(go_at_call 22;refine (hK.out _ _ _ hrq).mono ?_;rintro e w2 ⟨rfl,hb2⟩;have hX2:=hXq.keep hb2;have g2:=kq.trans (hb2.mono kq.size);obtain ⟨x0,x1,x2⟩:=hX2.three;have tok2:=trivial))
       go_ret2
       exact ⟨rfl,g4⟩
    | false=>
     rw [vE hn hx];clear hn hx hv;go_enter func7,ntmps7;go_upto_region 3 with ((go_at_call 21;refine (aU k n ks A c _ (by omega) (hra.alloc _)).mono ?_;rw [hv'.out];rintro e w1 ⟨rfl,hb1⟩;have hX1:=nQ hb1;have g1:Bw w w1:=bQ bw1 hb1;obtain ⟨x0,x1,x2⟩:=hX1.three;have tok1:=trivial))
     refine aN ?_;intro wx hwx;have h6x:Blk wx w.heap.size (Ro k n A ks.length c):=by rw [hwx];exact hX1
     have kwx:Bw w wx:=by rw [hwx];exact g1
     have hrx:Rd wx A 0 ks:=by rw [hwx];exact hra.below g1
     clear hwx hX1 g1 hb1 x0 x1 x2 tok1;obtain ⟨v0,v1,v2⟩:=iD h6x;refine dX wx [3,4] [1] 5 4 (lT:=[_]) ?_;intro q0 bq0;refine bV (aD ?_);refine kX 0 2 ?_ ?_
     ·go_wp2_with fail
      refine cK ?_;intro q1 hn;have hbq1:Bw q0 q1:=by rw [hn];exact bw1
      clear hn;refine aY bq0 hbq1 ?_;intro bq1 lq1;refine bG 2 ?_
      ·go_wp2_with (go_at_call 23;refine (bB 6 0 _).mono ?_;rintro e q2 ⟨rfl,hbq2⟩)
       refine aY bq1 hbq2 ?_;intro bq2 lq2;refine cD [3,4] (lB:=[_,_]) ?_;have kq:=kwx.trans (bq2.mono kwx.size);have hXq:=h6x.keep bq2;have hrq:=hrx.below bq2;clear v0 v1 v2;refine gS (aD ?_);go_wp2_with (first|(go_at_call 25;have _t:=tok3;refine (lE k1 n1 s1 A3 c3 _ hvx.out (r3.alloc _)).mono ?_;rw [hnx.out];rintro e w4 ⟨rfl,hb4⟩;have g4:=(g3.alloc g3.size (.cells (Ro k1 n1 A3 s1.length c3) 25)).trans (hb4.mono (by have:=g3.size;simp;omega)))|(go_at_call 24;have _t:=tok2;refine (dY dS k n ks A c 200 (by omega) _ hv'.out (by omega) (hra.below g2)).mono ?_;rw [hN.out];rintro e w3 ⟨k3,n3,ks3,A3,c3,he3,rfl,hl3,hr3,hb3⟩;injection he3 with e1 e2 e3;subst e1 e2 e3;have g3:=g2.trans (hb3.mono g2.size);have r3:=hr3.rd;clear tok2;have tok3:=trivial)|(go_at_call 22;refine (hK.out _ _ _ hrq).mono ?_;rintro e w2 ⟨rfl,hb2⟩;have hX2:=hXq.keep hb2;have g2:=kq.trans (hb2.mono kq.size);obtain ⟨x0,x1,x2⟩:=hX2.three;have tok2:=trivial))
       go_ret2
       exact ⟨rfl,g4⟩
     ·go_wp2_with (go_at_call 23;refine (bB 6 0 _).mono ?_;rintro e q3 ⟨rfl,hbq3⟩)
      refine aY bq0 hbq3 ?_;intro bq3 lq3;refine bG 0 ?_
      ·go_wp2_with fail
       refine cK ?_;intro q4 hn;have hbq4:Bw q3 q4:=by rw [hn];exact bw1
       clear hn;refine aY bq3 hbq4 ?_;intro bq4 lq4;refine cD [3,4] (lB:=[_,_]) ?_;have kq:=kwx.trans (bq4.mono kwx.size);have hXq:=h6x.keep bq4;have hrq:=hrx.below bq4;clear v0 v1 v2;refine gS (aD ?_);go_wp2_with (first|(go_at_call 25;have _t:=tok3;refine (lE k1 n1 s1 A3 c3 _ hvx.out (r3.alloc _)).mono ?_;rw [hnx.out];rintro e w4 ⟨rfl,hb4⟩;have g4:=(g3.alloc g3.size (.cells (Ro k1 n1 A3 s1.length c3) 25)).trans (hb4.mono (by have:=g3.size;simp;omega)))|(go_at_call 24;have _t:=tok2;refine (dY dS k n ks A c 200 (by omega) _ hv'.out (by omega) (hra.below g2)).mono ?_;rw [hN.out];rintro e w3 ⟨k3,n3,ks3,A3,c3,he3,rfl,hl3,hr3,hb3⟩;injection he3 with e1 e2 e3;subst e1 e2 e3;have g3:=g2.trans (hb3.mono g2.size);have r3:=hr3.rd;clear tok2;have tok3:=trivial)|(go_at_call 22;refine (hK.out _ _ _ hrq).mono ?_;rintro e w2 ⟨rfl,hb2⟩;have hX2:=hXq.keep hb2;have g2:=kq.trans (hb2.mono kq.size);obtain ⟨x0,x1,x2⟩:=hX2.three;have tok2:=trivial))
       go_ret2
       exact ⟨rfl,g4⟩
   ·have hN:=aD hn;have hv0:=aD (show aE (.mk 0 0 [])=false by decide +kernel);rw [xP hn hcc];have hcq:(cc != 0)=true:=bne_iff_ne.2 hcc;clear hn hcc hv;go_enter func7,ntmps7;go_upto_region 3 with ((go_at_call 21;refine (aU k n ks A c _ (by omega) (hra.alloc _)).mono ?_;rw [hv'.out];rintro e w1 ⟨rfl,hb1⟩;have hX1:=nQ hb1;have g1:Bw w w1:=bQ bw1 hb1;obtain ⟨x0,x1,x2⟩:=hX1.three;have tok1:=trivial))
    refine aN ?_;intro wx hwx;have h6x:Blk wx w.heap.size (Ro k n A ks.length c):=by rw [hwx];exact hX1
    have kwx:Bw w wx:=by rw [hwx];exact g1
    have hrx:Rd wx A 0 ks:=by rw [hwx];exact hra.below g1
    clear hwx hX1 g1 hb1 x0 x1 x2 tok1;obtain ⟨v0,v1,v2⟩:=iD h6x;refine dX wx [3,4] [1] 5 4 (lT:=[_]) ?_;intro q0 bq0;refine bV (aD ?_);refine kX 0 2 ?_ ?_
    ·go_wp2_with fail
     refine cK ?_;intro q1 hn;have hbq1:Bw q0 q1:=by rw [hn];exact bw1
     clear hn;refine aY bq0 hbq1 ?_;intro bq1 lq1;refine bG 2 ?_
     ·go_wp2_with (go_at_call 23;refine (bB 6 0 _).mono ?_;rintro e q2 ⟨rfl,hbq2⟩)
      refine aY bq1 hbq2 ?_;intro bq2 lq2;refine cD [3,4] (lB:=[_,_]) ?_;have kq:=kwx.trans (bq2.mono kwx.size);have hXq:=h6x.keep bq2;have hrq:=hrx.below bq2;clear v0 v1 v2;refine gS (aD ?_);go_wp2_with (first|(go_at_call 25;have _t:=tok3;refine (tV 0 0 [] A3 c3 _ (by simp [aH]) hv0.out Rd.nil).mono ?_;rintro e w4 ⟨rfl,hb4⟩;have g4:=(g3.alloc g3.size (.cells (Ro 0 0 A3 0 c3) 25)).trans (hb4.mono (by have:=g3.size;simp;omega)))|(go_at_call 24;have _t:=tok2;refine (dY dS k n ks A c 200 (by omega) _ hv'.out (by omega) (hra.below g2)).mono ?_;rw [hN.out];rintro e w3 ⟨k3,n3,ks3,A3,c3,he3,rfl,hl3,hr3,hb3⟩;injection he3 with e1 e2 e3;subst e1 e2 e3;have g3:=g2.trans (hb3.mono g2.size);have r3:=hr3.rd;clear tok2;have tok3:=trivial)|(go_at_call 22;refine (hK.out _ _ _ hrq).mono ?_;rintro e w2 ⟨rfl,hb2⟩;have hX2:=hXq.keep hb2;have g2:=kq.trans (hb2.mono kq.size);obtain ⟨x0,x1,x2⟩:=hX2.three;have tok2:=trivial))
      go_ret2
      exact ⟨rfl,g4⟩
    ·go_wp2_with (go_at_call 23;refine (bB 6 0 _).mono ?_;rintro e q3 ⟨rfl,hbq3⟩)
     refine aY bq0 hbq3 ?_;intro bq3 lq3;refine bG 0 ?_
     ·go_wp2_with fail
      refine cK ?_;intro q4 hn;have hbq4:Bw q3 q4:=by rw [hn];exact bw1
      clear hn;refine aY bq3 hbq4 ?_;intro bq4 lq4;refine cD [3,4] (lB:=[_,_]) ?_;have kq:=kwx.trans (bq4.mono kwx.size);have hXq:=h6x.keep bq4;have hrq:=hrx.below bq4;clear v0 v1 v2;refine gS (aD ?_);go_wp2_with (first|(go_at_call 25;have _t:=tok3;refine (tV 0 0 [] A3 c3 _ (by simp [aH]) hv0.out Rd.nil).mono ?_;rintro e w4 ⟨rfl,hb4⟩;have g4:=(g3.alloc g3.size (.cells (Ro 0 0 A3 0 c3) 25)).trans (hb4.mono (by have:=g3.size;simp;omega)))|(go_at_call 24;have _t:=tok2;refine (dY dS k n ks A c 200 (by omega) _ hv'.out (by omega) (hra.below g2)).mono ?_;rw [hN.out];rintro e w3 ⟨k3,n3,ks3,A3,c3,he3,rfl,hl3,hr3,hb3⟩;injection he3 with e1 e2 e3;subst e1 e2 e3;have g3:=g2.trans (hb3.mono g2.size);have r3:=hr3.rd;clear tok2;have tok3:=trivial)|(go_at_call 22;refine (hK.out _ _ _ hrq).mono ?_;rintro e w2 ⟨rfl,hb2⟩;have hX2:=hXq.keep hb2;have g2:=kq.trans (hb2.mono kq.size);obtain ⟨x0,x1,x2⟩:=hX2.three;have tok2:=trivial))
      go_ret2
      exact ⟨rfl,g4⟩
  ·rw [aBu hc0];have hcq:(co != 0)=true:=bne_iff_ne.2 hc0;clear h hc0 hv;go_enter func7,ntmps7;go_upto_region 3 with ((go_at_call 21;refine (aU k n ks A c _ (by omega) (hra.alloc _)).mono ?_;rw [hv'.out];rintro e w1 ⟨rfl,hb1⟩;have hX1:=nQ hb1;have g1:Bw w w1:=bQ bw1 hb1;obtain ⟨x0,x1,x2⟩:=hX1.three;have tok1:=trivial))
   refine aN ?_;intro wx hwx;have h6x:Blk wx w.heap.size (Ro k n A ks.length c):=by rw [hwx];exact hX1
   have kwx:Bw w wx:=by rw [hwx];exact g1
   have hrx:Rd wx A 0 ks:=by rw [hwx];exact hra.below g1
   clear hwx hX1 g1 hb1 x0 x1 x2 tok1;obtain ⟨v0,v1,v2⟩:=iD h6x;refine dX wx [3,4] [1] 5 4 (lT:=[_]) ?_;intro q0 bq0;refine bV (aD ?_);refine kX 0 2 ?_ ?_
   ·go_wp2_with fail
    refine cK ?_;intro q1 hn;have hbq1:Bw q0 q1:=by rw [hn];exact bw1
    clear hn;refine aY bq0 hbq1 ?_;intro bq1 lq1;refine bG 2 ?_
    ·go_wp2_with (go_at_call 23;refine (bB 6 0 _).mono ?_;rintro e q2 ⟨rfl,hbq2⟩)
     refine aY bq1 hbq2 ?_;intro bq2 lq2;refine cD [3,4] (lB:=[_,_]) ?_;have kq:=kwx.trans (bq2.mono kwx.size);have hXq:=h6x.keep bq2;have hrq:=hrx.below bq2;clear v0 v1 v2;refine gS (aD ?_);go_wp2_with (first|(go_at_call 22;refine (hK.out _ _ _ hrq).mono ?_;rintro e w2 ⟨rfl,hb2⟩;have hX2:=hXq.keep hb2;have g2:=kq.trans (hb2.mono kq.size);obtain ⟨x0,x1,x2⟩:=hX2.three;have tok2:=trivial))
     go_ret2
     exact ⟨rfl,g2⟩
   ·go_wp2_with (go_at_call 23;refine (bB 6 0 _).mono ?_;rintro e q3 ⟨rfl,hbq3⟩)
    refine aY bq0 hbq3 ?_;intro bq3 lq3;refine bG 0 ?_
    ·go_wp2_with fail
     refine cK ?_;intro q4 hn;have hbq4:Bw q3 q4:=by rw [hn];exact bw1
     clear hn;refine aY bq3 hbq4 ?_;intro bq4 lq4;refine cD [3,4] (lB:=[_,_]) ?_;have kq:=kwx.trans (bq4.mono kwx.size);have hXq:=h6x.keep bq4;have hrq:=hrx.below bq4;clear v0 v1 v2;refine gS (aD ?_);go_wp2_with (first|(go_at_call 22;refine (hK.out _ _ _ hrq).mono ?_;rintro e w2 ⟨rfl,hb2⟩;have hX2:=hXq.keep hb2;have g2:=kq.trans (hb2.mono kq.size);obtain ⟨x0,x1,x2⟩:=hX2.three;have tok2:=trivial))
     go_ret2
     exact ⟨rfl,g2⟩
end Go.Proofs.YtajjhldcjikkpaaGreat
