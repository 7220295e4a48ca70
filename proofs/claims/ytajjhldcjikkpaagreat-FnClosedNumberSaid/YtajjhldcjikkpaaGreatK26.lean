/- Parts of the proof. No condition. -/
import Derived.Test.YtajjhldcjikkpaaGreatK22
import Derived.Test.YtajjhldcjikkpaaGreatK25
open Go.Proofs.Tryz
namespace Go.Proofs.YtajjhldcjikkpaaGreat
open Go.RowKit
set_option maxHeartbeats 8000000
set_option maxRecDepth 100000
set_option linter.all false
theorem fB {o:Option (Rs Tm)}{l:Int}(h:oW o=some (.ok l)):0<=l/\l<=3:=by
 rcases aCl h with ⟨b,_,h2⟩|⟨s3,l',h1,h2⟩
 ·cases h2
 ·injection h2 with h2;subst h2;have h3:=(nG h1).1;have h4:=aX h3;have h5:dN 2=3:=rfl;omega
theorem fV {t s:Tm}(h:eC t=some (.ok s)):s=t/\aE s=true:=by
 rcases mR h with ⟨h1,h2⟩|⟨_,h2⟩
 ·injection h2 with h2;subst h2;exact ⟨rfl,h1⟩
 ·cases h2
theorem qP {rec_:Tm->Option (Rs Tm)}{ctx:List Tm}{t s:Tm}{ty:Nat->Option (Rs Tm)}(h:mM rec_ ctx t ty=some (.ok s))(hv:aE t=true):aE s=true:=by
 obtain ⟨k,n,ks⟩:=t;have har:=aX hv;unfold mM at h
 have inj:∀{x:Tm},some (Rs.ok x)=some (Rs.ok s)->x=s:=λ h=>by injection h with h;injection h
 by_cases e1:k=1
 ·rw [if_pos (show (Tm.mk k n ks).k=1 from e1)] at h;split at h
  ·cases h
  ·exact (fV h).2
 rw [if_neg (show ¬(Tm.mk k n ks).k=1 from e1)] at h;by_cases e2:k=2
 ·rw [if_pos (show (Tm.mk k n ks).k=2 from e2)] at h;subst e2;have h3:dN 2=3:=rfl;split at h
  ·cases h
  ·rename_i hn3;have hn4:n≠3:=hn3;rw [<- inj h];exact eD (show 0<=n+1 by omega) (show n+1<=3 by omega)
 rw [if_neg (show ¬(Tm.mk k n ks).k=2 from e2)] at h;by_cases e6:k=6
 ·rw [if_pos (show (Tm.mk k n ks).k=6 from e6)] at h;rw [<- inj h];exact eD (by omega) (by omega)
 rw [if_neg (show ¬(Tm.mk k n ks).k=6 from e6)] at h;by_cases e7:k=7
 ·rw [if_pos (show (Tm.mk k n ks).k=7 from e7)] at h;rw [<- inj h];exact pF
 rw [if_neg (show ¬(Tm.mk k n ks).k=7 from e7)] at h;by_cases e8:k=8
 ·rw [if_pos (show (Tm.mk k n ks).k=8 from e8)] at h;rcases aO h with ⟨b,_,h2⟩|⟨u,_,h2⟩
  ·cases h2
  ·rw [<- inj h2];exact pF
 rw [if_neg (show ¬(Tm.mk k n ks).k=8 from e8)] at h;by_cases e3:k=3\/k=13
 ·rw [if_pos (show (Tm.mk k n ks).k=3\/(Tm.mk k n ks).k=13 from e3)] at h;rcases aO h with ⟨b,_,h2⟩|⟨i,h1,h2⟩
  ·cases h2
  rcases aO h2 with ⟨b,_,h4⟩|⟨j,h3,h4⟩
  ·cases h4
  have a1:=fB h1;have a2:=fB h3;rw [<- inj h4];exact eD (by split<;>omega) (by split<;>omega)
 rw [if_neg (show ¬((Tm.mk k n ks).k=3\/(Tm.mk k n ks).k=13) from e3)] at h;by_cases e4:k=4
 ·rw [if_pos (show (Tm.mk k n ks).k=4 from e4)] at h;rcases aO h with ⟨b,_,h2⟩|⟨i,h1,h2⟩
  ·cases h2
  rcases aO h2 with ⟨b,_,h4⟩|⟨u,h3,h4⟩
  ·cases h4
  rcases aO h4 with ⟨b,_,h8⟩|⟨v,h7,h8⟩
  ·cases h8
  exact (fV h8).2
 rw [if_neg (show ¬(Tm.mk k n ks).k=4 from e4)] at h;by_cases e5:k=5
 ·rw [if_pos (show (Tm.mk k n ks).k=5 from e5)] at h;rcases aO h with ⟨b,_,h2⟩|⟨i,h1,h2⟩
  ·cases h2
  rcases aO h2 with ⟨b,_,h4⟩|⟨u,h3,h4⟩
  ·cases h4
  exact (fV h4).2
 rw [if_neg (show ¬(Tm.mk k n ks).k=5 from e5)] at h;by_cases e9:k=9
 ·rw [if_pos (show (Tm.mk k n ks).k=9 from e9)] at h;rcases aO h with ⟨b,_,h2⟩|⟨i,h1,h2⟩
  ·cases h2
  rcases aO (gM h2).2 with ⟨b,_,h4⟩|⟨u,h3,h4⟩
  ·cases h4
  rcases aO (gM h4).2 with ⟨b,_,h6⟩|⟨v,h5,h6⟩
  ·cases h6
  rcases aO h6 with ⟨b,_,h8⟩|⟨x,h7,h8⟩
  ·cases h8
  exact (fV h8).2
 rw [if_neg (show ¬(Tm.mk k n ks).k=9 from e9)] at h;by_cases e10:k=10
 ·rw [if_pos (show (Tm.mk k n ks).k=10 from e10)] at h;rcases aO h with ⟨b,_,h2⟩|⟨i,h1,h2⟩
  ·cases h2
  rcases aO h2 with ⟨b,_,h4⟩|⟨u,h3,h4⟩
  ·cases h4
  rcases aO h4 with ⟨b,_,h6⟩|⟨v,h5,h6⟩
  ·cases h6
  have a1:=fB h1;rw [<- inj h6];exact eD a1.1 a1.2
 rw [if_neg (show ¬(Tm.mk k n ks).k=10 from e10)] at h;by_cases e11:k=11
 ·rw [if_pos (show (Tm.mk k n ks).k=11 from e11)] at h;rcases aO h with ⟨b,_,h2⟩|⟨i,h1,h2⟩
  ·cases h2
  rcases aO h2 with ⟨b,_,h4⟩|⟨u,h3,h4⟩
  ·cases h4
  exact (fV h4).2
 rw [if_neg (show ¬(Tm.mk k n ks).k=11 from e11)] at h;by_cases e12:k=12
 ·rw [if_pos (show (Tm.mk k n ks).k=12 from e12)] at h;rcases aO h with ⟨b,_,h2⟩|⟨i,h1,h2⟩
  ·cases h2
  rcases aO h2 with ⟨b,_,h4⟩|⟨u,h3,h4⟩
  ·cases h4
  rcases aO (gM h4).2 with ⟨b,_,h6⟩|⟨v,h5,h6⟩
  ·cases h6
  exact (fV h6).2
 rw [if_neg (show ¬(Tm.mk k n ks).k=12 from e12)] at h;by_cases e14:k=14
 ·rw [if_pos (show (Tm.mk k n ks).k=14 from e14)] at h;subst e14;rcases aO h with ⟨b,_,h2⟩|⟨i,h1,h2⟩
  ·cases h2
  rcases aO h2 with ⟨b,_,h4⟩|⟨u,h3,h4⟩
  ·cases h4
  rcases aO h4 with ⟨b,_,h6⟩|⟨v,h5,h6⟩
  ·cases h6
  rcases aO h6 with ⟨b,_,h8⟩|⟨x,h7,h8⟩
  ·cases h8
  rcases aO (gM h8).2 with ⟨b,_,h10⟩|⟨y,h9,h10⟩
  ·cases h10
  rw [<- inj h10];exact kG hv (by have h3:aK 14=3:=rfl;omega)
 rw [if_neg (show ¬(Tm.mk k n ks).k=14 from e14)] at h;by_cases e15:k=15
 ·rw [if_pos (show (Tm.mk k n ks).k=15 from e15)] at h;rcases aO h with ⟨b,_,h2⟩|⟨i,h1,h2⟩
  ·cases h2
  obtain ⟨h3,h4⟩:=nG h1;obtain ⟨ki,ni,si⟩:=i;obtain rfl:ki=13:=h4;rw [<- inj h2];exact kG h3 (by have:=(aX h3).1;have h3:aK 13=2:=rfl;omega)
 rw [if_neg (show ¬(Tm.mk k n ks).k=15 from e15)] at h;rcases aO h with ⟨b,_,h2⟩|⟨i,h1,h2⟩
 ·cases h2
 exact (fV h2).2
theorem kR {N:Nat}{ctx:List Tm}{t:Tm}{r:Rs Tm}(hc:ctx.length<=20)(h:bL (N+1) ctx t=some r):aE t=true/\ctx.length<=20/\mM (kV (bL N) ctx) ctx t (gL (bL N) ctx t)=some r:=by
 rw [bL] at h;split at h
 ·rename_i hc;exact ⟨hc.1,hc.2,h⟩
 ·rename_i hc2
  split at h
  ·exact absurd ⟨‹_›,hc⟩ hc2
  ·cases h
theorem kJ {N:Nat}{ctx:List Tm}{t:Tm}{r:Rs Tm}(hc:20<ctx.length)(h:bL N ctx t=some r):aE t=true/\r = .no false:=by
 cases N with
 | zero=>cases h
 | succ N=>
  rw [bL,if_neg (λ h=>by omega)] at h;split at h
  ·exact ⟨‹_›,(Option.some.inj h).symm⟩
  ·cases h
theorem jS {N:Nat}{ctx:List Tm}{t s:Tm}(h:bL (N+1) ctx t=some (.ok s)):aE t=true/\ctx.length<=20/\mM (kV (bL N) ctx) ctx t (gL (bL N) ctx t)=some (.ok s):=by
 by_cases hc:ctx.length<=20
 ·exact kR hc h
 ·cases (kJ (by omega) h).2
theorem dG {N:Nat}{ctx:List Tm}{t s:Tm}(h:bL N ctx t=some (.ok s)):aE s=true:=by
 cases N with
 | zero=>cases h
 | succ N=>
  by_cases hc:ctx.length<=20
  ·obtain ⟨h1,_,h2⟩:=kR hc h;exact qP h2 h1
  ·cases (kJ (by omega) h).2
theorem aPz {N:Nat}{ctx:List Tm}{t:Tm}{r:Rs Tm}(h:bL N ctx t=some r):aE t=true:=by
 cases N with
 | zero=>cases h
 | succ N=>
  by_cases hc:ctx.length<=20
  ·exact (kR hc h).1
  ·exact (kJ (by omega) h).1
def aFq (N:Nat):Prop:=∀(ctx:List Tm) (k n:Int) (ks:List Tm) (r:Rs Tm),ctx.length<=20->bL N ctx (.mk k n ks)=some r->(∀u,u∈ctx->aE u=true)->
 ∀(C:Option Addr) (cc:Nat) (A:Option Addr) (c:Nat) (w:World),Rd w C 0 ctx->Rd w A 0 ks->Calls prog 59 #[.slice C ctx.length cc,.agg (Ro k n A ks.length c)] w (pC w r)
theorem aDp {N:Nat}(ih:aFq N)(ctx:List Tm)(C:Option Addr)(cc:Nat)(k n:Int)(ks:List Tm)(A:Option Addr)(c:Nat)(kind:Int)(r:Rs Tm)(w:World)(hs:oA (bL N ctx (.mk k n ks)) kind=some r)(hvc:∀u,u∈ctx->aE u=true)(hm:ctx.length<=20)(hrc:Rd w C 0 ctx)(hra:Rd w A 0 ks) :
  Calls prog 58 #[.slice C ctx.length cc,.agg (Ro k n A ks.length c),.int .i64 kind] w (pC w r):=by
 rcases aO hs with ⟨b,h1,rfl⟩|⟨s,h1,h2⟩
 ·have qb:=eN b;have hI:=aD (λ (w:World) (hrc:Rd w C 0 ctx) (hra:Rd w A 0 ks)=>ih ctx k n ks _ hm h1 hvc C cc A c w hrc hra);clear hs h1 hvc ih;go_enter func58,ntmps58;go_wp2_with (go_at_call 59;refine (hI.out _ ((hrc.alloc _).alloc _) ((hra.alloc _).alloc _)).mono ?_;rintro e w1 ⟨rfl,hb1⟩;have hZ1:=bH hb1;have g1:Bw w w1:=bQ bw2 hb1;obtain ⟨d0,d1,d2,e0,e1,e2,lz⟩:=dA hZ1;have n1':w.heap.size+1≠w1.heap.size:=(by omega))
  have y:=λ (o:Obj)=>(((((hZ1.set_ 0 (.int .i64 0)).set_ 1 (.int .i64 0)).set_ 2 (.slice none 0 0)).alloc o:Blk _ _ Zr)).three
  refine bodyPost_ret (v:=.tuple #[.agg Zr,.int .i64 (dL b)]) (by simp [results,results58,go_sem,y,d0,d1,d2]) rfl ⟨rfl,?_⟩;exact (bT g1).alloc (by simp [World.setCell];exact g1.size) _
 ·obtain ⟨k1,n1,s1⟩:=s;have hv1:=aD (dG h1);have hI:=aD (λ (w:World) (hrc:Rd w C 0 ctx) (hra:Rd w A 0 ks)=>ih ctx k n ks _ hm h1 hvc C cc A c w hrc hra);have h2':=aD h2;have hvr:=aD (λ (t:Tm) (h:r = .ok t)=>by rw [h] at h2;exact (aNj h2).1);clear hs h1 hvc ih h2;cases r with
  | no b=>
   go_enter func58,ntmps58;go_wp2_with (first
    | (go_at_call 80;have _t:=tok1;refine (iA k1 n1 s1 A1 c1 kind _ _ hv1.out h2'.out (r1.alloc _)).mono ?_;rintro e w2 ⟨rfl,hb2⟩;have hZ2:=(hZ.alloc (.cells (Ro k1 n1 A1 s1.length c1) 25)).keep hb2;have g2:=(g1.alloc g1.size (.cells (Ro k1 n1 A1 s1.length c1) 25)).trans (hb2.mono (by have:=g1.size;simp;omega));obtain ⟨d0,d1,d2,e0,e1,e2⟩:=bW hZ2)
    | (go_at_call 59;refine (hI.out _ ((hrc.alloc _).alloc _) ((hra.alloc _).alloc _)).mono ?_;rintro e w1 ⟨A1,c1,rfl,hl1,r1,hb1⟩;have hZ:=bH hb1;have g1:Bw w w1:=bQ bw2 hb1;have lz:=hZ.lt;have tok1:=trivial))
   refine bodyPost_ret (v:=.tuple #[.agg Zr,.int .i64 (dL b)]) (by simp [results,results58,go_sem,d0,d1,d2]) rfl ⟨rfl,?_⟩;exact bT g2
  | ok t=>
   obtain ⟨kt,nt,st⟩:=t;have hvt:=aD (hvr.out _ rfl);go_enter func58,ntmps58;go_wp2_with (first
    | (go_at_call 80;have _t:=tok1;refine (iA k1 n1 s1 A1 c1 kind _ _ hv1.out h2'.out (r1.alloc _)).mono ?_;rintro e w2 ⟨A3,c3,rfl,hl3,r3,hb2⟩;have hZ2:=(hZ.alloc (.cells (Ro k1 n1 A1 s1.length c1) 25)).keep hb2;have g2:=(g1.alloc g1.size (.cells (Ro k1 n1 A1 s1.length c1) 25)).trans (hb2.mono (by have:=g1.size;simp;omega));obtain ⟨d0,d1,d2,e0,e1,e2⟩:=bW hZ2)
    | (go_at_call 59;refine (hI.out _ ((hrc.alloc _).alloc _) ((hra.alloc _).alloc _)).mono ?_;rintro e w1 ⟨A1,c1,rfl,hl1,r1,hb1⟩;have hZ:=bH hb1;have g1:Bw w w1:=bQ bw2 hb1;have lz:=hZ.lt;have tok1:=trivial))
   refine bodyPost_ret (v:=.tuple #[.agg (Ro kt nt A3 st.length c3),.int .i64 0]) (by simp [results,results58,go_sem,d0,d1,d2]) rfl ⟨A3,c3,rfl,hl3,?_,?_⟩
   ·exact aZ hZ2 hvt.out r3 _ _ _
   ·exact bT g2
theorem aBm {N:Nat}(ih:aFq N)(ctx:List Tm)(C:Option Addr)(cc:Nat)(k n:Int)(ks:List Tm)(A:Option Addr)(c:Nat)(r:Rs Int)(w:World)(hs:oW (bL N ctx (.mk k n ks))=some r)(hvc:∀u,u∈ctx->aE u=true)(hm:ctx.length<=20)(hrc:Rd w C 0 ctx)(hra:Rd w A 0 ks) :
  Calls prog 38 #[.slice C ctx.length cc,.agg (Ro k n A ks.length c)] w (GtI w r):=by
 rcases aCl hs with ⟨b,h1,rfl⟩|⟨s3,l,h1,rfl⟩
 all_goals
  have hI:=aD (λ (w:World) (hrc:Rd w C 0 ctx) (hra:Rd w A 0 ks)=>aDp ih ctx C cc k n ks A c 2 _ w h1 hvc hm hrc hra);clear hs h1 hvc ih;go_enter func38,ntmps38
 ·go_wp2_with (go_at_call 58;refine (hI.out _ (hrc.alloc _) (hra.alloc _)).mono ?_;rintro e w1 ⟨rfl,hb1⟩;have g1:Bw w w1:=bQ bw1 hb1)
  go_ret2
  exact ⟨rfl,g1.alloc g1.size _⟩
 ·go_wp2_with (go_at_call 58;refine (hI.out _ (hrc.alloc _) (hra.alloc _)).mono ?_;rintro e w1 ⟨A3,c3,rfl,hl3,r3,hb1⟩;have g1:Bw w w1:=bQ bw1 hb1)
  go_ret2
  exact ⟨rfl,g1.alloc g1.size _⟩
theorem aWx {α:Type}{t:Tm}{f g:Option (Rs α)}(h:Le f g):Le (vb t f) g:=λ r hr=>h r (gM hr).2
def LeV (o1 o2:Option (Rs Tm)):Prop:=∀r,o1=some r->∃r',o2=some r'/\bd (some r') eC=some r
theorem jX {α:Type}{o1 o2:Option (Rs α)}{f1 f2:α->Option (Rs Tm)}(h:Le o1 o2)(hf:∀a,LeV (f1 a) (f2 a)):LeV (bd o1 f1) (bd o2 f2):=by
 intro r hr;rcases aO hr with ⟨b,h1,rfl⟩|⟨a,h1,h2⟩
 ·exact ⟨.no b,by rw [h _ h1];rfl,rfl⟩
 ·obtain ⟨r',h3,h4⟩:=hf a r h2;exact ⟨r',by rw [h _ h1,kA];exact h3,h4⟩
theorem aIk {α:Type}{o1 o2:Option (Rs α)}{f1 f2:α->Option (Rs Tm)}(h:Le o1 o2)(hf:∀a,o1=some (.ok a)->LeV (f1 a) (f2 a)):LeV (bd o1 f1) (bd o2 f2):=by
 intro r hr;rcases aO hr with ⟨b,h1,rfl⟩|⟨a,h1,h2⟩
 ·exact ⟨.no b,by rw [h _ h1];rfl,rfl⟩
 ·obtain ⟨r',h3,h4⟩:=hf a h1 r h2;exact ⟨r',by rw [h _ h1];exact h3,h4⟩
theorem aGf {t:Tm}{f g:Option (Rs Tm)}(h:LeV f g):LeV (vb t f) g:=λ r hr=>h r (gM hr).2
theorem pM (t:Tm):LeV (eC t) (some (.ok t)):=λ r hr=>⟨.ok t,rfl,hr⟩
theorem jO {rec_:Tm->Option (Rs Tm)}{ctx:List Tm}{t:Tm}{ty:Nat->Option (Rs Tm)}{K:Option (Rs Tm)}{r:Rs Tm}(h:mM rec_ ctx t ty=some r)(hv:aE t=true)(hk:K=some r):bd K eC=some r:=by
 subst hk;cases r with
 | no b=>rfl
 | ok s=>rw [kA,eC,if_pos (qP h hv)]
theorem kU {o K:Option (Rs Tm)}{r:Rs Tm}(h:o=some r)(hk:LeV o K):bd K eC=some r:=by
 obtain ⟨r',h1,h2⟩:=hk r h;rw [h1];exact h2
theorem gA {o1 o2:Option (Rs Tm)}(h:Le o1 o2):Le (oW o1) (oW o2):=bR h λ _=>Le.refl _
theorem mV {o1 o2:Option (Rs Tm)}(h:Le o1 o2)(k:Int):Le (oA o1 k) (oA o2 k):=bR h λ _=>Le.refl _
theorem fE {o1 o2:Option (Rs Tm)}(h:Le o1 o2)(t:Tm):Le (iE o1 t) (iE o2 t):=bR h λ _=>Le.refl _
theorem aCj {o1 o2:Option (Rs Tm)}(h:Le o1 o2)(t:Tm):Le (faV o1 t) (faV o2 t):=bR (mV h 3) λ _=>Le.refl _
theorem eP {N:Nat}(ih:∀c t,Le (bL N c t) (bJ N c t))(ctx:List Tm)(k n:Int)(ks:List Tm)(i:Nat)(hu:aR k i=0):Le (gL (bL N) ctx (.mk k n ks) i) (bJ N ctx (aI ks i)):=by
 intro r hr;unfold gL at hr
 rw [if_pos (show aR (Tm.mk k n ks).k i=0 from hu)] at hr;exact ih _ _ r hr
theorem aOz {N:Nat}(ih:∀c t,Le (bL N c t) (bJ N c t))(ctx:List Tm)(k n:Int)(ks:List Tm)(i:Nat)(hu:aR k i=1):Le (gL (bL N) ctx (.mk k n ks) i) (bJ N (ctx++[aI ks 0]) (aI ks i)):=by
 intro r hr;unfold gL at hr
 rw [if_neg (show ¬aR (Tm.mk k n ks).k i=0 by show ¬aR k i=0;omega)] at hr;exact ih _ _ r hr
theorem aOf {N:Nat}(ih:∀c t,Le (bL N c t) (bJ N c t))(ctx:List Tm)(t:Tm):Le (kV (bL N) ctx t) (bJ N ctx t):=by
 intro r h;by_cases hv:aE t=true
 ·rw [nI hv] at h;exact ih _ _ _ h
 ·have hv:=Bool.eq_false_iff.2 hv;have h2:=wD h hv;have h3:=sK h hv;subst h3;cases N with
  | zero=>cases h2
  | succ N=>rw [bJ,if_neg (by rw [hv];rintro ⟨h,-⟩;cases h)]
theorem aRq {N:Nat}(ih:∀c t,Le (bL N c t) (bJ N c t))(hpi:∀ctx a u r,ctx.length<=20->bL N ctx (.mk 3 0 [a,u])=some r->∃r',uN (bJ N) ctx a u=some r'/\((∃b,r = .no b/\r' = .no b)\/∃x y,r = .ok x/\r' = .ok y))(ctx:List Tm)(t:Tm)(hv:aE t=true)(hm:ctx.length<=20):Le (mM (kV (bL N) ctx) ctx t (gL (bL N) ctx t)) (bd (fS (bJ N) ctx t) eC):=by
 obtain ⟨k,n,ks⟩:=t;have har:=aX hv;have u0:∀(k:Int) (hk:k≠3/\k≠4/\k≠13) (i:Nat),aR k i=0:=λ k hk i=>lR hk i
 intro r h;have h0:=h;unfold mM at h
 rw [fS];by_cases e1:k=1
 ·rw [if_pos (show (Tm.mk k n ks).k=1 from e1)] at h;subst e1;simp only [show ¬((1:Int)=3\/(1:Int)=13) by omega,show ¬(1:Int)=4 by omega,show ¬(1:Int)=5 by omega,show ¬(1:Int)=9 by omega,show ¬(1:Int)=10 by omega,show ¬(1:Int)=12 by omega,show ¬(1:Int)=14 by omega,if_false,if_true]
  unfold aDz
  split at h
  ·rename_i hn;have hn:(ctx.length:Int)<=n:=hn;rw [if_pos hn];exact jO h0 hv h
  ·rename_i hn;have hn:¬(ctx.length:Int)<=n:=hn;rw [if_neg hn];exact kU h (pM _)
 rw [if_neg (show ¬(Tm.mk k n ks).k=1 from e1)] at h;by_cases e2:k=2
 ·rw [if_pos (show (Tm.mk k n ks).k=2 from e2)] at h;subst e2;have h3:dN 2=3:=rfl;simp only [show ¬((2:Int)=3\/(2:Int)=13) by omega,show ¬(2:Int)=4 by omega,show ¬(2:Int)=5 by omega,show ¬(2:Int)=9 by omega,show ¬(2:Int)=10 by omega,show ¬(2:Int)=12 by omega,show ¬(2:Int)=14 by omega,show ¬(2:Int)=1 by omega,if_false,if_true]
  split at h
  ·rename_i hn
   have hn:n=3:=hn;rw [if_pos (by omega)];exact jO h0 hv h
  ·rename_i hn
   have hn:n≠3:=hn;rw [if_neg (by omega)];exact jO h0 hv h
 rw [if_neg (show ¬(Tm.mk k n ks).k=2 from e2)] at h;by_cases e6:k=6
 ·rw [if_pos (show (Tm.mk k n ks).k=6 from e6)] at h;subst e6;exact jO h0 hv (by simpa using h)
 rw [if_neg (show ¬(Tm.mk k n ks).k=6 from e6)] at h;by_cases e7:k=7
 ·rw [if_pos (show (Tm.mk k n ks).k=7 from e7)] at h;subst e7;exact jO h0 hv (by simpa using h)
 rw [if_neg (show ¬(Tm.mk k n ks).k=7 from e7)] at h;by_cases e8:k=8
 ·rw [if_pos (show (Tm.mk k n ks).k=8 from e8)] at h;subst e8;have:fS (bJ N) ctx (.mk 8 n ks)=aVd (bJ N) ctx (aI ks 0):=by rw [fS];simp
  rw [fS] at this;rw [this];exact jO h0 hv (bR (fE (eP ih ctx 8 n ks 0 (u0 8 (by omega) 0)) nT) (λ _=>Le.refl _) r h)
 rw [if_neg (show ¬(Tm.mk k n ks).k=8 from e8)] at h;by_cases e3:k=3\/k=13
 ·rw [if_pos (show (Tm.mk k n ks).k=3\/(Tm.mk k n ks).k=13 from e3)] at h;rw [if_pos e3];have a0:aR k ((0:Nat):Int)=0:=by rcases e3 with rfl|rfl<;>rfl
  have a1:aR k ((1:Nat):Int)=1:=by rcases e3 with rfl|rfl<;>rfl
  exact jO h0 hv (bR (gA (eP ih ctx k n ks 0 a0)) (λ i=>bR (gA (aOz ih ctx k n ks 1 a1)) λ _=>Le.refl _) r h)
 rw [if_neg (show ¬((Tm.mk k n ks).k=3\/(Tm.mk k n ks).k=13) from e3)] at h;rw [if_neg e3];by_cases e4:k=4
 ·rw [if_pos (show (Tm.mk k n ks).k=4 from e4)] at h;rw [if_pos e4];subst e4;refine kU h (aIk (gA (eP ih ctx 4 n ks 0 rfl)) (λ i hi=>aIk (aOz ih ctx 4 n ks 1 rfl) λ u hu=>?_));intro r hr;replace hr:(bd (kV (bL N) ctx (.mk 3 0 [aI ks 0,u])) λ _=>eC (.mk 3 0 [aI ks 0,u]))=some r:=hr;by_cases hvo:aE (.mk 3 0 [aI ks 0,u])=true
  rotate_left
  ·have hvo:=Bool.eq_false_iff.2 hvo;have hi2:iW (bJ N) ctx (aI ks 0)=some (.ok i):=gA (eP ih ctx 4 n ks 0 rfl) _ hi;have hr0:kV (bL N) ctx (.mk 3 0 [aI ks 0,u])=some (.no false)/\r = .no false:=by
    rcases aO hr with ⟨b,h1,rfl⟩|⟨o,h1,h2⟩
    ·have:=sK h1 hvo;rw [this] at h1⊢;exact ⟨h1,rfl⟩
    ·cases sK h1 hvo
   obtain ⟨hr1,rfl⟩:=hr0;rcases (aAw (wD hr1 hvo)).2 with ⟨j,hj⟩|hj
   ·have hj2:iW (bJ N) (ctx++[aI ks 0]) u=some (.ok j):=gA (ih _ _) _ hj;exact ⟨.ok (.mk 3 0 [aI ks 0,u]),by rw [uN,hi2,kA,hj2,kA,kA],by rw [kA,eC,if_neg (by rw [hvo];decide)]⟩
   ·have hj2:iW (bJ N) (ctx++[aI ks 0]) u=some (.no false):=gA (ih _ _) _ hj;exact ⟨.no false,by rw [uN,hi2,kA,hj2];rfl,rfl⟩
  rw [nI hvo] at hr;have vh:eC (.mk 3 0 [aI ks 0,u])=some (.ok (.mk 3 0 [aI ks 0,u])):=by rw [eC,if_pos hvo]
  rcases aO hr with ⟨b,h1,rfl⟩|⟨o,h1,h2⟩
  ·obtain ⟨r',h3,h4⟩:=hpi ctx (aI ks 0) u _ hm h1;rcases h4 with ⟨b',h5,rfl⟩|⟨x,y,h5,_⟩
   ·injection h5 with h5;subst h5;exact ⟨.no b,by rw [h3];rfl,rfl⟩
   ·cases h5
  ·obtain ⟨r',h3,h4⟩:=hpi ctx (aI ks 0) u _ hm h1;rcases h4 with ⟨b',h5,_⟩|⟨x,y,h5,rfl⟩
   ·cases h5
   ·exact ⟨.ok (.mk 3 0 [aI ks 0,u]),by rw [h3,kA],by rw [kA];exact h2⟩
 rw [if_neg (show ¬(Tm.mk k n ks).k=4 from e4)] at h;rw [if_neg e4];by_cases e5:k=5
 ·rw [if_pos (show (Tm.mk k n ks).k=5 from e5)] at h;rw [if_pos e5];subst e5;exact kU h (jX (mV (eP ih ctx 5 n ks 0 rfl) 3) λ f=>jX (fE (eP ih ctx 5 n ks 1 rfl) _) λ _=>pM _)
 rw [if_neg (show ¬(Tm.mk k n ks).k=5 from e5)] at h;rw [if_neg e5];by_cases e9:k=9
 ·rw [if_pos (show (Tm.mk k n ks).k=9 from e9)] at h;rw [if_pos e9];subst e9;exact kU h (jX (aCj (eP ih ctx 9 n ks 0 rfl) _) λ _=>aGf (jX (fE (eP ih ctx 9 n ks 1 rfl) _) λ _=>aGf (jX (fE (eP ih ctx 9 n ks 2 rfl) _) λ _=>jX (fE (eP ih ctx 9 n ks 3 rfl) _) λ _=>pM _)))
 rw [if_neg (show ¬(Tm.mk k n ks).k=9 from e9)] at h;rw [if_neg e9];by_cases e10:k=10
 ·rw [if_pos (show (Tm.mk k n ks).k=10 from e10)] at h;rw [if_pos e10];subst e10;exact jO h0 hv (bR (gA (eP ih ctx 10 n ks 0 rfl)) (λ _=>bR (fE (eP ih ctx 10 n ks 1 rfl) _) λ _=>bR (fE (eP ih ctx 10 n ks 2 rfl) _) λ _=>Le.refl _) r h)
 rw [if_neg (show ¬(Tm.mk k n ks).k=10 from e10)] at h;rw [if_neg e10];by_cases e11:k=11
 ·rw [if_pos (show (Tm.mk k n ks).k=11 from e11)] at h;subst e11;simp only [show ¬(11:Int)=12 by omega,show ¬(11:Int)=14 by omega,show ¬(11:Int)=1 by omega,show ¬(11:Int)=2 by omega,show ¬(11:Int)=6 by omega,show ¬(11:Int)=7 by omega,show ¬(11:Int)=8 by omega,if_false,if_true]
  exact kU h (jX (eP ih ctx 11 n ks 0 rfl) λ s=>jX (gA (aOf ih ctx s)) λ _=>pM _)
 rw [if_neg (show ¬(Tm.mk k n ks).k=11 from e11)] at h;by_cases e12:k=12
 ·rw [if_pos (show (Tm.mk k n ks).k=12 from e12)] at h;rw [if_pos e12];subst e12;exact kU h (jX (mV (eP ih ctx 12 n ks 1 rfl) 10) λ e=>jX (aCj (eP ih ctx 12 n ks 0 rfl) _) λ _=>aGf (jX (fE (eP ih ctx 12 n ks 2 rfl) _) λ _=>pM _))
 rw [if_neg (show ¬(Tm.mk k n ks).k=12 from e12)] at h;rw [if_neg e12];by_cases e14:k=14
 ·rw [if_pos (show (Tm.mk k n ks).k=14 from e14)] at h;rw [if_pos e14];subst e14;exact jO h0 hv (bR (gA (eP ih ctx 14 n ks 0 rfl)) (λ _=>bR (Le.refl _) λ h=>bR (Le.refl _) λ h=>bR (fE (eP ih ctx 14 n ks 1 rfl) _) λ _=>aWx (bR (fE (eP ih ctx 14 n ks 2 rfl) _) λ _=>Le.refl _)) r h)
 rw [if_neg (show ¬(Tm.mk k n ks).k=14 from e14)] at h;rw [if_neg e14,if_neg e1,if_neg e2,if_neg e6,if_neg e7,if_neg e8,if_neg e11];unfold aQx
 by_cases e15:k=15
 ·rw [if_pos (show (Tm.mk k n ks).k=15 from e15)] at h;subst e15;exact jO h0 hv (bR (mV (eP ih ctx 15 n ks 0 rfl) 13) (λ f=>by simp only [if_true];exact Le.refl _) r h)
 rw [if_neg (show ¬(Tm.mk k n ks).k=15 from e15)] at h;refine kU h (jX (mV (eP ih ctx k n ks 0 (u0 k (by omega) 0)) 13) λ f=>?_);rw [if_neg e15];exact pM _
theorem fQ:∀(N:Nat) (ctx:List Tm) (t:Tm),Le (bL N ctx t) (bJ N ctx t)
 | 0,_,_=>λ r h=>by cases h
 | N+1,ctx,t=>by
  intro r h;have ih:=fQ N;by_cases hc:ctx.length<=20
  rotate_left
  ·rw [(kJ (by omega) h).2,bJ,if_neg (λ h=>hc h.2)]
  obtain ⟨hv,hm,hj⟩:=kR hc h;have hpi:∀ctx a u r,ctx.length<=20->bL N ctx (.mk 3 0 [a,u])=some r->∃r',uN (bJ N) ctx a u=some r'/\((∃b,r = .no b/\r' = .no b)\/∃x y,r = .ok x/\r' = .ok y):=by
   intro ctx a u r hc hr;cases N with
   | zero=>cases hr
   | succ M=>
    have h1:=ih ctx _ r hr;rw [bJ] at h1;split at h1
    ·have hk:fS (bJ M) ctx (.mk 3 0 [a,u])=uN (bJ M) ctx a u:=by rw [fS,if_pos (.inl rfl)];rfl
     rw [hk] at h1;have hle:Le (uN (bJ M) ctx a u) (uN (bJ (M+1)) ctx a u):=aBc (λ c t r hr=>aAq _ _ _ r hr) ctx a u;rcases aO h1 with ⟨b,h2,rfl⟩|⟨x,h2,h3⟩
     ·exact ⟨_,hle _ h2,.inl ⟨b,rfl,rfl⟩⟩
     ·unfold eC at h3
      split at h3
      ·exact ⟨_,hle _ h2,.inr ⟨x,x,(Option.some.inj h3).symm,rfl⟩⟩
      ·rename_i hx
       exact absurd (show aE x=true from by
        rcases aO h2 with ⟨b,_,h6⟩|⟨i,h5,h6⟩
        ·cases h6
        rcases aO h6 with ⟨b,_,h8⟩|⟨j,h7,h8⟩
        ·cases h8
        have a1:=fB (o:=bJ M ctx a) h5;have a2:=fB (o:=bJ M (ctx++[a]) u) h7;injection h8 with h8;injection h8 with h8;rw [<- h8];exact eD (by split<;>omega) (by split<;>omega)) hx
    ·rename_i hc2
     obtain ⟨h5,h6,_⟩:=kR hc hr;exact absurd ⟨h5,h6⟩ hc2
  rw [bJ,if_pos ⟨hv,hm⟩];exact aRq ih hpi ctx t hv hm r hj
theorem aAx {α:Type}{t:Tm}{f g:Option (Rs α)}(h:Le f g):Le (vb t f) (vb t g):=λ r hr=>by
 obtain ⟨h1,h2⟩:=gM hr;rw [vb,if_pos h1];exact h r h2
theorem aVc {r1 r2:Tm->Option (Rs Tm)}{t1 t2:Nat->Option (Rs Tm)}(hr:∀t,Le (r1 t) (r2 t))(ht:∀i,Le (t1 i) (t2 i))(ctx:List Tm)(t:Tm):Le (mM r1 ctx t t1) (mM r2 ctx t t2):=by
 unfold mM
 by_cases e1:t.k=1
 ·rw [if_pos e1,if_pos e1];exact Le.refl _
 rw [if_neg e1,if_neg e1];by_cases e2:t.k=2
 ·rw [if_pos e2,if_pos e2];exact Le.refl _
 rw [if_neg e2,if_neg e2];by_cases e6:t.k=6
 ·rw [if_pos e6,if_pos e6];exact Le.refl _
 rw [if_neg e6,if_neg e6];by_cases e7:t.k=7
 ·rw [if_pos e7,if_pos e7];exact Le.refl _
 rw [if_neg e7,if_neg e7];by_cases e8:t.k=8
 ·rw [if_pos e8,if_pos e8];exact bR (fE (ht _) _) λ _=>Le.refl _
 rw [if_neg e8,if_neg e8];by_cases e3:t.k=3\/t.k=13
 ·rw [if_pos e3,if_pos e3];exact bR (gA (ht _)) λ _=>bR (gA (ht _)) λ _=>Le.refl _
 rw [if_neg e3,if_neg e3];by_cases e4:t.k=4
 ·rw [if_pos e4,if_pos e4];exact bR (gA (ht _)) λ _=>bR (ht _) λ _=>bR (hr _) λ _=>Le.refl _
 rw [if_neg e4,if_neg e4];by_cases e5:t.k=5
 ·rw [if_pos e5,if_pos e5];exact bR (mV (ht _) _) λ _=>bR (fE (ht _) _) λ _=>Le.refl _
 rw [if_neg e5,if_neg e5];by_cases e9:t.k=9
 ·rw [if_pos e9,if_pos e9];exact bR (aCj (ht _) _) λ _=>aAx (bR (fE (ht _) _) λ _=>aAx (bR (fE (ht _) _) λ _=>bR (fE (ht _) _) λ _=>Le.refl _))
 rw [if_neg e9,if_neg e9];by_cases e10:t.k=10
 ·rw [if_pos e10,if_pos e10];exact bR (gA (ht _)) λ _=>bR (fE (ht _) _) λ _=>bR (fE (ht _) _) λ _=>Le.refl _
 rw [if_neg e10,if_neg e10];by_cases e11:t.k=11
 ·rw [if_pos e11,if_pos e11];exact bR (ht _) λ _=>bR (gA (hr _)) λ _=>Le.refl _
 rw [if_neg e11,if_neg e11];by_cases e12:t.k=12
 ·rw [if_pos e12,if_pos e12];exact bR (mV (ht _) _) λ _=>bR (aCj (ht _) _) λ _=>aAx (bR (fE (ht _) _) λ _=>Le.refl _)
 rw [if_neg e12,if_neg e12];by_cases e14:t.k=14
 ·rw [if_pos e14,if_pos e14];exact bR (gA (ht _)) λ _=>bR (Le.refl _) λ _=>bR (Le.refl _) λ _=>bR (fE (ht _) _) λ _=>aAx (bR (fE (ht _) _) λ _=>Le.refl _)
 rw [if_neg e14,if_neg e14];by_cases e15:t.k=15
 ·rw [if_pos e15,if_pos e15];exact bR (mV (ht _) _) λ _=>Le.refl _
 rw [if_neg e15,if_neg e15];exact bR (mV (ht _) _) λ _=>Le.refl _
theorem aUd {r1 r2:List Tm->Tm->Option (Rs Tm)}(hr:∀c t,Le (r1 c t) (r2 c t))(ctx:List Tm)(t:Tm)(i:Nat):Le (gL r1 ctx t i) (gL r2 ctx t i):=by
 unfold gL
 split
 ·exact hr _ _
 ·exact hr _ _
theorem aUq {α:Type}{o1 o2:Option (Rs α)}(h:Le o1 o2):Le (nof o1) (nof o2):=by
 intro r hr;obtain ⟨rfl,⟨a,h1⟩|h1⟩:=aAw hr
 ·rw [h _ h1];rfl
 ·rw [h _ h1];rfl
theorem aHi {r1 r2:List Tm->Tm->Option (Rs Tm)}(hr:∀c t,Le (r1 c t) (r2 c t))(ctx:List Tm)(t:Tm):Le (kV r1 ctx t) (kV r2 ctx t):=by
 unfold kV
 split
 ·exact hr _ _
 ·exact aUq (gA (hr _ _))
theorem aBi:∀(N:Nat) (ctx:List Tm) (t:Tm),Le (bL N ctx t) (bL (N+1) ctx t)
 | 0,_,_=>λ r h=>by cases h
 | N+1,ctx,t=>by
  intro r h;by_cases hc:ctx.length<=20
  rotate_left
  ·obtain ⟨h1,rfl⟩:=kJ (by omega) h;rw [bL,if_neg (λ h=>hc h.2),if_pos h1]
  obtain ⟨hv,hm,hj⟩:=kR hc h;rw [bL,if_pos ⟨hv,hm⟩];exact aVc (λ t=>aHi (aBi N) ctx t) (λ i=>aUd (aBi N) ctx t i) ctx t r hj
theorem kI {N M:Nat}(h:N<=M)(ctx:List Tm)(t:Tm):Le (bL N ctx t) (bL M ctx t):=by
 induction h with
 | refl=>exact Le.refl _
 | step h ih=>exact λ r hr=>aBi _ _ _ r (ih r hr)
theorem gE {f:List Tm->Tm->Option (Rs Tm)}{ctx:List Tm}{k n:Int}{ks:List Tm}{i:Nat}(hu:aR k i=0):gL f ctx (Tm.mk k n ks) i=f ctx (aI ks i):=if_pos hu
theorem tN {f:List Tm->Tm->Option (Rs Tm)}{ctx:List Tm}{k n:Int}{ks:List Tm}{i:Nat}(hu:aR k i=1):gL f ctx (Tm.mk k n ks) i=f (ctx++[aI ks 0]) (aI ks i):=by
 unfold gL
 rw [if_neg (show ¬aR (Tm.mk k n ks).k i=0 by show ¬aR k i=0;omega)];rfl
theorem aXy {α:Type}{t:Tm}{f:Option (Rs α)}(h:aE t=true):vb t f=f:=if_pos h
theorem aQy {o:Option (Rs Tm)}{l:Int}(h:oW o=some (.ok l)):∃s,o=some (.ok s):=by
 obtain ⟨s,h1,_⟩:=bY h;exact ⟨s,h1⟩
theorem nV:∀(f:Nat) (t:Tm),aE t=true->(∃x,dJ f t=(some x,0)/\aE x=true)\/∃c,dJ f t=(none,c)/\c≠0
 | f,t,hv=>by
  rw [dJ];cases hs:dE t with
  | none=>exact .inl ⟨t,rfl,hv⟩
  | some t'=>
   cases f with
   | zero=>exact .inr ⟨1,rfl,by decide⟩
   | succ f=>
    simp only
    by_cases h:aE t'=true
    ·rw [if_pos h];exact nV f t' h
    ·rw [if_neg h];exact .inr ⟨2,rfl,by decide⟩
def ctN (N:Nat)(t:Tm):Option Int:=if aE t=true then (iE (bL N [] t) kN).map Rs.cd else some 3
def cnC (co:Int)(t:Tm):Int × Int:=if co=0 then (if (dJ 200 t).2=0 then (if (oC ((dJ 200 t).1.getD (.mk 0 0 []))).2=true then ((oC ((dJ 200 t).1.getD (.mk 0 0 []))).1,0) else (0,2)) else (0,2)) else (0,co)
theorem aBu {co:Int}{t:Tm}(h:co≠0):cnC co t=(0,co):=if_neg h
theorem xP {t:Tm}{c:Int}(h:dJ 200 t=(none,c))(hc:c≠0):cnC 0 t=(0,2):=by rw [cnC,if_pos rfl,h,if_neg hc]
theorem aAz {t x:Tm}(h:dJ 200 t=(some x,0)){m:Int}(hx:oC x=(m,true)):cnC 0 t=(m,0):=by rw [cnC,if_pos rfl,h,if_pos rfl,Option.getD_some,hx];rfl
theorem vE {t x:Tm}(h:dJ 200 t=(some x,0)){m:Int}(hx:oC x=(m,false)):cnC 0 t=(0,2):=by rw [cnC,if_pos rfl,h,if_pos rfl,Option.getD_some,hx];rfl
theorem aHk (N:Nat):bL (N+1) [] kN=some (.ok (.mk 2 0 [])):=kI (N:=1) (by omega) [] kN _ (by rfl)
theorem aTq (N:Nat):oW (bL (N+1) [] (.mk 6 0 []))=some (.ok 0):=by
 have h:=aHk N;rw [kN] at h;rw [h];rfl
theorem aXd {r:Rs Unit}(h:r.cd=0):r = .ok ():=by
 cases r with
 | ok a=>rfl
 | no b=>exact absurd h (aVm b)
theorem pB {N:Nat}{t:Tm}(h:ctN N t=some 0):aE t=true:=by
 by_cases hv:aE t=true
 ·exact hv
 ·rw [ctN,if_neg hv] at h;cases h
theorem aRd {N:Nat}{t:Tm}{co:Int}(h:ctN N t=some co)(hv:aE t=true):∃r,iL (bJ N) [] t (.mk 6 0 [])=some r/\r.cd=co:=by
 rw [ctN,if_pos hv] at h;cases hc:iE (bL N [] t) kN with
 | none=>rw [hc] at h;cases h
 | some r=>
  rw [hc] at h;injection h with h;refine ⟨r,?_,h⟩;rcases aO hc with ⟨b,h1,rfl⟩|⟨s,h1,h2⟩
  ·rw [iL,fQ N [] t _ h1];rfl
  ·rw [iL,fQ N [] t _ h1];exact h2
theorem aRo (N:Nat):iW (bJ (N+1)) [] (.mk 6 0 [])=some (.ok 0):=by
 have h:=fQ _ _ _ _ (aHk N);rw [kN] at h;rw [iW,h];rfl
theorem Tx.cast {d:Nat}{t:Tm}{b b':List UInt8}(h:Tx d t b)(e:b=b'):Tx d t b':=e▸h
def GoodL:List Tm->List (List UInt8)->Prop
 | [],[]=>True
 | t::ts,x::xs=>pV t x/\GoodL ts xs
 | _,_=>False
theorem GoodL.at_:∀{ts:List Tm} {xs:List (List UInt8)},GoodL ts xs->∀(j:Nat) (t:Tm) (x:List UInt8),ts[j]?=some t->xs[j]?=some x->pV t x
 | [],_,_,j,t,x,h1,_=>by simp at h1
 | _::_,[],h,_,_,_,_,_=>h.elim
 | a::ts,b::xs,h,0,t,x,h1,h2=>by
  simp only [List.getElem?_cons_zero,Option.some.injEq] at h1 h2
  subst h1 h2;exact h.1
 | a::ts,b::xs,h,j+1,t,x,h1,h2=>by
  simp only [List.getElem?_cons_succ] at h1 h2
  exact h.2.at_ j t x h1 h2
def drws:List Tm:=[(.mk 5 0 [(.mk 4 0 [(.mk 6 0 []),(.mk 4 0 [(.mk 6 0 []),(.mk 9 0 [(.mk 4 0 [(.mk 6 0 []),(.mk 6 0 [])]),(.mk 1 1 []),(.mk 4 0 [(.mk 6 0 []),(.mk 4 0 [(.mk 6 0 []),(.mk 8 0 [(.mk 1 0 [])])])]),(.mk 1 0 [])])])]),(.mk 8 0 [(.mk 8 0 [(.mk 7 0 [])])])]),(.mk 5 0 [(.mk 5 0 [(.mk 4 0 [(.mk 6 0 []),(.mk 4 0 [(.mk 6 0 []),(.mk 9 0 [(.mk 4 0 [(.mk 6 0 []),(.mk 6 0 [])]),(.mk 1 1 []),(.mk 4 0 [(.mk 6 0 []),(.mk 4 0 [(.mk 6 0 []),(.mk 8 0 [(.mk 1 0 [])])])]),(.mk 1 0 [])])])]),(.mk 8 0 [(.mk 8 0 [(.mk 7 0 [])])])]),(.mk 8 0 [(.mk 7 0 [])])]),(.mk 5 0 [(.mk 4 0 [(.mk 6 0 []),(.mk 8 0 [(.mk 1 0 [])])]),(.mk 5 0 [(.mk 4 0 [(.mk 6 0 []),(.mk 8 0 [(.mk 8 0 [(.mk 1 0 [])])])]),(.mk 7 0 [])])]),(.mk 15 0 [(.mk 14 0 [(.mk 13 0 [(.mk 6 0 []),(.mk 6 0 [])]),(.mk 5 0 [(.mk 4 0 [(.mk 6 0 []),(.mk 1 0 [])]),(.mk 7 0 [])]),(.mk 8 0 [(.mk 7 0 [])])])]),(.mk 16 0 [(.mk 14 0 [(.mk 13 0 [(.mk 6 0 []),(.mk 6 0 [])]),(.mk 7 0 []),(.mk 5 0 [(.mk 4 0 [(.mk 6 0 []),(.mk 8 0 [(.mk 1 0 [])])]),(.mk 7 0 [])])])]),(.mk 12 0 [(.mk 4 0 [(.mk 6 0 []),(.mk 10 0 [(.mk 6 0 []),(.mk 7 0 []),(.mk 1 0 [])])]),(.mk 11 0 [(.mk 7 0 [])]),(.mk 11 0 [(.mk 7 0 [])])]),(.mk 5 0 [(.mk 4 0 [(.mk 2 0 []),(.mk 4 0 [(.mk 1 0 []),(.mk 1 0 [])])]),(.mk 6 0 [])]),(.mk 5 0 [(.mk 4 0 [(.mk 6 0 []),(.mk 5 0 [(.mk 1 0 []),(.mk 1 0 [])])]),(.mk 4 0 [(.mk 6 0 []),(.mk 1 0 [])])]),(.mk 5 0 [(.mk 4 0 [(.mk 6 0 []),(.mk 5 0 [(.mk 1 0 []),(.mk 1 0 [])])]),(.mk 4 0 [(.mk 6 0 []),(.mk 5 0 [(.mk 1 0 []),(.mk 1 0 [])])])]),(.mk 9 0 [(.mk 4 0 [(.mk 6 0 []),(.mk 2 0 [])]),(.mk 6 0 []),(.mk 4 0 [(.mk 6 0 []),(.mk 4 0 [(.mk 2 0 []),(.mk 3 0 [(.mk 6 0 []),(.mk 1 1 [])])])]),(.mk 8 0 [(.mk 8 0 [(.mk 8 0 [(.mk 7 0 [])])])])]),(.mk 4 0 [(.mk 6 0 []),(.mk 5 0 [(.mk 4 0 [(.mk 6 0 []),(.mk 5 0 [(.mk 1 0 []),(.mk 1 1 [])])]),(.mk 1 0 [])])]),(.mk 5 0 [(.mk 5 0 [(.mk 4 0 [(.mk 3 0 [(.mk 6 0 []),(.mk 6 0 [])]),(.mk 4 0 [(.mk 6 0 []),(.mk 5 0 [(.mk 1 1 []),(.mk 5 0 [(.mk 1 1 []),(.mk 1 0 [])])])])]),(.mk 4 0 [(.mk 6 0 []),(.mk 8 0 [(.mk 1 0 [])])])]),(.mk 1 0 [])]),(.mk 9 0 [(.mk 4 0 [(.mk 6 0 []),(.mk 6 0 [])]),(.mk 7 0 []),(.mk 4 0 [(.mk 6 0 []),(.mk 4 0 [(.mk 6 0 []),(.mk 1 1 [])])]),(.mk 5 0 [(.mk 4 0 [(.mk 6 0 []),(.mk 8 0 [(.mk 1 0 [])])]),(.mk 1 2 [])])])]
def aHl:List (List UInt8):=[[40,91,78,93,91,78,93,60,91,78,93,78,44,35,49,44,91,78,93,91,78,93,43,35,48,44,35,48,62,32,43,43,48,41],[40,40,91,78,93,91,78,93,60,91,78,93,78,44,35,49,44,91,78,93,91,78,93,43,35,48,44,35,48,62,32,43,43,48,41,32,43,48,41],[40,91,78,93,43,35,48,32,40,91,78,93,43,43,35,48,32,48,41,41],[94,124,40,78,42,78,41,44,40,91,78,93,35,48,32,48,41,44,43,48,124],[95,124,40,78,42,78,41,44,48,44,40,91,78,93,43,35,48,32,48,41,124],[64,60,91,78,93,123,78,44,48,44,35,48,125,44,33,48,44,33,48,62],[40,91,42,48,93,91,35,48,93,35,48,32,78,41],[40,91,78,93,40,35,48,32,35,48,41,32,91,78,93,35,48,41],[40,91,78,93,40,35,48,32,35,48,41,32,91,78,93,40,35,48,32,35,48,41,41],[60,91,78,93,42,48,44,78,44,91,78,93,91,42,48,93,40,78,62,35,49,41,44,43,43,43,48,62],[91,78,93,40,91,78,93,40,35,48,32,35,49,41,32,35,48,41],[40,40,91,40,78,62,78,41,93,91,78,93,40,35,49,32,40,35,49,32,35,48,41,41,32,91,78,93,43,35,48,41,32,35,48,41],[60,91,78,93,78,44,48,44,91,78,93,91,78,93,35,49,44,40,91,78,93,43,35,48,32,35,50,41,62]]
theorem aUu:pV (.mk 5 0 [(.mk 4 0 [(.mk 6 0 []),(.mk 4 0 [(.mk 6 0 []),(.mk 9 0 [(.mk 4 0 [(.mk 6 0 []),(.mk 6 0 [])]),(.mk 1 1 []),(.mk 4 0 [(.mk 6 0 []),(.mk 4 0 [(.mk 6 0 []),(.mk 8 0 [(.mk 1 0 [])])])]),(.mk 1 0 [])])])]),(.mk 8 0 [(.mk 8 0 [(.mk 7 0 [])])])]) [40,91,78,93,91,78,93,60,91,78,93,78,44,35,49,44,91,78,93,91,78,93,43,35,48,44,35,48,62,32,43,43,48,41]:=⟨Tx.cast (.rnd 29 5 32 _ _ _ _ (.inr (.inr ⟨rfl,rfl⟩)) (.lam 28 _ _ _ _ (.nat 27) (.lam 27 _ _ _ _ (.nat 26) (tx4 (.inl ⟨rfl,rfl,rfl,rfl⟩) (.lam 25 _ _ _ _ (.nat 24) (.nat 24)) (.var 25 1 49 (by decide)) (.lam 25 _ _ _ _ (.nat 24) (.lam 24 _ _ _ _ (.nat 23) (.pre 23 8 43 _ _ (.inl ⟨rfl,rfl⟩) (.var 22 0 48 (by decide))))) (.var 25 0 48 (by decide))))) (.pre 28 8 43 _ _ (.inl ⟨rfl,rfl⟩) (.pre 27 8 43 _ _ (.inl ⟨rfl,rfl⟩) (.zero 26)))) (by simp [mX]),by decide +kernel,by decide⟩
theorem aUe:pV (.mk 5 0 [(.mk 5 0 [(.mk 4 0 [(.mk 6 0 []),(.mk 4 0 [(.mk 6 0 []),(.mk 9 0 [(.mk 4 0 [(.mk 6 0 []),(.mk 6 0 [])]),(.mk 1 1 []),(.mk 4 0 [(.mk 6 0 []),(.mk 4 0 [(.mk 6 0 []),(.mk 8 0 [(.mk 1 0 [])])])]),(.mk 1 0 [])])])]),(.mk 8 0 [(.mk 8 0 [(.mk 7 0 [])])])]),(.mk 8 0 [(.mk 7 0 [])])]) [40,40,91,78,93,91,78,93,60,91,78,93,78,44,35,49,44,91,78,93,91,78,93,43,35,48,44,35,48,62,32,43,43,48,41,32,43,48,41]:=⟨Tx.cast (.rnd 29 5 32 _ _ _ _ (.inr (.inr ⟨rfl,rfl⟩)) (.rnd 28 5 32 _ _ _ _ (.inr (.inr ⟨rfl,rfl⟩)) (.lam 27 _ _ _ _ (.nat 26) (.lam 26 _ _ _ _ (.nat 25) (tx4 (.inl ⟨rfl,rfl,rfl,rfl⟩) (.lam 24 _ _ _ _ (.nat 23) (.nat 23)) (.var 24 1 49 (by decide)) (.lam 24 _ _ _ _ (.nat 23) (.lam 23 _ _ _ _ (.nat 22) (.pre 22 8 43 _ _ (.inl ⟨rfl,rfl⟩) (.var 21 0 48 (by decide))))) (.var 24 0 48 (by decide))))) (.pre 27 8 43 _ _ (.inl ⟨rfl,rfl⟩) (.pre 26 8 43 _ _ (.inl ⟨rfl,rfl⟩) (.zero 25)))) (.pre 28 8 43 _ _ (.inl ⟨rfl,rfl⟩) (.zero 27))) (by simp [mX]),by decide +kernel,by decide⟩
theorem aTx:pV (.mk 5 0 [(.mk 4 0 [(.mk 6 0 []),(.mk 8 0 [(.mk 1 0 [])])]),(.mk 5 0 [(.mk 4 0 [(.mk 6 0 []),(.mk 8 0 [(.mk 8 0 [(.mk 1 0 [])])])]),(.mk 7 0 [])])]) [40,91,78,93,43,35,48,32,40,91,78,93,43,43,35,48,32,48,41,41]:=⟨Tx.cast (.rnd 29 5 32 _ _ _ _ (.inr (.inr ⟨rfl,rfl⟩)) (.lam 28 _ _ _ _ (.nat 27) (.pre 27 8 43 _ _ (.inl ⟨rfl,rfl⟩) (.var 26 0 48 (by decide)))) (.rnd 28 5 32 _ _ _ _ (.inr (.inr ⟨rfl,rfl⟩)) (.lam 27 _ _ _ _ (.nat 26) (.pre 26 8 43 _ _ (.inl ⟨rfl,rfl⟩) (.pre 25 8 43 _ _ (.inl ⟨rfl,rfl⟩) (.var 24 0 48 (by decide))))) (.zero 27))) (by simp [mX]),by decide +kernel,by decide⟩
theorem aVt:pV (.mk 15 0 [(.mk 14 0 [(.mk 13 0 [(.mk 6 0 []),(.mk 6 0 [])]),(.mk 5 0 [(.mk 4 0 [(.mk 6 0 []),(.mk 1 0 [])]),(.mk 7 0 [])]),(.mk 8 0 [(.mk 7 0 [])])])]) [94,124,40,78,42,78,41,44,40,91,78,93,35,48,32,48,41,44,43,48,124]:=⟨Tx.cast (.pre 29 15 94 _ _ (.inr (.inr (.inl ⟨rfl,rfl⟩))) (tx3 (.inr (.inr (.inl ⟨rfl,rfl,rfl,rfl⟩))) (.rnd 27 13 42 _ _ _ _ (.inr (.inl ⟨rfl,rfl⟩)) (.nat 26) (.nat 26)) (.rnd 27 5 32 _ _ _ _ (.inr (.inr ⟨rfl,rfl⟩)) (.lam 26 _ _ _ _ (.nat 25) (.var 25 0 48 (by decide))) (.zero 26)) (.pre 27 8 43 _ _ (.inl ⟨rfl,rfl⟩) (.zero 26)))) (by simp [mX]),by decide +kernel,by decide⟩
theorem aVv:pV (.mk 16 0 [(.mk 14 0 [(.mk 13 0 [(.mk 6 0 []),(.mk 6 0 [])]),(.mk 7 0 []),(.mk 5 0 [(.mk 4 0 [(.mk 6 0 []),(.mk 8 0 [(.mk 1 0 [])])]),(.mk 7 0 [])])])]) [95,124,40,78,42,78,41,44,48,44,40,91,78,93,43,35,48,32,48,41,124]:=⟨Tx.cast (.pre 29 16 95 _ _ (.inr (.inr (.inr ⟨rfl,rfl⟩))) (tx3 (.inr (.inr (.inl ⟨rfl,rfl,rfl,rfl⟩))) (.rnd 27 13 42 _ _ _ _ (.inr (.inl ⟨rfl,rfl⟩)) (.nat 26) (.nat 26)) (.zero 27) (.rnd 27 5 32 _ _ _ _ (.inr (.inr ⟨rfl,rfl⟩)) (.lam 26 _ _ _ _ (.nat 25) (.pre 25 8 43 _ _ (.inl ⟨rfl,rfl⟩) (.var 24 0 48 (by decide)))) (.zero 26)))) (by simp [mX]),by decide +kernel,by decide⟩
theorem aUb:pV (.mk 12 0 [(.mk 4 0 [(.mk 6 0 []),(.mk 10 0 [(.mk 6 0 []),(.mk 7 0 []),(.mk 1 0 [])])]),(.mk 11 0 [(.mk 7 0 [])]),(.mk 11 0 [(.mk 7 0 [])])]) [64,60,91,78,93,123,78,44,48,44,35,48,125,44,33,48,44,33,48,62]:=⟨Tx.cast (tx3 (.inr (.inr (.inr ⟨rfl,rfl,rfl,rfl⟩))) (.lam 28 _ _ _ _ (.nat 27) (tx3 (.inr (.inl ⟨rfl,rfl,rfl,rfl⟩)) (.nat 26) (.zero 26) (.var 26 0 48 (by decide)))) (.pre 28 11 33 _ _ (.inr (.inl ⟨rfl,rfl⟩)) (.zero 27)) (.pre 28 11 33 _ _ (.inr (.inl ⟨rfl,rfl⟩)) (.zero 27))) (by simp [mX]),by decide +kernel,by decide⟩
theorem aUv:pV (.mk 5 0 [(.mk 4 0 [(.mk 2 0 []),(.mk 4 0 [(.mk 1 0 []),(.mk 1 0 [])])]),(.mk 6 0 [])]) [40,91,42,48,93,91,35,48,93,35,48,32,78,41]:=⟨Tx.cast (.rnd 29 5 32 _ _ _ _ (.inr (.inr ⟨rfl,rfl⟩)) (.lam 28 _ _ _ _ (.sort 27 0 48 (by decide)) (.lam 27 _ _ _ _ (.var 26 0 48 (by decide)) (.var 26 0 48 (by decide)))) (.nat 28)) (by simp [mX]),by decide +kernel,by decide⟩
theorem aUl:pV (.mk 5 0 [(.mk 4 0 [(.mk 6 0 []),(.mk 5 0 [(.mk 1 0 []),(.mk 1 0 [])])]),(.mk 4 0 [(.mk 6 0 []),(.mk 1 0 [])])]) [40,91,78,93,40,35,48,32,35,48,41,32,91,78,93,35,48,41]:=⟨Tx.cast (.rnd 29 5 32 _ _ _ _ (.inr (.inr ⟨rfl,rfl⟩)) (.lam 28 _ _ _ _ (.nat 27) (.rnd 27 5 32 _ _ _ _ (.inr (.inr ⟨rfl,rfl⟩)) (.var 26 0 48 (by decide)) (.var 26 0 48 (by decide)))) (.lam 28 _ _ _ _ (.nat 27) (.var 27 0 48 (by decide)))) (by simp [mX]),by decide +kernel,by decide⟩
theorem aUm:pV (.mk 5 0 [(.mk 4 0 [(.mk 6 0 []),(.mk 5 0 [(.mk 1 0 []),(.mk 1 0 [])])]),(.mk 4 0 [(.mk 6 0 []),(.mk 5 0 [(.mk 1 0 []),(.mk 1 0 [])])])]) [40,91,78,93,40,35,48,32,35,48,41,32,91,78,93,40,35,48,32,35,48,41,41]:=⟨Tx.cast (.rnd 29 5 32 _ _ _ _ (.inr (.inr ⟨rfl,rfl⟩)) (.lam 28 _ _ _ _ (.nat 27) (.rnd 27 5 32 _ _ _ _ (.inr (.inr ⟨rfl,rfl⟩)) (.var 26 0 48 (by decide)) (.var 26 0 48 (by decide)))) (.lam 28 _ _ _ _ (.nat 27) (.rnd 27 5 32 _ _ _ _ (.inr (.inr ⟨rfl,rfl⟩)) (.var 26 0 48 (by decide)) (.var 26 0 48 (by decide))))) (by simp [mX]),by decide +kernel,by decide⟩
theorem aTw:pV (.mk 9 0 [(.mk 4 0 [(.mk 6 0 []),(.mk 2 0 [])]),(.mk 6 0 []),(.mk 4 0 [(.mk 6 0 []),(.mk 4 0 [(.mk 2 0 []),(.mk 3 0 [(.mk 6 0 []),(.mk 1 1 [])])])]),(.mk 8 0 [(.mk 8 0 [(.mk 8 0 [(.mk 7 0 [])])])])]) [60,91,78,93,42,48,44,78,44,91,78,93,91,42,48,93,40,78,62,35,49,41,44,43,43,43,48,62]:=⟨Tx.cast (tx4 (.inl ⟨rfl,rfl,rfl,rfl⟩) (.lam 28 _ _ _ _ (.nat 27) (.sort 27 0 48 (by decide))) (.nat 28) (.lam 28 _ _ _ _ (.nat 27) (.lam 27 _ _ _ _ (.sort 26 0 48 (by decide)) (.rnd 26 3 62 _ _ _ _ (.inl ⟨rfl,rfl⟩) (.nat 25) (.var 25 1 49 (by decide))))) (.pre 28 8 43 _ _ (.inl ⟨rfl,rfl⟩) (.pre 27 8 43 _ _ (.inl ⟨rfl,rfl⟩) (.pre 26 8 43 _ _ (.inl ⟨rfl,rfl⟩) (.zero 25))))) (by simp [mX]),by decide +kernel,by decide⟩
theorem aQi:pV (.mk 4 0 [(.mk 6 0 []),(.mk 5 0 [(.mk 4 0 [(.mk 6 0 []),(.mk 5 0 [(.mk 1 0 []),(.mk 1 1 [])])]),(.mk 1 0 [])])]) [91,78,93,40,91,78,93,40,35,48,32,35,49,41,32,35,48,41]:=⟨Tx.cast (.lam 29 _ _ _ _ (.nat 28) (.rnd 28 5 32 _ _ _ _ (.inr (.inr ⟨rfl,rfl⟩)) (.lam 27 _ _ _ _ (.nat 26) (.rnd 26 5 32 _ _ _ _ (.inr (.inr ⟨rfl,rfl⟩)) (.var 25 0 48 (by decide)) (.var 25 1 49 (by decide)))) (.var 27 0 48 (by decide)))) (by simp [mX]),by decide +kernel,by decide⟩
theorem aQv:pV (.mk 5 0 [(.mk 5 0 [(.mk 4 0 [(.mk 3 0 [(.mk 6 0 []),(.mk 6 0 [])]),(.mk 4 0 [(.mk 6 0 []),(.mk 5 0 [(.mk 1 1 []),(.mk 5 0 [(.mk 1 1 []),(.mk 1 0 [])])])])]),(.mk 4 0 [(.mk 6 0 []),(.mk 8 0 [(.mk 1 0 [])])])]),(.mk 1 0 [])]) [40,40,91,40,78,62,78,41,93,91,78,93,40,35,49,32,40,35,49,32,35,48,41,41,32,91,78,93,43,35,48,41,32,35,48,41]:=⟨Tx.cast (.rnd 29 5 32 _ _ _ _ (.inr (.inr ⟨rfl,rfl⟩)) (.rnd 28 5 32 _ _ _ _ (.inr (.inr ⟨rfl,rfl⟩)) (.lam 27 _ _ _ _ (.rnd 26 3 62 _ _ _ _ (.inl ⟨rfl,rfl⟩) (.nat 25) (.nat 25)) (.lam 26 _ _ _ _ (.nat 25) (.rnd 25 5 32 _ _ _ _ (.inr (.inr ⟨rfl,rfl⟩)) (.var 24 1 49 (by decide)) (.rnd 24 5 32 _ _ _ _ (.inr (.inr ⟨rfl,rfl⟩)) (.var 23 1 49 (by decide)) (.var 23 0 48 (by decide)))))) (.lam 27 _ _ _ _ (.nat 26) (.pre 26 8 43 _ _ (.inl ⟨rfl,rfl⟩) (.var 25 0 48 (by decide))))) (.var 28 0 48 (by decide))) (by simp [mX]),by decide +kernel,by decide⟩
theorem aQz:pV (.mk 9 0 [(.mk 4 0 [(.mk 6 0 []),(.mk 6 0 [])]),(.mk 7 0 []),(.mk 4 0 [(.mk 6 0 []),(.mk 4 0 [(.mk 6 0 []),(.mk 1 1 [])])]),(.mk 5 0 [(.mk 4 0 [(.mk 6 0 []),(.mk 8 0 [(.mk 1 0 [])])]),(.mk 1 2 [])])]) [60,91,78,93,78,44,48,44,91,78,93,91,78,93,35,49,44,40,91,78,93,43,35,48,32,35,50,41,62]:=⟨Tx.cast (tx4 (.inl ⟨rfl,rfl,rfl,rfl⟩) (.lam 28 _ _ _ _ (.nat 27) (.nat 27)) (.zero 28) (.lam 28 _ _ _ _ (.nat 27) (.lam 27 _ _ _ _ (.nat 26) (.var 26 1 49 (by decide)))) (.rnd 28 5 32 _ _ _ _ (.inr (.inr ⟨rfl,rfl⟩)) (.lam 27 _ _ _ _ (.nat 26) (.pre 26 8 43 _ _ (.inl ⟨rfl,rfl⟩) (.var 25 0 48 (by decide)))) (.var 27 2 50 (by decide)))) (by simp [mX]),by decide +kernel,by decide⟩
theorem drws_good:GoodL drws aHl:=⟨aUu,aUe,aTx,aVt,aVv,aUb,aUv,aUl,aUm,aTw,aQi,aQv,aQz,trivial⟩
theorem aVb (xs:List (List UInt8))(B r p g:Nat)(w:World)(hx:0<xs.length)(hx2:xs.length<=1000)(hp:p<=1000000000)(hB:B<=w.heap.size)(hr:Rdr B w r p)(hL:Blk w g (aQs xs))(hg:r≠g) :
  Calls prog 32 #[.pointer (some ⟨r,0,none⟩),.slice (some ⟨g,0,none⟩) xs.length xs.length] w λ e w'=>∃(m:Nat) (h:m<xs.length),e = .returned (.string (dM xs[m]))/\Rdr B w' r (p+1)/\w.grownBy w' (some r):=by
 go_enter func32,ntmps32;go_wp2_with (go_at_call 14;refine (jW B r p xs.length _ hp (by omega) hB hr).mono ?_;rintro e w1 ⟨m,rfl,hm,hm0,hr1,hg1⟩;have hm:=hm (by omega);clear hm0;have hm':m<xs.length:=(by omega);have hc:w1.cell? ⟨g,m,none⟩=some (.string (dM xs[m])):=(hL.grown hg1 (by simpa using hg.symm)).at_ (aNx hm'))
 go_ret
 exact ⟨m,hm',rfl,hr1,hg1⟩
def aDs:List UInt8:=[91,78,93,91,78,93,60,91,78,93,78,44,35,49,44,91,78,93,91,78,93,43,35,48,44,35,48,62]
theorem aOu (w:World):Calls prog 33 #[] w λ e w'=>e = .returned (.string (dM aDs))/\w=w':=by
 go_enter func33,ntmps33;go_wp2_with fail
 go_ret
 exact ⟨rfl,rfl⟩
theorem aGx {k n:Int}{ks:List Tm}(h:Tm.mk k n ks∈drws):aH ks<=60:=by
 have h1:(drws.all λ t=>decide (t.size<=61))=true:=by decide
 have:=of_decide_eq_true (List.all_eq_true.1 h1 _ h);rw [Tm.size] at this;omega
def aUk (B:Nat)(w:World)(r p q s:Nat)(P:Tm->Prop)(e:Ending)(w':World):Prop:=
 ∃(k n:Int) (ks:List Tm) (A:Option Addr) (c p':Nat),e = .returned (.agg (Ro k n A ks.length c))/\ks.length<=9223372036854775807/\aH ks+1<=s/\P (.mk k n ks)/\p'<=p+q/\Fresh w.heap.size w' A ks/\Rdr B w' r p'/\w.grownBy w' (some r)
theorem aGv (B r p:Nat)(w:World)(hp:p<=890000000)(hB:B<=w.heap.size)(hr:Rdr B w r p):Calls prog 15 #[.pointer (some ⟨r,0,none⟩)] w (aUk B w r p 1030 341 λ t=>t∈drws\/sN 4 t=true):=by
 have hrl:=hr.lt;have a1:∀w,(Op.stringOp .add ⟨#[40]⟩ (dM aDs)).run prog w = .ok (.string (dM [40,91,78,93,91,78,93,60,91,78,93,78,44,35,49,44,91,78,93,91,78,93,43,35,48,44,35,48,62])) w:=λ w=>cA (a:=[40]) (b:=aDs) rfl (by decide) w
 have a2:∀w,(Op.stringOp .add (dM [40,91,78,93,91,78,93,60,91,78,93,78,44,35,49,44,91,78,93,91,78,93,43,35,48,44,35,48,62]) ⟨#[32,43,43,48,41]⟩).run prog w = .ok (.string (dM [40,91,78,93,91,78,93,60,91,78,93,78,44,35,49,44,91,78,93,91,78,93,43,35,48,44,35,48,62,32,43,43,48,41])) w:=λ w=>cA (a:=[40,91,78,93,91,78,93,60,91,78,93,78,44,35,49,44,91,78,93,91,78,93,43,35,48,44,35,48,62]) (b:=[32,43,43,48,41]) rfl (by decide) w
 have a3:∀w,(Op.stringOp .add ⟨#[40,40]⟩ (dM aDs)).run prog w = .ok (.string (dM [40,40,91,78,93,91,78,93,60,91,78,93,78,44,35,49,44,91,78,93,91,78,93,43,35,48,44,35,48,62])) w:=λ w=>cA (a:=[40,40]) (b:=aDs) rfl (by decide) w
 have a4:∀w,(Op.stringOp .add (dM [40,40,91,78,93,91,78,93,60,91,78,93,78,44,35,49,44,91,78,93,91,78,93,43,35,48,44,35,48,62]) ⟨#[32,43,43,48,41,32,43,48,41]⟩).run prog w = .ok (.string (dM [40,40,91,78,93,91,78,93,60,91,78,93,78,44,35,49,44,91,78,93,91,78,93,43,35,48,44,35,48,62,32,43,43,48,41,32,43,48,41])) w:=λ w=>cA (a:=[40,40,91,78,93,91,78,93,60,91,78,93,78,44,35,49,44,91,78,93,91,78,93,43,35,48,44,35,48,62]) (b:=[32,43,43,48,41,32,43,48,41]) rfl (by decide) w
 go_enter func15,ntmps15;go_wp2_with (first
  | (go_at_call 34;refine (yK hgood.out _).mono ?_;rintro e w2 ⟨A2,c2,rfl,hl2,hf2,hb2⟩;have tok2:=trivial)
  | (go_at_call 32;refine (aVb aHl B r p (w.heap.size+1) _ (by decide) (by decide) (by omega) (by simp;omega) ((hr.alloc (by omega) _).alloc (by simp;omega) _) (aC _ 9 (aQs aHl) (by simp)) (by omega)).mono ?_;rintro e w1 ⟨m,hm,rfl,hr1,hg1⟩;have hm13:m<drws.length:=hm;obtain ⟨k,n,ks,hk⟩:=jF drws[m];have hgood:=aD (drws_good.at_ m (.mk k n ks) aHl[m] (by rw [oE hm13,hk]) (oE hm));have hsm:=aGx (k:=k) (n:=n) (ks:=ks) (hk▸iS hm13);have h3c:Tm.mk k n ks∈drws:=(hk▸iS hm13);clear hk;have hZ:Blk w1 w.heap.size Zr:=((aC w 25 Zr rfl).alloc _).grown hg1 (by simp;omega);have g1:w.grownBy w1 (some r):=bE (aM (aM (iM _ _) _) _) hg1;have s1:=g1.size;have lz1:=hZ.lt)
  | (go_at_call 33;refine (aOu _).mono ?_;rintro e w' ⟨rfl,rfl⟩))
 replace hZ:=hZ.keep hb2;have g2:=bI g1 hb2;have s2:=hb2.size;refine (jW B r (p+1) 3 _ (by omega) (by omega) (by simp;omega) ((hr1.below hb2 (by omega)).alloc (by omega) _)).mono ?_;rintro e w3 ⟨m3,rfl,hm3,hm30,hr3,hg3⟩;clear hm3 hm30;have hX:=(aC w2 25 (Ro k n A2 ks.length c2) rfl).grown hg3 (by simp;omega);replace hZ:=(hZ.alloc (.cells (Ro k n A2 ks.length c2) 25)).grown hg3 (by simp;omega);have g3:=bE (aM g2 (.cells (Ro k n A2 ks.length c2) 25)) hg3;have s3:=g3.size;have f3:=(hf2.alloc (.cells (Ro k n A2 ks.length c2) 25)).keep (λ b h1 h2=>hg3.block b h2 (by simp;omega));obtain ⟨x0,x1,x2⟩:=hX.three;have lx:=hX.lt;have lz:=hZ.lt;by_cases h0:m3=0
 ·have q0:¬0<m3:=by omega
  clear h0;go_wp2_with (go_at_call 35;refine (aPw B r (p+1+1) _ (by omega) (by omega) hr3).mono ?_;rintro e w4 ⟨k4,n4,ks4,A4,c4,p4,rfl,hl4,hs4,h34,hp4,hf4,hr4,hg4⟩;replace hZ:=hZ.grown hg4 (by simp;omega);obtain ⟨d0,d1,d2,e0,e1,e2⟩:=bW hZ)
  have g4:=bE g3 hg4;refine bodyPost_ret (v:=.agg (Ro k4 n4 A4 ks4.length c4)) (by simp [results,results15,go_sem,d0,d1,d2]) rfl ⟨k4,n4,ks4,A4,c4,p4,rfl,hl4,by omega,.inr h34,by omega,?_,?_,?_⟩
  ·exact (mU hf4).mono (by omega)
  ·exact ((hr4.setCell (by simp;omega) _).setCell (by simp;omega) _).setCell (by simp;omega) _
  ·exact aG (aG (aG g4 (.inr (by simp)) _) (.inr (by simp)) _) (.inr (by simp)) _
 ·have q0:0<m3:=by omega
  clear h0;obtain ⟨d0,d1,d2,e0,e1,e2⟩:=bW hZ;go_wp2_with fail
  refine bodyPost_ret (v:=.agg (Ro k n A2 ks.length c2)) (by simp [results,results15,go_sem,d0,d1,d2]) rfl ⟨k,n,ks,A2,c2,_,rfl,hl2,by omega,.inl h3c,(by omega:p+1+1<=p+1030),?_,?_,?_⟩
  ·exact (((f3.setCell (by simp;omega) _).setCell (by simp;omega) _).setCell (by simp;omega) _).mono (by omega)
  ·exact ((hr3.setCell (by simp;omega) _).setCell (by simp;omega) _).setCell (by simp;omega) _
  ·exact aG (aG (aG g3 (.inr (by simp)) _) (.inr (by simp)) _) (.inr (by simp)) _
theorem dU {N:Nat}{ctx:List Tm}{t s:Tm}(h:bJ N ctx t=some (.ok s)):∃M,N=M+1/\aE t=true/\fS (bJ M) ctx t=some (.ok s)/\aE s=true:=by
 have hv:=dQ h;cases N with
 | zero=>cases h
 | succ M=>
  rw [bJ] at h;split at h
  ·rename_i hh
   obtain ⟨o,ho,hs⟩:=bN h;unfold eC at hs
   split at hs
   ·have:=cN hs;subst this;exact ⟨M,rfl,hh.1,ho,hv⟩
   ·injection hs with hs;cases hs
  ·injection h with h;cases h
theorem aNs {k n:Int}{ks:List Tm}(h:k=2\/k=3\/k=10\/k=13):bS (.mk k n ks)=none:=by
 have h1:cH k ks=0:=by rcases h with rfl|rfl|rfl|rfl<;>simp [cH]
 have h2:dD k<0:=by rcases h with rfl|rfl|rfl|rfl<;>decide
 rw [bS,if_pos h1,if_pos h2]
theorem aTn {k n:Int}{ks:List Tm}(h:k=2\/k=3\/k=10\/k=13)(hv:aE (.mk k n ks)=true):lU (.mk k n ks) = .ok (.mk k n ks):=by
 unfold lU
 rw [if_pos hv,redI,aNs h]
theorem fU {s o:Tm}(hk:s.k=2\/s.k=3\/s.k=10\/s.k=13)(h:lU s = .ok o):o=s:=by
 obtain ⟨k,n,ks⟩:=s;have hv:=(eL h).1;have hk':k=2\/k=3\/k=10\/k=13:=hk;rw [aTn hk' hv] at h;injection h with h;exact h.symm
theorem jP {N:Nat}{ctx:List Tm}{t h:Tm}{kind:Int}(hs:xQ (bJ N) ctx t kind=some (.ok h)):∃s,bJ N ctx t=some (.ok s)/\lU s = .ok h:=by
 obtain ⟨s,h1,hs⟩:=bN hs;obtain ⟨o,h2,hs⟩:=bN hs;injection h2 with h2;unfold gU at hs
 split at hs
 ·have:=cN hs;subst this;exact ⟨s,h1,h2⟩
 ·injection hs with hs;cases hs
theorem vA {N:Nat}{ctx:List Tm}{a b u:Tm}(h:bJ N ctx (.mk 4 0 [a,b])=some (.ok u)):∃M v,bJ M (ctx++[a]) b=some (.ok v)/\u = .mk 3 0 [a,v]:=by
 obtain ⟨M,rfl,_,hk,_⟩:=dU h;rw [fS,if_neg (by decide),if_pos rfl] at hk;obtain ⟨_,_,hk⟩:=bN hk;obtain ⟨v,hv,hk⟩:=bN hk;obtain ⟨_,_,hk⟩:=bN hk;have:=cN hk;exact ⟨M,v,hv,this.symm⟩
def famN:Tm:=.mk 4 0 [kN,kN]
def tyN (x:NT):Tm:=match x.idx with|none=>kN|some u=>.mk 5 0 [famN,u.tm]
theorem dP (n:Nat):List.replicate n kN++[kN]=List.replicate (n+1) kN:=(List.replicate_succ' ..).symm
theorem qQ (x:NT):∀(n N:Nat) (s:Tm),bJ N (List.replicate n kN) x.tm=some (.ok s)->s=tyN x:=by
 induction x with
 | var i=>
  intro n N s h;obtain ⟨M,rfl,_,hk,_⟩:=dU h;simp only [NT.tm,fS,Int.reduceEq,if_false,if_true,or_self] at hk
  unfold aDz at hk
  split at hk
  ·injection hk with hk;cases hk
  ·rename_i hl
   have:=cN hk;rw [<- this];have hlt:n - 1 - i<n:=by simp at hl;omega
   rw [show (List.replicate n kN).getD ((List.replicate n kN).length - 1 - ((i:Nat):Int).toNat) default=kN by simp [List.getD,hlt]];simp [kN,eZ,cP,tyN,NT.idx]
 | zero=>
  intro n N s h;obtain ⟨M,rfl,_,hk,_⟩:=dU h;simp only [NT.tm,fS,Int.reduceEq,if_false,if_true,or_self] at hk
  exact (cN hk).symm
 | suc a _=>
  intro n N s h;obtain ⟨M,rfl,_,hk,_⟩:=dU h;simp only [NT.tm,fS,Int.reduceEq,if_false,if_true,or_self] at hk
  obtain ⟨_,_,hk⟩:=bN hk;exact (cN hk).symm
 | app b a h1 h2=>
  intro n N s h;obtain ⟨M,rfl,_,hk,_⟩:=dU h;simp only [NT.tm,fS,Int.reduceEq,if_false,if_true,or_self] at hk
  obtain ⟨hh,hs,hk⟩:=bN hk;obtain ⟨_,_,hk⟩:=bN hk;obtain ⟨u,hu,hd⟩:=jP hs;obtain ⟨L,v,hv,rfl⟩:=vA hu;have:=fU (.inr (.inl rfl)) hd;subst this;rw [show ([kN]:List Tm)=[kN] from rfl,dP] at hv;have hty:=h1 (n+1) L v hv;have:=cN hk;rw [<- this];show dC a.tm 0 0 v=_
  rw [hty];unfold tyN
  rw [NT.idx];cases b.idx with
  | none=>simp [kN,dC,cQ]
  | some w=>
   have:=NT.tm_sub w a 0;simp only [Option.map_some]
   rw [<- this];simp [famN,kN,dC,cQ,aR,binds]
 | elim z s m _ _ _=>
  intro n N t h;obtain ⟨M,rfl,_,hk,_⟩:=dU h;simp only [NT.tm,fS,Int.reduceEq,if_false,if_true,or_self] at hk
  obtain ⟨_,_,hk⟩:=bN hk;obtain ⟨_,_,hk⟩:=bN hk;obtain ⟨_,_,hk⟩:=bN hk;obtain ⟨_,_,hk⟩:=bN hk;exact (cN hk).symm
 | part q a b _ _=>
  intro n N t h;obtain ⟨M,rfl,_,hk,_⟩:=dU h;have key:∀k:Int,aQx (bJ M) (List.replicate n kN) k (.mk 14 0 [.mk 13 0 [kN,kN],a.tm,b.tm])=some (.ok t)->t=kN:=by
   intro k hk;obtain ⟨hh,hs,hk⟩:=bN hk;obtain ⟨u,hu,hd⟩:=jP hs;obtain ⟨L,rfl,_,hu2,_⟩:=dU hu;simp only [fS,Int.reduceEq,if_false,if_true,or_self] at hu2
   obtain ⟨_,_,hu2⟩:=bN hu2;obtain ⟨_,_,hu2⟩:=bN hu2;obtain ⟨_,_,hu2⟩:=bN hu2;obtain ⟨_,_,hu2⟩:=bN hu2;obtain ⟨_,_,hu2⟩:=bN hu2;have:=cN hu2;subst this;have:=fU (.inr (.inr (.inr rfl))) hd;subst this;split at hk
   ·exact (cN hk).symm
   ·rw [<- cN hk];simp [aI,Tm.ks,kN,dC,cQ]
  cases q with
  | false=>simp only [NT.tm,fS,Int.reduceEq,if_false,if_true,or_self] at hk;exact key 15 hk
  | true=>simp only [NT.tm,fS,Int.reduceEq,if_false,if_true,or_self] at hk;exact key 16 hk
 | mov x z h1 _=>
  intro n N t h;obtain ⟨M,rfl,_,hk,_⟩:=dU h;simp only [NT.tm,fS,Int.reduceEq,if_false,if_true,or_self] at hk
  obtain ⟨hh,hs,hk⟩:=bN hk;obtain ⟨_,_,hk⟩:=bN hk;obtain ⟨_,_,hk⟩:=bN hk;obtain ⟨u,hu,hd⟩:=jP hs;obtain ⟨L,rfl,_,hu2,_⟩:=dU hu;simp only [aI,List.getD_cons_succ,List.getD_cons_zero,fS,Int.reduceEq,if_false,if_true,or_self] at hu2
  obtain ⟨v,hv,hu2⟩:=bN hu2;obtain ⟨_,_,hu2⟩:=bN hu2;have:=cN hu2;subst this;have:=fU (.inr (.inr (.inl rfl))) hd;subst this;first
   | exact (cN hk).symm
   | (obtain ⟨_,_,hk⟩:=bN hk;exact (cN hk).symm)
/-! the inference ends -/
theorem aIj {N:Nat}{ctx:List Tm}{u:Tm}(h:bJ N ctx kN=some (.ok u)):u = .mk 2 0 []:=by
 obtain ⟨M,rfl,_,hk,_⟩:=dU h;simp only [kN,fS,Int.reduceEq,if_false,if_true,or_self] at hk
 exact (cN hk).symm
def Sm {α:Type}(o:Option α):Prop:=∃r,o=some r
theorem dV {α β:Type}{o:Option (Rs α)}{f:α->Option (Rs β)}(h:Sm o)(hf:∀a,o=some (.ok a)->Sm (f a)):Sm (bd o f):=by
 obtain ⟨r,rfl⟩:=h;cases r with
 | no b=>exact ⟨_,rfl⟩
 | ok a=>exact hf a rfl
theorem aSh (h:Tm):Sm (aGm h):=by unfold aGm;split<;>exact ⟨_,rfl⟩
theorem aHh (k:Int)(h:Tm):Sm (gU k h):=by unfold gU;split<;>exact ⟨_,rfl⟩
theorem aRm (h:Tm):Sm (aFt h):=by unfold aFt;split<;>exact ⟨_,rfl⟩
theorem nD (t:Tm):Sm (eC t):=by unfold eC;split<;>exact ⟨_,rfl⟩
theorem qV {o:Option (Rs Tm)}(h:Sm o):Sm (oW o):=dV h λ _ _=>dV ⟨_,rfl⟩ λ _ _=>aSh _
theorem xC {o:Option (Rs Tm)}{k:Int}(h:Sm o):Sm (oA o k):=dV h λ _ _=>dV ⟨_,rfl⟩ λ _ _=>aHh _ _
theorem lY {o:Option (Rs Tm)}{t:Tm}(h:Sm o):Sm (iE o t):=dV h λ _ _=>⟨_,rfl⟩
theorem aPj {o:Option (Rs Tm)}{t:Tm}(h:Sm o):Sm (faV o t):=dV (xC h) λ _ _=>dV ⟨_,rfl⟩ λ _ _=>dV ⟨_,rfl⟩ λ _ _=>aRm _
theorem aHt {α:Type}{t:Tm}{f:Option (Rs α)}(hv:aE t=true)(h:Sm f):Sm (vb t f):=by rw [aXy hv];exact h
theorem aTu {rec_:Tm->Option (Rs Tm)}{ctx:List Tm}{k n:Int}{ks:List Tm}{ty:Nat->Option (Rs Tm)}(ha:aK k=(ks.length:Int))(hk:∀i,i<ks.length->Sm (ty i))
  (h4 : k = 4 -> ∀ u, ty 1 = some (.ok u) -> Sm (rec_ (.mk 3 0 [aI ks 0, u])))
  (h9 : k = 9 -> aE (kB (aI ks 0) (.mk 7 0 [])) = true /\ aE (kP (aI ks 0)) = true)
  (h11 : k = 11 -> ∀ s, ty 0 = some (.ok s) -> Sm (rec_ s))
  (h12 : k = 12 -> ∀ e, oA (ty 1) 10 = some (.ok e) -> aE (kB (aI ks 0) (aI e.ks 1)) = true)
  (h14 : k = 14 -> ∀ h, lU (aI ks 0) = .ok h -> h.k = 13 -> aE (dC (aI ks 1) 0 0 (aI h.ks 1)) = true) : Sm (mM rec_ ctx (.mk k n ks) ty) := by
 have a4:aK 4=2:=rfl;have a3:aK 3=2:=rfl;have a13:aK 13=2:=rfl;have a5:aK 5=2:=rfl;have a8:aK 8=1:=rfl;have a9:aK 9=4:=rfl;have a10:aK 10=3:=rfl;have a11:aK 11=1:=rfl;have a12:aK 12=3:=rfl;have a14:aK 14=3:=rfl;have a15:aK 15=1:=rfl;have a16:aK 16=1:=rfl;unfold mM
 by_cases e1:k=1
 ·rw [if_pos (show (Tm.mk k n ks).k=1 from e1)];split;exact ⟨_,rfl⟩;exact nD _
 rw [if_neg (show ¬(Tm.mk k n ks).k=1 from e1)];by_cases e2:k=2
 ·rw [if_pos (show (Tm.mk k n ks).k=2 from e2)];split<;>exact ⟨_,rfl⟩
 rw [if_neg (show ¬(Tm.mk k n ks).k=2 from e2)];by_cases e6:k=6
 ·rw [if_pos (show (Tm.mk k n ks).k=6 from e6)];exact ⟨_,rfl⟩
 rw [if_neg (show ¬(Tm.mk k n ks).k=6 from e6)];by_cases e7:k=7
 ·rw [if_pos (show (Tm.mk k n ks).k=7 from e7)];exact ⟨_,rfl⟩
 rw [if_neg (show ¬(Tm.mk k n ks).k=7 from e7)];by_cases e8:k=8
 ·rw [if_pos (show (Tm.mk k n ks).k=8 from e8)];subst e8;exact dV (lY (hk 0 (by omega))) λ _ _=>⟨_,rfl⟩
 rw [if_neg (show ¬(Tm.mk k n ks).k=8 from e8)];by_cases e3:k=3\/k=13
 ·rw [if_pos (show (Tm.mk k n ks).k=3\/(Tm.mk k n ks).k=13 from e3)];have h2:ks.length=2:=by rcases e3 with rfl|rfl<;>omega
  exact dV (qV (hk 0 (by omega))) λ _ _=>dV (qV (hk 1 (by omega))) λ _ _=>⟨_,rfl⟩
 rw [if_neg (show ¬((Tm.mk k n ks).k=3\/(Tm.mk k n ks).k=13) from e3)];by_cases e4:k=4
 ·rw [if_pos (show (Tm.mk k n ks).k=4 from e4)];subst e4;exact dV (qV (hk 0 (by omega))) λ _ _=>dV (hk 1 (by omega)) λ u hu=>dV (h4 rfl u hu) λ _ _=>nD _
 rw [if_neg (show ¬(Tm.mk k n ks).k=4 from e4)];by_cases e5:k=5
 ·rw [if_pos (show (Tm.mk k n ks).k=5 from e5)];subst e5;exact dV (xC (hk 0 (by omega))) λ _ _=>dV (lY (hk 1 (by omega))) λ _ _=>nD _
 rw [if_neg (show ¬(Tm.mk k n ks).k=5 from e5)];by_cases e9:k=9
 ·rw [if_pos (show (Tm.mk k n ks).k=9 from e9)];subst e9;exact dV (aPj (hk 0 (by omega))) λ _ _=>aHt (h9 rfl).1 (dV (lY (hk 1 (by omega))) λ _ _=>aHt (h9 rfl).2 (dV (lY (hk 2 (by omega))) λ _ _=>dV (lY (hk 3 (by omega))) λ _ _=>nD _))
 rw [if_neg (show ¬(Tm.mk k n ks).k=9 from e9)];by_cases e10:k=10
 ·rw [if_pos (show (Tm.mk k n ks).k=10 from e10)];subst e10;exact dV (qV (hk 0 (by omega))) λ _ _=>dV (lY (hk 1 (by omega))) λ _ _=>dV (lY (hk 2 (by omega))) λ _ _=>⟨_,rfl⟩
 rw [if_neg (show ¬(Tm.mk k n ks).k=10 from e10)];by_cases e11:k=11
 ·rw [if_pos (show (Tm.mk k n ks).k=11 from e11)];subst e11;exact dV (hk 0 (by omega)) λ s hs=>dV (qV (h11 rfl s hs)) λ _ _=>nD _
 rw [if_neg (show ¬(Tm.mk k n ks).k=11 from e11)];by_cases e12:k=12
 ·rw [if_pos (show (Tm.mk k n ks).k=12 from e12)];subst e12;exact dV (xC (hk 1 (by omega))) λ e he=>dV (aPj (hk 0 (by omega))) λ _ _=>aHt (h12 rfl e he) (dV (lY (hk 2 (by omega))) λ _ _=>nD _)
 rw [if_neg (show ¬(Tm.mk k n ks).k=12 from e12)];by_cases e14:k=14
 ·rw [if_pos (show (Tm.mk k n ks).k=14 from e14)];subst e14;refine dV (qV (hk 0 (by omega))) λ _ _=>dV ⟨_,rfl⟩ λ h hh=>dV (aHh _ _) λ h' hh'=>dV (lY (hk 1 (by omega))) λ _ _=>?_
  have hq:h'=h/\h.k=13:=by
   unfold gU at hh'
   split at hh'
   ·exact ⟨(fI hh').symm,‹_›⟩
   ·injection hh' with hh';cases hh'
  obtain ⟨rfl,hq2⟩:=hq;exact aHt (h14 rfl h' (Option.some.inj hh) hq2) (dV (lY (hk 2 (by omega))) λ _ _=>⟨_,rfl⟩)
 rw [if_neg (show ¬(Tm.mk k n ks).k=14 from e14)];have hk16:k=15\/k=16:=pE (k:=k) (by omega) e3 e4 e5 e9 e10 e12 e14 e1 e2 e6 e7 e8 e11;rcases hk16 with rfl|rfl
 ·rw [if_pos (show (Tm.mk 15 n ks).k=15 from rfl)];exact dV (xC (hk 0 (by omega))) λ _ _=>⟨_,rfl⟩
 ·rw [if_neg (show ¬(Tm.mk 16 n ks).k=15 by show ¬(16:Int)=15;omega)];exact dV (xC (hk 0 (by omega))) λ _ _=>nD _
def T (G:List Tm)(t:Tm):Prop:=∃N,Sm (bL N G t)
theorem T.fuel {G:List Tm}{t:Tm}(h:T G t):∃N,∀M,N<=M->Sm (bL M G t):=by
 obtain ⟨N,r,h⟩:=h;exact ⟨N,λ M hM=>⟨r,kI hM G t r h⟩⟩
def TR (G:List Tm)(t:Tm):Prop:=∃N,Sm (kV (bL N) G t)
theorem TR.fuel {G:List Tm}{t:Tm}(h:TR G t):∃N,∀M,N<=M->Sm (kV (bL M) G t):=by
 obtain ⟨N,r,h⟩:=h;exact ⟨N,λ M hM=>⟨r,aHi (λ c t=>kI hM c t) G t r h⟩⟩
theorem T.tr {G:List Tm}{t:Tm}(h:T G t):TR G t:=by
 obtain ⟨N,r,h⟩:=h;exact ⟨N,r,by rw [nI (aPz h)];exact h⟩
theorem aNo {m:Nat}{p:Nat->Nat->Prop}(hp:∀i,i<m->∃N,∀M,N<=M->p i M):∃N,∀i,i<m->∀M,N<=M->p i M:=by
 induction m with
 | zero=>exact ⟨0,λ i hi=>absurd hi (by omega)⟩
 | succ m ih=>
  obtain ⟨N1,h1⟩:=ih λ i hi=>hp i (by omega)
  obtain ⟨N2,h2⟩:=hp m (by omega);refine ⟨max N1 N2,λ i hi M hM=>?_⟩;by_cases h:i<m
  ·exact h1 i h M (by omega)
  ·obtain rfl:i=m:=by omega
   exact h2 M (by omega)
theorem sG {N M:Nat}{G:List Tm}{t:Tm}{r s:Rs Tm}(h1:bL N G t=some r)(h2:bL M G t=some s):r=s:=by
 have a:=kI (Nat.le_max_left N M) G t r h1;have b:=kI (Nat.le_max_right N M) G t s h2;rw [a] at b;exact Option.some.inj b
theorem nA {G:List Tm}{k n:Int}{ks:List Tm}(hv:aE (.mk k n ks)=true)(hl:G.length<=20)(hk:∀i,i<ks.length->T (if aR k (i:Int)=0 then G else G++[aI ks 0]) (aI ks i))
  (h4 : k = 4 -> ∀ N u, bL N (G ++ [aI ks 0]) (aI ks 1) = some (.ok u) -> TR G (.mk 3 0 [aI ks 0, u]))
  (h9 : k = 9 -> aE (kB (aI ks 0) (.mk 7 0 [])) = true /\ aE (kP (aI ks 0)) = true)
  (h11 : k = 11 -> ∀ N s, bL N G (aI ks 0) = some (.ok s) -> T G s)
  (h12 : k = 12 -> ∀ N s e, bL N G (aI ks 1) = some (.ok s) -> lU s = .ok e -> e.k = 10 -> aE (kB (aI ks 0) (aI e.ks 1)) = true)
  (h14 : k = 14 -> ∀ h, lU (aI ks 0) = .ok h -> h.k = 13 -> aE (dC (aI ks 1) 0 0 (aI h.ks 1)) = true) : T G (.mk k n ks) := by
 have ha:=(aX hv).1;obtain ⟨N0,hN0⟩:=aNo (m:=ks.length) (p:=λ i M=>Sm (gL (bL M) G (.mk k n ks) i)) λ i hi=>by
  obtain ⟨N,hN⟩:=(hk i hi).fuel;refine ⟨N,λ M hM=>?_⟩;have:=hN M hM;by_cases hu:aR k (i:Int)=0
  ·rw [gE hu];rw [if_pos hu] at this;exact this
  ·have hu1:aR k (i:Int)=1:=by have:=dH k i;omega
   rw [tN hu1];rw [if_neg hu] at this;exact this
 -- the types that are looked at again
 have hx:∃N1,∀M,N1<=M->(k=4->∀u,gL (bL M) G (.mk k n ks) 1=some (.ok u)->Sm (kV (bL M) G (.mk 3 0 [aI ks 0,u])))/\(k=11->∀s,gL (bL M) G (.mk k n ks) 0=some (.ok s)->Sm (kV (bL M) G s)):=by
  by_cases e4:k=4
  ·subst e4;have a4:aK 4=2:=rfl;have hu1:aR 4 ((1:Nat):Int)=1:=rfl;obtain ⟨r,hr⟩:=hN0 1 (by omega) N0 (pS _);rw [tN hu1] at hr;cases r with
   | no b=>
    refine ⟨N0,λ M hM=>⟨λ _ u hu=>?_,λ h=>absurd h (by omega)⟩⟩;rw [tN hu1] at hu;have:=sG hr hu;cases this
   | ok v=>
    obtain ⟨N,hN⟩:=(h4 rfl N0 v hr).fuel;refine ⟨N,λ M hM=>⟨λ _ u hu=>?_,λ h=>absurd h (by omega)⟩⟩;rw [tN hu1] at hu;have:=sG hr hu;injection this with this;subst this;exact hN M hM
  ·by_cases e11:k=11
   ·subst e11;have a11:aK 11=1:=rfl;have hu0:aR 11 ((0:Nat):Int)=0:=rfl;obtain ⟨r,hr⟩:=hN0 0 (by omega) N0 (pS _);rw [gE hu0] at hr;cases r with
    | no b=>
     refine ⟨N0,λ M hM=>⟨λ h=>absurd h (by omega),λ _ s hs=>?_⟩⟩;rw [gE hu0] at hs;have:=sG hr hs;cases this
    | ok v=>
     obtain ⟨N,hN⟩:=(h11 rfl N0 v hr).tr.fuel;refine ⟨N,λ M hM=>⟨λ h=>absurd h (by omega),λ _ s hs=>?_⟩⟩;rw [gE hu0] at hs;have:=sG hr hs;injection this with this;subst this;exact hN M hM
   ·exact ⟨0,λ M _=>⟨λ h=>absurd h e4,λ h=>absurd h e11⟩⟩
 obtain ⟨N1,hN1⟩:=hx;have hM0:N0<=max N0 N1:=Nat.le_max_left _ _;have hM1:N1<=max N0 N1:=Nat.le_max_right _ _;refine ⟨max N0 N1+1,?_⟩;rw [bL,if_pos ⟨hv,by omega⟩];refine aTu ha (λ i hi=>hN0 i hi _ hM0) (hN1 _ hM1).1 h9 ((hN1 _ hM1).2) (λ e x hx=>?_) h14
 ·subst e;rw [gE rfl] at hx;obtain ⟨s,h1,h2⟩:=bY hx;obtain ⟨h,h3,h4⟩:=bY h2;unfold gU at h4
  split at h4
  ·obtain rfl:=fI h4;exact h12 rfl _ s _ h1 (Option.some.inj h3) ‹_›
  ·injection h4 with h4;cases h4
theorem sP {α β:Type}{o:Option (Rs α)}{f:α->Option (Rs β)}{b:β}(h:bd o f=some (.ok b)):∃a,o=some (.ok a)/\f a=some (.ok b):=by
 rcases aO h with ⟨_,_,hr⟩|h
 ·cases hr
 ·exact h
theorem lvK {o:Option (Rs Tm)}{l:Int}(h:oW o=some (.ok l)):∃s,o=some (.ok s):=by
 obtain ⟨s,h,_⟩:=sP h;exact ⟨s,h⟩
theorem fmK {o:Option (Rs Tm)}{k:Int}{l:Tm}(h:oA o k=some (.ok l)):∃s,o=some (.ok s):=by
 obtain ⟨s,h,_⟩:=sP h;exact ⟨s,h⟩
theorem ckK {o:Option (Rs Tm)}{k:Tm}{l:Unit}(h:iE o k=some (.ok l)):∃s,o=some (.ok s):=by
 obtain ⟨s,h,_⟩:=sP h;exact ⟨s,h⟩
theorem faK {o:Option (Rs Tm)}{k:Tm}{l:Unit}(h:faV o k=some (.ok l)):∃s,o=some (.ok s):=by
 obtain ⟨s,h,_⟩:=sP h;exact fmK h
def TyK (ty:Nat->Option (Rs Tm))(i:Nat):Prop:=∃s,ty i=some (.ok s)
theorem aAy {ty:Nat->Option (Rs Tm)}{m:Nat}(hm:(m:Int)=1)(h0:TyK ty 0):∀i,i<m->TyK ty i:=λ i hi=>by
 obtain rfl:i=0:=by omega
 exact h0
theorem aGy {ty:Nat->Option (Rs Tm)}{m:Nat}(hm:(m:Int)=2)(h0:TyK ty 0)(h1:TyK ty 1):∀i,i<m->TyK ty i:=λ i hi=>by
 obtain rfl|rfl:i=0\/i=1:=by omega
 ·exact h0
 ·exact h1
theorem aFu {ty:Nat->Option (Rs Tm)}{m:Nat}(hm:(m:Int)=3)(h0:TyK ty 0)(h1:TyK ty 1)(h2:TyK ty 2):∀i,i<m->TyK ty i:=λ i hi=>by
 obtain rfl|rfl|rfl:i=0\/i=1\/i=2:=by omega
 ·exact h0
 ·exact h1
 ·exact h2
theorem aWb {ty:Nat->Option (Rs Tm)}{m:Nat}(hm:(m:Int)=4)(h0:TyK ty 0)(h1:TyK ty 1)(h2:TyK ty 2)(h3:TyK ty 3):∀i,i<m->TyK ty i:=λ i hi=>by
 obtain rfl|rfl|rfl|rfl:i=0\/i=1\/i=2\/i=3:=by omega
 ·exact h0
 ·exact h1
 ·exact h2
 ·exact h3
theorem vbK {α:Type}{t:Tm}{f:Option (Rs α)}{r:Rs α}(h:vb t f=some r):f=some r:=(gM h).2
theorem aLx {rec_:Tm->Option (Rs Tm)}{ctx:List Tm}{k n:Int}{ks:List Tm}{ty:Nat->Option (Rs Tm)}{A:Tm}(ha:aK k=(ks.length:Int))(h:mM rec_ ctx (.mk k n ks) ty=some (.ok A)):(k=1->n<(ctx.length:Int))/\∀i,i<ks.length->TyK ty i:=by
 have a1:aK 1=0:=rfl;have a2:aK 2=0:=rfl;have a6:aK 6=0:=rfl;have a7:aK 7=0:=rfl;have a4:aK 4=2:=rfl;have a3:aK 3=2:=rfl;have a13:aK 13=2:=rfl;have a5:aK 5=2:=rfl;have a8:aK 8=1:=rfl;have a9:aK 9=4:=rfl;have a10:aK 10=3:=rfl;have a11:aK 11=1:=rfl;have a12:aK 12=3:=rfl;have a14:aK 14=3:=rfl;have a15:aK 15=1:=rfl;have a16:aK 16=1:=rfl;unfold mM at h
 by_cases e1:k=1
 ·rw [if_pos (show (Tm.mk k n ks).k=1 from e1)] at h;split at h
  ·cases h
  ·exact ⟨λ _=>by have:¬(ctx.length:Int)<=n:=‹_›;omega,λ i hi=>absurd hi (by subst e1;omega)⟩
 rw [if_neg (show ¬(Tm.mk k n ks).k=1 from e1)] at h;refine ⟨λ e=>absurd e e1,?_⟩;by_cases e2:k=2
 ·exact λ i hi=>absurd hi (by subst e2;omega)
 rw [if_neg (show ¬(Tm.mk k n ks).k=2 from e2)] at h;by_cases e6:k=6
 ·exact λ i hi=>absurd hi (by subst e6;omega)
 rw [if_neg (show ¬(Tm.mk k n ks).k=6 from e6)] at h;by_cases e7:k=7
 ·exact λ i hi=>absurd hi (by subst e7;omega)
 rw [if_neg (show ¬(Tm.mk k n ks).k=7 from e7)] at h;by_cases e8:k=8
 ·rw [if_pos (show (Tm.mk k n ks).k=8 from e8)] at h;obtain ⟨_,h0,_⟩:=sP h;exact aAy (by subst e8;omega) (ckK h0)
 rw [if_neg (show ¬(Tm.mk k n ks).k=8 from e8)] at h;by_cases e3:k=3\/k=13
 ·rw [if_pos (show (Tm.mk k n ks).k=3\/(Tm.mk k n ks).k=13 from e3)] at h;obtain ⟨_,h0,h⟩:=sP h;obtain ⟨_,h1,h⟩:=sP h;exact aGy (by rcases e3 with rfl|rfl<;>omega) (lvK h0) (lvK h1)
 rw [if_neg (show ¬((Tm.mk k n ks).k=3\/(Tm.mk k n ks).k=13) from e3)] at h;by_cases e4:k=4
 ·rw [if_pos (show (Tm.mk k n ks).k=4 from e4)] at h;obtain ⟨_,h0,h⟩:=sP h;obtain ⟨u,h1,h⟩:=sP h;exact aGy (by subst e4;omega) (lvK h0) ⟨u,h1⟩
 rw [if_neg (show ¬(Tm.mk k n ks).k=4 from e4)] at h;by_cases e5:k=5
 ·rw [if_pos (show (Tm.mk k n ks).k=5 from e5)] at h;obtain ⟨_,h0,h⟩:=sP h;obtain ⟨_,h1,h⟩:=sP h;exact aGy (by subst e5;omega) (fmK h0) (ckK h1)
 rw [if_neg (show ¬(Tm.mk k n ks).k=5 from e5)] at h;by_cases e9:k=9
 ·rw [if_pos (show (Tm.mk k n ks).k=9 from e9)] at h;obtain ⟨_,h0,h⟩:=sP h;obtain ⟨_,h1,h⟩:=sP (vbK h);obtain ⟨_,h2,h⟩:=sP (vbK h);obtain ⟨_,h3,h⟩:=sP h;exact aWb (by subst e9;omega) (faK h0) (ckK h1) (ckK h2) (ckK h3)
 rw [if_neg (show ¬(Tm.mk k n ks).k=9 from e9)] at h;by_cases e10:k=10
 ·rw [if_pos (show (Tm.mk k n ks).k=10 from e10)] at h;obtain ⟨_,h0,h⟩:=sP h;obtain ⟨_,h1,h⟩:=sP h;obtain ⟨_,h2,h⟩:=sP h;exact aFu (by subst e10;omega) (lvK h0) (ckK h1) (ckK h2)
 rw [if_neg (show ¬(Tm.mk k n ks).k=10 from e10)] at h;by_cases e11:k=11
 ·rw [if_pos (show (Tm.mk k n ks).k=11 from e11)] at h;obtain ⟨_,h0,h⟩:=sP h;exact aAy (by subst e11;omega) ⟨_,h0⟩
 rw [if_neg (show ¬(Tm.mk k n ks).k=11 from e11)] at h;by_cases e12:k=12
 ·rw [if_pos (show (Tm.mk k n ks).k=12 from e12)] at h;obtain ⟨_,h1,h⟩:=sP h;obtain ⟨_,h0,h⟩:=sP h;obtain ⟨_,h2,h⟩:=sP (vbK h);exact aFu (by subst e12;omega) (faK h0) (fmK h1) (ckK h2)
 rw [if_neg (show ¬(Tm.mk k n ks).k=12 from e12)] at h;by_cases e14:k=14
 ·rw [if_pos (show (Tm.mk k n ks).k=14 from e14)] at h;obtain ⟨_,h0,h⟩:=sP h;obtain ⟨_,_,h⟩:=sP h;obtain ⟨_,_,h⟩:=sP h;obtain ⟨_,h1,h⟩:=sP h;obtain ⟨_,h2,h⟩:=sP (vbK h);exact aFu (by subst e14;omega) (lvK h0) (ckK h1) (ckK h2)
 rw [if_neg (show ¬(Tm.mk k n ks).k=14 from e14)] at h;by_cases e15:k=15
 ·rw [if_pos (show (Tm.mk k n ks).k=15 from e15)] at h;obtain ⟨_,h0,h⟩:=sP h;exact aAy (by subst e15;omega) (fmK h0)
 rw [if_neg (show ¬(Tm.mk k n ks).k=15 from e15)] at h;obtain ⟨_,h0,h⟩:=sP h;by_cases e16:k=16
 ·exact aAy (by subst e16;omega) (fmK h0)
 exact λ i hi=>absurd hi (by
  have:aK k=0\/¬(1<=k/\k<=16):=by
   by_cases hk:1<=k/\k<=16
   ·exfalso;omega
   ·exact .inr hk
  rcases this with h|h
  ·omega
  ·have:aK k<=0:=by unfold aK;repeat' split<;>omega
   omega)
theorem aAo {d k:Int}:∀{ks:List Tm} {i:Nat},(∀j,j<ks.length->cE (d+aR k ((i+j:Nat):Int)) (aI ks j)=true)->gO d k i ks=true
 | [],i,_=>rfl
 | t::ts,i,h=>by
  rw [gO,Bool.and_eq_true];refine ⟨by have:=h 0 (by simp);rwa [Nat.add_zero] at this,aAo λ j hj=>?_⟩;have:=h (j+1) (by simpa using hj);rwa [show i+(j+1)=i+1+j by omega] at this
theorem wR:∀(N:Nat) (G:List Tm) (t A:Tm),bL N G t=some (.ok A)->cE (G.length:Int) t=true
 | 0,_,_,_,h=>by cases h
 | N+1,G,.mk k n ks,A,h=>by
  obtain ⟨hv,_,hj⟩:=jS h;obtain ⟨h1,h2⟩:=aLx (aX hv).1 hj;refine kD h1 (aAo λ j hj=>?_);rw [Nat.zero_add];obtain ⟨s,hs⟩:=h2 j hj;by_cases hu:aR k (j:Int)=0
  ·rw [gE hu] at hs;rw [hu,Int.add_zero];exact wR N _ _ _ hs
  ·have hu1:aR k (j:Int)=1:=by have:=dH k j;omega
   rw [tN hu1] at hs;have:=wR N _ _ _ hs;rw [List.length_append,Int.natCast_add] at this;rw [hu1];exact this
theorem aCe (N:Nat)(ctx:List Tm):bL N ctx default=none:=by
 cases N with
 | zero=>rfl
 | succ N=>rw [bL,if_neg (λ h=>absurd h.1 (by decide +kernel)),if_neg (by decide +kernel)]
theorem aVp {N:Nat}{ctx:List Tm}{k n:Int}{ks:List Tm}{i:Nat}{r:Rs Tm}(h:gL (bL N) ctx (.mk k n ks) i=some r):i<ks.length:=by
 by_cases hi:i<ks.length
 ·exact hi
 ·have hk:aI ks i=default:=by simp [aI,List.getD,List.getElem?_eq_none (Nat.le_of_not_lt hi)]
  unfold gL at h
  simp only [Tm.k,Tm.ks,hk,aCe] at h
  split at h<;>cases h
theorem aKs {N:Nat}{ctx:List Tm}{t:Tm}:TyV (gL (bL N) ctx t):=by
 intro i s h;unfold gL at h
 split at h
 ·exact dG h
 ·exact dG h
theorem aIu (C:Option Addr)(m cc:Nat)(k n:Int)(A:Option Addr)(la c:Nat)(w:World)(hm:20<=m) :
  Calls prog 100 #[.slice C m cc,.agg (Ro k n A la c)] w λ e w'=>e = .returned (.tuple #[.slice none 0 0,.int .i64 2])/\Bw w w':=by
 have hq:decide ((20:Int)<=(m:Int))=true:=decide_eq_true (by omega);go_enter func100,ntmps100;go_wp2_with fail
 go_ret2
 exact ⟨rfl,bw1⟩
theorem aIv (C:Option Addr)(m cc:Nat)(k n:Int)(ka na:Int)(sa:List Tm)(ts:List Tm)(A:Option Addr)(c:Nat)(i:Nat)(w:World)(hu:aR k i=1)(hm:20<=m)(hra:Rd w A 0 (.mk ka na sa::ts)) :
  Calls prog 82 #[.slice C m cc,.agg (Ro k n A (ts.length+1) c),.int .i64 i] w λ e w'=>e = .returned (.tuple #[.slice none 0 0,.int .i64 2])/\Bw w w':=by
 have hu':=aD hu;clear hu;obtain ⟨ba,oa,Aa,ca,rfl,i1,i2,i3,hla,ra⟩:=kZ hra;simp only [Nat.zero_mul,Nat.add_zero] at i1 i2 i3
 have lb:=kY _ _ i1;have q2:(0:Int)<((ts.length:Nat):Int)+1:=by omega
 go_enter func82,ntmps82;go_wp2_with (first
  | (go_at_call 100;refine (aIu C m cc ka na Aa _ ca _ hm).mono ?_;rintro e w2 ⟨rfl,hb2⟩)
  | (go_at_call 73;refine (kS _ _ _).mono ?_;rw [hu'.out];rintro e w1 ⟨rfl,rfl⟩))
 go_ret2
 exact ⟨rfl,bw1.trans (hb2.mono (by simp))⟩
theorem aPd {N:Nat}(ih:aFq N)(ctx:List Tm)(C:Option Addr)(cc:Nat)(k n:Int)(ks:List Tm)(A:Option Addr)(c b2 b3:Nat)(w:World)(hv:aE (.mk k n ks)=true)(hvc:∀u,u∈ctx->aE u=true)(hm:ctx.length<=20)(hB2:Blk w b2 #[.slice C ctx.length cc])(hB3:Blk w b3 (Ro k n A ks.length c))(hrc:Rd w C 0 ctx)(hra:Rd w A 0 ks) :
  TyX 81 #[.pointer (some ⟨b2,0,none⟩),.pointer (some ⟨b3,0,none⟩)] w (gL (bL N) ctx (.mk k n ks)):=by
 refine ⟨⟨b2,b3,rfl,rfl⟩,?_⟩;intro i r hi ht w' hw' args ha;subst ha;show Calls prog 81 #[.int .i64 i,.pointer (some ⟨b2,0,none⟩),.pointer (some ⟨b3,0,none⟩)] w' _
 have hi2:=aVp ht;have hrc':=hrc.below hw';have hra':=hra.below hw';have hB2':=hB2.keep hw';have hB3':=hB3.keep hw';have lb2:=hB2'.lt;have lb3:=hB3'.lt;have z0:=hB2'.at_ (i:=0) rfl;obtain ⟨b,off,k1,n1,ks1,A1,c1,rfl,hkj,i1,i2,i3,hl1,hr1⟩:=hra'.at_ hi2;obtain ⟨x0,x1,x2⟩:=hB3'.three;have lb:=kY _ _ i1;have hil:(i:Int)<(ks.length:Int):=by omega
 unfold gL at ht
 simp only [Tm.k,Tm.ks,wZ hi2,hkj] at ht
 by_cases hu0:aR k i=0
 ·rw [if_pos hu0] at ht;have hvr:=aD (λ (t:Tm) (h:r = .ok t)=>by rw [h] at ht;exact dG ht);have hih:=aD (λ (w:World) (h1:Rd w C 0 ctx) (h2:Rd w A1 0 ks1)=>ih ctx k1 n1 ks1 r hm ht hvc C cc A1 c1 w h1 h2);have hu:=aD hu0;clear hu0 ht hkj;cases r with
  | no bb=>
   go_enter func81,ntmps81;go_wp2_with (first
    | (go_at_call 59;have _t:=tok1;refine (hih.out _ (hrc'.below g1) (hr1.below g1)).mono ?_;rintro e w2 ⟨rfl,hb2⟩;have hZ2:=hZ1.keep hb2;have g2:=g1.trans (hb2.mono g1.size);obtain ⟨d0,d1,d2,e0,e1,e2⟩:=bW hZ2)
    | (go_at_call 82;refine (aAs C ctx.length cc k n _ ks.length c i _ hu.out).mono ?_;rintro e w1 ⟨rfl,hb1⟩;have hZ1:Blk w1 w'.heap.size Zr:=(aC _ 25 _ rfl).keep hb1;have g1:Bw w' w1:=bw1.trans (hb1.mono (by simp));have y2:=(bU g1) _ _ x2;obtain ⟨y0,y1,y3⟩:=xY g1 i1 i2 i3;have tok1:=trivial))
   refine bodyPost_ret (v:=.tuple #[.agg Zr,.int .i64 (dL bb)]) (by simp [results,results81,go_sem,d0,d1,d2]) rfl ⟨rfl,?_⟩;exact bT g2
  | ok t=>
   obtain ⟨kr,nr,sr⟩:=t;replace hvr:=aD (hvr.out _ rfl);go_enter func81,ntmps81;go_wp2_with (first
    | (go_at_call 59;have _t:=tok1;refine (hih.out _ (hrc'.below g1) (hr1.below g1)).mono ?_;rintro e w2 ⟨A9,c9,rfl,hl9,r9,hb2⟩;have hZ2:=hZ1.keep hb2;have g2:=g1.trans (hb2.mono g1.size);obtain ⟨d0,d1,d2,e0,e1,e2⟩:=bW hZ2)
    | (go_at_call 82;refine (aAs C ctx.length cc k n _ ks.length c i _ hu.out).mono ?_;rintro e w1 ⟨rfl,hb1⟩;have hZ1:Blk w1 w'.heap.size Zr:=(aC _ 25 _ rfl).keep hb1;have g1:Bw w' w1:=bw1.trans (hb1.mono (by simp));have y2:=(bU g1) _ _ x2;obtain ⟨y0,y1,y3⟩:=xY g1 i1 i2 i3;have tok1:=trivial))
   refine bodyPost_ret (v:=.tuple #[.agg (Ro kr nr A9 sr.length c9),.int .i64 0]) (by simp [results,results81,go_sem,d0,d1,d2]) rfl ⟨A9,c9,rfl,hl9,aZ hZ2 hvr.out r9 _ _ _,?_⟩;exact bT g2
 ·rw [if_neg hu0] at ht;have hu1:aR k i=1:=by have:=dH k i;omega
  have hun:(i:Int)=1/\binds k=true:=by unfold aR at hu1;split at hu1<;>simp_all
  obtain rfl:i=1:=by omega
  by_cases hm20:ctx.length<20
  rotate_left
  ·obtain rfl:=(kJ (by rw [List.length_append,List.length_singleton];omega) ht).2;obtain ⟨a0,ts,rfl⟩:∃a0 ts,ks=a0::ts:=by cases ks with|nil=>simp at hi2|cons a ts=>exact ⟨a,ts,rfl⟩
   obtain ⟨ka,na,sa⟩:=a0;have hop:=aD (λ (w:World) (h2:Rd w (some ⟨b,off,none⟩) 0 (.mk ka na sa::ts))=>aIv C ctx.length cc k n ka na sa ts (some ⟨b,off,none⟩) c 1 w hu1 (by omega) h2);simp only [List.length_cons] at x2
   clear ht hkj hu0 hu1 hun;rw [List.length_cons] at *;go_enter func81,ntmps81;go_wp2_with (go_at_call 82;refine (hop.out _ (hra'.alloc _)).mono ?_;rintro e w1 ⟨rfl,hb1⟩;have hZ1:Blk w1 w'.heap.size Zr:=(aC _ 25 _ rfl).keep hb1;have g1:Bw w' w1:=bw1.trans (hb1.mono (by simp));obtain ⟨d0,d1,d2,e0,e1,e2⟩:=bW hZ1)
   refine bodyPost_ret (v:=.tuple #[.agg Zr,.int .i64 2]) (by simp [results,results81,go_sem,d0,d1,d2]) rfl ⟨rfl,?_⟩;exact bT g1
  obtain ⟨a0,ts,rfl⟩:∃a0 ts,ks=a0::ts:=by cases ks with|nil=>simp at hi2|cons a ts=>exact ⟨a,ts,rfl⟩
  obtain ⟨ka,na,sa⟩:=a0;have hk0:aI (Tm.mk ka na sa::ts) 0 = .mk ka na sa:=rfl;rw [hk0] at ht;have hvr:=aD (λ (t:Tm) (h:r = .ok t)=>by rw [h] at ht;exact dG ht);have hv0:=aL hv (t:=.mk ka na sa) (by simp);have hlt:ts.length<=1000:=by have:=aJ hv;have:=aQ (Tm.mk ka na sa::ts);simp at this;omega
  have hih:=aD (λ (D:Option Addr) (d:Nat) (w:World) (h1:Rd w D 0 (ctx++[.mk ka na sa])) (h2:Rd w A1 0 ks1)=>by
   have:=ih (ctx++[.mk ka na sa]) k1 n1 ks1 r (by rw [List.length_append,List.length_singleton];omega) ht (λ u hu=>by rcases List.mem_append.1 hu with h|h;exact hvc u h;(rw [List.mem_singleton.1 h];exact hv0)) D d A1 c1 w h1 h2;rw [show (ctx++[Tm.mk ka na sa]).length=ctx.length+1 from by simp] at this;exact this)
  have hop:=aD (λ (w:World) (h1:Rd w C 0 ctx) (h2:Rd w (some ⟨b,off,none⟩) 0 (.mk ka na sa::ts))=>aEo ctx C cc k n ka na sa ts (some ⟨b,off,none⟩) c 1 w hu1 (by omega) hlt h1 h2);simp only [List.length_cons] at x2
  clear ht hkj hu0 hu1 hun;rw [List.length_cons] at *;cases r with
  | no bb=>
   go_enter func81,ntmps81;go_wp2_with (first
    | (go_at_call 59;have _t:=tok1;refine (hih.out D d _ hrD (hr1.below g1)).mono ?_;rintro e w2 ⟨rfl,hb2⟩;have hZ2:=hZ1.keep hb2;have g2:=g1.trans (hb2.mono g1.size);obtain ⟨d0,d1,d2,e0,e1,e2⟩:=bW hZ2)
    | (go_at_call 82;refine (hop.out _ (hrc'.alloc _) (hra'.alloc _)).mono ?_;rintro e w1 ⟨D,d,rfl,hrD,hb1⟩;simp only [List.length_append,List.length_cons,List.length_nil,Nat.zero_add];have hZ1:Blk w1 w'.heap.size Zr:=(aC _ 25 _ rfl).keep hb1;have g1:Bw w' w1:=bw1.trans (hb1.mono (by simp));have y2:=(bU g1) _ _ x2;obtain ⟨y0,y1,y3⟩:=xY g1 i1 i2 i3;have tok1:=trivial))
   refine bodyPost_ret (v:=.tuple #[.agg Zr,.int .i64 (dL bb)]) (by simp [results,results81,go_sem,d0,d1,d2]) rfl ⟨rfl,?_⟩;exact bT g2
  | ok t=>
   obtain ⟨kr,nr,sr⟩:=t;replace hvr:=aD (hvr.out _ rfl);go_enter func81,ntmps81;go_wp2_with (first
    | (go_at_call 59;have _t:=tok1;refine (hih.out D d _ hrD (hr1.below g1)).mono ?_;rintro e w2 ⟨A9,c9,rfl,hl9,r9,hb2⟩;have hZ2:=hZ1.keep hb2;have g2:=g1.trans (hb2.mono g1.size);obtain ⟨d0,d1,d2,e0,e1,e2⟩:=bW hZ2)
    | (go_at_call 82;refine (hop.out _ (hrc'.alloc _) (hra'.alloc _)).mono ?_;rintro e w1 ⟨D,d,rfl,hrD,hb1⟩;simp only [List.length_append,List.length_cons,List.length_nil,Nat.zero_add];have hZ1:Blk w1 w'.heap.size Zr:=(aC _ 25 _ rfl).keep hb1;have g1:Bw w' w1:=bw1.trans (hb1.mono (by simp));have y2:=(bU g1) _ _ x2;obtain ⟨y0,y1,y3⟩:=xY g1 i1 i2 i3;have tok1:=trivial))
   refine bodyPost_ret (v:=.tuple #[.agg (Ro kr nr A9 sr.length c9),.int .i64 0]) (by simp [results,results81,go_sem,d0,d1,d2]) rfl ⟨A9,c9,rfl,hl9,aZ hZ2 hvr.out r9 _ _ _,?_⟩;exact bT g2
theorem eJ (K:Int)(F:Nat)(hK:(K=3/\F=105)\/(K=13/\F=105)\/(K=4/\F=106)\/(K=9/\F=111)\/(K=10/\F=112)\/(K=12/\F=113)\/(K=14/\F=114)\/(K=15/\F=115)\/(K=16/\F=115))(C:Option Addr)(m cc:Nat)(n:Int)(A:Option Addr)(la c fc:Nat)(ev:Array Value)(r:Rs Tm)(w:World)(hvr:∀t,r = .ok t->aE t=true)
  (hc : Hid (∀ w', Bw w w' -> Calls prog F #[.agg #[.slice C m cc, .int .i64 K, .int .i64 n, .slice A la c, .func (.func fc) #[] ev]] w' (pC w' r))) :
  Calls prog 83 #[.agg #[.slice C m cc,.int .i64 K,.int .i64 n,.slice A la c,.func (.func fc) #[] ev]] w (pC w r):=by
 cases r with
 | no b=>exact aFj K F hK C m cc n A la c fc ev b w hc
 | ok t=>
  obtain ⟨kr,nr,sr⟩:=t;have hv:=hvr _ rfl;rcases hK with ⟨rfl,rfl⟩|⟨rfl,rfl⟩|⟨rfl,rfl⟩|⟨rfl,rfl⟩|⟨rfl,rfl⟩|⟨rfl,rfl⟩|⟨rfl,rfl⟩|⟨rfl,rfl⟩|⟨rfl,rfl⟩
  ·exact yS C m cc n A la c fc ev kr nr sr w hv hc
  ·exact vU C m cc n A la c fc ev kr nr sr w hv hc
  ·exact yR C m cc n A la c fc ev kr nr sr w hv hc
  ·exact zG C m cc n A la c fc ev kr nr sr w hv hc
  ·exact wU C m cc n A la c fc ev kr nr sr w hv hc
  ·exact xA C m cc n A la c fc ev kr nr sr w hv hc
  ·exact xD C m cc n A la c fc ev kr nr sr w hv hc
  ·exact xM C m cc n A la c fc ev kr nr sr w hv hc
  ·exact xR C m cc n A la c fc ev kr nr sr w hv hc
theorem aNl {N:Nat}(ih:aFq N)(ctx:List Tm)(C:Option Addr)(cc:Nat)(k n:Int)(ks:List Tm)(A:Option Addr)(c fc:Nat)(ev:Array Value)(r:Rs Tm)(ty:Nat->Option (Rs Tm))(w:World)(h:mM (kV (bL N) ctx) ctx (.mk k n ks) ty=some r)(hv:aE (.mk k n ks)=true)(hvc:∀u,u∈ctx->aE u=true)(hm:ctx.length<=20)(hT:TyX fc ev w ty)(hty:TyV ty)(hrc:Rd w C 0 ctx)(hr:Rd w A 0 ks) :
  Calls prog 83 #[.agg #[.slice C ctx.length cc,.int .i64 k,.int .i64 n,.slice A ks.length c,.func (.func fc) #[] ev]] w (pC w r):=by
 have hvr:∀t,r = .ok t->aE t=true:=λ t ht=>by rw [ht] at h;exact qP h hv
 have har:=aX hv;unfold mM at h
 by_cases e1:k=1
 ·rw [if_pos (show (Tm.mk k n ks).k=1 from e1)] at h;subst e1;split at h
  ·rename_i hn
   obtain rfl:=(Option.some.inj h).symm;exact aEj C _ cc n A _ c fc ev w hn
  ·rename_i hn
   have hn:¬(ctx.length:Int)<=n:=hn;obtain ⟨nn,hnn⟩:∃nn:Nat,(nn:Int)=n:=⟨n.toNat,by omega⟩;subst hnn;have hpl:ctx.length - 1 - nn<ctx.length:=by omega
   have hg:ctx.getD (ctx.length - 1 - (Tm.mk 1 (nn:Int) ks).n.toNat) default=ctx[ctx.length - 1 - nn]:=by
    show ctx.getD (ctx.length - 1 - ((nn:Int)).toNat) default=_
    rw [Int.toNat_natCast];simp [List.getD,oE hpl]
   rw [hg] at h;have hvu:=hvc _ (iS hpl);obtain ⟨ku,nu,su,hcu⟩:∃ku nu su,ctx[ctx.length - 1 - nn] = .mk ku nu su:=by
    cases hh:ctx[ctx.length - 1 - nn] with|mk a b l=>exact ⟨a,b,l,rfl⟩
   rw [hcu] at h hvu;exact aGn ctx C cc nn _ A ks.length c fc ev ku nu su r w hm (by omega) hpl hcu hvu h hrc
 rw [if_neg (show ¬(Tm.mk k n ks).k=1 from e1)] at h;by_cases e2:k=2
 ·rw [if_pos (show (Tm.mk k n ks).k=2 from e2)] at h;subst e2;have h3:dN 2=3:=rfl;split at h
  ·rename_i hn
   obtain rfl:n=3:=hn;obtain rfl:=(Option.some.inj h).symm;exact aDe C _ cc A _ c fc ev w
  ·rename_i hn
   have hn3:n≠3:=hn;obtain rfl:=(Option.some.inj h).symm;exact zW C _ cc n A _ c fc ev w hn3 (by omega)
 rw [if_neg (show ¬(Tm.mk k n ks).k=2 from e2)] at h;by_cases e6:k=6
 ·rw [if_pos (show (Tm.mk k n ks).k=6 from e6)] at h;subst e6;obtain rfl:=(Option.some.inj h).symm;exact zL C _ cc n A _ c fc ev w
 rw [if_neg (show ¬(Tm.mk k n ks).k=6 from e6)] at h;by_cases e7:k=7
 ·rw [if_pos (show (Tm.mk k n ks).k=7 from e7)] at h;subst e7;obtain rfl:=(Option.some.inj h).symm;exact zR C _ cc n A _ c fc ev w
 rw [if_neg (show ¬(Tm.mk k n ks).k=7 from e7)] at h;by_cases e8:k=8
 ·rw [if_pos (show (Tm.mk k n ks).k=8 from e8)] at h;subst e8;rcases aO h with ⟨b,h1,rfl⟩|⟨u,h1,h2⟩
  ·exact aDu C _ cc n A _ c fc ev b ty w h1 hT hty
  ·obtain rfl:=(Option.some.inj h2).symm;exact zF C _ cc n A _ c fc ev _ w (oY h1) hT.ok
 rw [if_neg (show ¬(Tm.mk k n ks).k=8 from e8)] at h;by_cases e3:k=3\/k=13
 ·rw [if_pos (show (Tm.mk k n ks).k=3\/(Tm.mk k n ks).k=13 from e3)] at h;rcases e3 with rfl|rfl
  ·exact eJ 3 105 (by simp) C _ cc n A _ c fc ev r w hvr (aD λ w' hw=>vI C _ cc 3 n A c fc ev _ r ty w' h (hT.below hw) hty)
  ·exact eJ 13 105 (by simp) C _ cc n A _ c fc ev r w hvr (aD λ w' hw=>vI C _ cc 13 n A c fc ev _ r ty w' h (hT.below hw) hty)
 rw [if_neg (show ¬((Tm.mk k n ks).k=3\/(Tm.mk k n ks).k=13) from e3)] at h;by_cases e4:k=4
 ·rw [if_pos (show (Tm.mk k n ks).k=4 from e4)] at h;subst e4;obtain ⟨a,b,rfl⟩:=mS (l:=ks) (by have h3:aK 4=2:=rfl;omega);obtain ⟨ka,na,sa⟩:=a;exact eJ 4 106 (by simp) C _ cc n A _ c fc ev r w hvr (aD λ w' hw=>xW C _ cc 4 n A c fc ev ka na sa b r (kV (bL N) ctx) ty w' h (hT.below hw) hty (hr.below hw) (aL hv (t:=.mk ka na sa) (by simp)) (λ u rr hrr hvu=>sK hrr hvu) (aD λ u rr hrr hvu Ao co w2 hw2 hro=>ih ctx 3 0 [.mk ka na sa,u] rr hm (by rw [nI hvu] at hrr;exact hrr) hvc C cc Ao co w2 ((hrc.below hw).below hw2) hro))
 rw [if_neg (show ¬(Tm.mk k n ks).k=4 from e4)] at h;by_cases e5:k=5
 ·rw [if_pos (show (Tm.mk k n ks).k=5 from e5)] at h;subst e5;obtain ⟨a,b,rfl⟩:=mS (l:=ks) (by have h3:aK 5=2:=rfl;omega);obtain ⟨kx,nx,sx⟩:=b;have hvx:=aL hv (t:=.mk kx nx sx) (by simp);rcases aO h with ⟨b,h1,rfl⟩|⟨f,h1,h2⟩
  ·exact aEw C _ cc n A c fc ev b ty w h1 hT hty
  obtain ⟨hvf,hkf⟩:=nG h1;obtain ⟨kf,n3,sf⟩:=f;obtain rfl:kf=3:=hkf;obtain ⟨kd,nd,sd,ke,ne,se,rfl⟩:=vN hvf rfl;rcases aO h2 with ⟨b,h3,rfl⟩|⟨u,h3,h4⟩
  ·exact aCh C _ cc n A c fc ev a kx nx sx n3 kd nd sd ke ne se b ty w h1 h3 hT hty hr
  exact aGo C _ cc n A c fc ev a kx nx sx n3 kd nd sd ke ne se r _ w (oP h1) (oY h3) hvx h4 hT.ok hr
 rw [if_neg (show ¬(Tm.mk k n ks).k=5 from e5)] at h;by_cases e9:k=9
 ·rw [if_pos (show (Tm.mk k n ks).k=9 from e9)] at h;subst e9;obtain ⟨p,t1,t2,a,rfl⟩:=aEn (l:=ks) (by have h3:aK 9=4:=rfl;omega);obtain ⟨kp,np,sp⟩:=p;obtain ⟨ka,na,sa⟩:=a;have hvp:=aL hv (t:=.mk kp np sp) (by simp);exact eJ 9 111 (by simp) C _ cc n A _ c fc ev r w hvr (aD λ w' hw=>wX C _ cc 9 n A c fc ev kp np sp t1 t2 ka na sa r ty w' h (hT.below hw) hty hvp (aL hv (t:=.mk ka na sa) (by simp)) (hr.below hw))
 rw [if_neg (show ¬(Tm.mk k n ks).k=9 from e9)] at h;by_cases e10:k=10
 ·rw [if_pos (show (Tm.mk k n ks).k=10 from e10)] at h;subst e10;obtain ⟨a,a1,a2,rfl⟩:=nY (l:=ks) (by have h3:aK 10=3:=rfl;omega);obtain ⟨ka,na,sa⟩:=a;have hva:=aL hv (t:=.mk ka na sa) (by simp);exact eJ 10 112 (by simp) C _ cc n A _ c fc ev r w hvr (aD λ w' hw=>yM C _ cc 10 n A c fc ev ka na sa a1 a2 r ty w' h (hT.below hw) hty hva (hr.below hw))
 rw [if_neg (show ¬(Tm.mk k n ks).k=10 from e10)] at h;by_cases e11:k=11
 ·rw [if_pos (show (Tm.mk k n ks).k=11 from e11)] at h;subst e11;obtain ⟨a,rfl⟩:=tZ (l:=ks) (by have h3:aK 11=1:=rfl;omega);obtain ⟨ka,na,sa⟩:=a;rcases aO h with ⟨b,h1,rfl⟩|⟨s,h1,h2⟩
  ·exact aBv C _ cc n A c fc ev b ty w h1 hT
  obtain ⟨kt,nt,st⟩:=s;simp only [nI (hty _ _ h1)] at h2
  rcases aO h2 with ⟨b,h3,rfl⟩|⟨l,h3,h4⟩
  ·exact yP C _ cc n A c fc ev kt nt st b ty w h1 hT (aD λ Ao co w' hw hro=>aBm ih ctx C cc kt nt st Ao co _ w' h3 hvc hm (hrc.below hw) hro)
  exact aEm C _ cc n A c fc ev ka na sa kt nt st l r _ w (wP h1) (hty _ _ h1) (aL hv (t:=.mk ka na sa) (by simp)) h4 hT.ok hr (aD λ Ao co w' hw hro=>aBm ih ctx C cc kt nt st Ao co _ w' h3 hvc hm (hrc.below hw) hro)
 rw [if_neg (show ¬(Tm.mk k n ks).k=11 from e11)] at h;by_cases e12:k=12
 ·rw [if_pos (show (Tm.mk k n ks).k=12 from e12)] at h;subst e12;obtain ⟨p,t1,t2,rfl⟩:=nY (l:=ks) (by have h3:aK 12=3:=rfl;omega);obtain ⟨kp,np,sp⟩:=p;exact eJ 12 113 (by simp) C _ cc n A _ c fc ev r w hvr (aD λ w' hw=>aHa C _ cc 12 n A c fc ev kp np sp t1 t2 r ty w' h (hT.below hw) hty (aL hv (t:=.mk kp np sp) (by simp)) (hr.below hw))
 rw [if_neg (show ¬(Tm.mk k n ks).k=12 from e12)] at h;by_cases e14:k=14
 ·rw [if_pos (show (Tm.mk k n ks).k=14 from e14)] at h;subst e14;obtain ⟨p,a,t2,rfl⟩:=nY (l:=ks) (by have h3:aK 14=3:=rfl;omega);obtain ⟨kp,np,sp⟩:=p;obtain ⟨ka,na,sa⟩:=a;have hvp:=aL hv (t:=.mk kp np sp) (by simp);have hva:=aL hv (t:=.mk ka na sa) (by simp);exact eJ 14 114 (by simp) C _ cc n A _ c fc ev r w hvr (aD λ w' hw=>aFb C _ cc 14 n A c fc ev kp np sp ka na sa t2 r ty w' h (hT.below hw) hty hva hvp (hr.below hw))
 rw [if_neg (show ¬(Tm.mk k n ks).k=14 from e14)] at h;by_cases e15:k=15
 ·rw [if_pos (show (Tm.mk k n ks).k=15 from e15)] at h;subst e15;refine eJ 15 115 (by simp) C _ cc n A _ c fc ev r w hvr (aD λ w' hw=>?_);rcases aO h with ⟨b,h1,rfl⟩|⟨f,h1,h2⟩
  ·exact aEf C _ cc 15 n A _ c fc ev b ty w' h1 (hT.below hw) hty
  obtain ⟨hvf,hkf⟩:=nG h1;obtain ⟨kf,n3,sf⟩:=f;obtain rfl:kf=13:=hkf;obtain ⟨kd,nd,sd,ke,ne,se,rfl⟩:=vN hvf rfl;obtain rfl:=(Option.some.inj h2).symm;exact uE C _ cc n A _ c fc ev n3 kd nd sd ke ne se _ w' (oP h1) (hT.ok.below hw)
 rw [if_neg (show ¬(Tm.mk k n ks).k=15 from e15)] at h;obtain rfl:k=16:=by
  have:=pE (k:=k) (by have:=har.1;omega) e3 e4 e5 e9 e10 e12 e14 e1 e2 e6 e7 e8 e11;omega
 obtain ⟨p,rfl⟩:=tZ (l:=ks) (by have h3:aK 16=1:=rfl;omega);obtain ⟨kp,np,sp⟩:=p;refine eJ 16 115 (by simp) C _ cc n A _ c fc ev r w hvr (aD λ w' hw=>?_);rcases aO h with ⟨b,h1,rfl⟩|⟨f,h1,h2⟩
 ·exact aEf C _ cc 16 n A _ c fc ev b ty w' h1 (hT.below hw) hty
 obtain ⟨hvf,hkf⟩:=nG h1;obtain ⟨kf,n3,sf⟩:=f;obtain rfl:kf=13:=hkf;obtain ⟨kd,nd,sd,ke,ne,se,rfl⟩:=vN hvf rfl;have hvx:aE (.mk 15 0 [.mk kp np sp])=true:=xN hv;exact aNk C _ cc n A c fc ev kp np sp n3 kd nd sd ke ne se r _ w' (oP h1) hvx h2 (hT.ok.below hw) (hr.below hw)
theorem aCo {N:Nat}(ih:aFq N):aFq (N+1):=by
 intro ctx k n ks r hm0 h hvc C cc A c w hrc hra;obtain ⟨hv,hm,hj⟩:=kR hm0 h;have hvr:=aD (λ (t:Tm) (e:r = .ok t)=>by rw [e] at h;exact dG h);have B3:∀o1 o2 o3,Bw w (((w.alloc o1).alloc o2).alloc o3):=λ o1 o2 o3=>bw3
 have hJ:=aD (λ (wx:World) (hb:Bw w wx) (hB2:Blk wx w.heap.size #[.slice C ctx.length cc]) (hB3:Blk wx (w.heap.size+1) (Ro k n A ks.length c))=>aNl ih ctx C cc k n ks A c 81 #[.pointer (some ⟨w.heap.size,0,none⟩),.pointer (some ⟨w.heap.size+1,0,none⟩)] r _ wx hj hv hvc hm (aPd ih ctx C cc k n ks A c w.heap.size (w.heap.size+1) wx hv hvc hm hB2 hB3 (hrc.below hb) (hra.below hb)) aKs (hrc.below hb) (hra.below hb));clear h hv hvc hm0 hm hj;cases r with
 | no b=>
  go_enter func59,ntmps59;go_wp2_with (go_at_call 83;refine (hJ.out _ (B3 _ _ _) (((aC w 23 #[.slice C ctx.length cc] rfl).alloc _).alloc _) ((aC (n:=w.heap.size+1) (w.alloc (.cells #[.slice C ctx.length cc] 23)) 25 (Ro k n A ks.length c) (by simp)).alloc _)).mono ?_;rintro e w1 ⟨rfl,hb1⟩;have hZ1:=pW hb1;have g1:Bw w w1:=(B3 _ _ _).trans (hb1.mono (by simp;omega));obtain ⟨d0,d1,d2,e0,e1,e2⟩:=bW hZ1)
  refine bodyPost_ret (v:=.tuple #[.agg Zr,.int .i64 (dL b)]) (by simp [results,results59,go_sem,d0,d1,d2]) rfl ⟨rfl,?_⟩;exact bT g1
 | ok t=>
  obtain ⟨kr,nr,sr⟩:=t;replace hvr:=aD (hvr.out _ rfl);go_enter func59,ntmps59;go_wp2_with (go_at_call 83;refine (hJ.out _ (B3 _ _ _) (((aC w 23 #[.slice C ctx.length cc] rfl).alloc _).alloc _) ((aC (n:=w.heap.size+1) (w.alloc (.cells #[.slice C ctx.length cc] 23)) 25 (Ro k n A ks.length c) (by simp)).alloc _)).mono ?_;rintro e w1 ⟨A1,c1,rfl,hl1,r1,hb1⟩;have hZ1:=pW hb1;have g1:Bw w w1:=(B3 _ _ _).trans (hb1.mono (by simp;omega));obtain ⟨d0,d1,d2,e0,e1,e2⟩:=bW hZ1)
  refine bodyPost_ret (v:=.tuple #[.agg (Ro kr nr A1 sr.length c1),.int .i64 0]) (by simp [results,results59,go_sem,d0,d1,d2]) rfl ⟨A1,c1,rfl,hl1,aZ hZ1 hvr.out r1 _ _ _,?_⟩;exact bT g1
theorem uW:∀N,aFq N
 | 0=>λ _ _ _ _ _ _ h=>by cases h
 | N+1=>aCo (uW N)
theorem aEr (N:Nat)(ctx:List Tm)(C:Option Addr)(cc:Nat)(w:World)(hcc:ctx.length<=cc)(hm:ctx.length<=8)(hvc:∀u,u∈ctx->aE u=true)(hlv:∀(j:Nat) (hj:j<ctx.length),∃l,wT (oS N (ctx.take j) ctx[j])=some l)(hrc:Rd w C 0 ctx) :
  Calls prog 55 #[.slice C ctx.length cc] w λ e w'=>e = .returned (.int .i64 0)/\Bw w w':=by
 have hvh:=aD hvc;have hlh:=aD hlv;clear hvc hlv;go_enter func55,ntmps55;go_wp2_with fail
 go_loopw [14] (λ i wr=>∃j:Nat,j<=ctx.length/\i = .int .i64 j/\Bw w wr)
  (λ i _ => ctx.length - (intOf i).toNat)
 case atStart=>exact ⟨0,Nat.zero_le _,rfl,fG _ _⟩
 case round=>
  obtain ⟨j,hj,rfl,hb⟩:=hrel;by_cases hlt:j<ctx.length
  ·obtain ⟨b,off,k1,n1,ks1,A1,c1,rfl,hkj,hc1,hc2,hc3,hl1,hr1⟩:=(hrc.below hb).at_ hlt;have hv1:=hvh.out _ (iS hlt);rw [hkj] at hv1;have hz1:=aJ hv1;have hv1':=aD hv1;clear hkj hv1;go_wp2_with (go_at_call 28;refine (bM k1 n1 ks1 A1 c1 _ (by omega) (hr1.alloc _)).mono ?_;rw [hv1'.out];rintro e w3 ⟨rfl,hb3⟩)
   go_roundw
   case rel=>exact ⟨j+1,by omega,by go_num,hb.trans (bw1.trans (hb3.mono (by simp)) |>.mono hb.size)⟩
   case measure=>simp [intOf];omega
  ·have hjl:j=ctx.length:=by omega
   subst hjl;go_wp2_with fail
   go_loopw [24] (λ i wr=>∃j:Nat,j<=ctx.length/\i = .int .i64 j/\Bw w wr)
    (λ i _=>ctx.length - (intOf i).toNat)
   case atStart=>exact ⟨0,Nat.zero_le _,rfl,hb⟩
   case round=>
    clear hb;obtain ⟨j,hj,rfl,hb⟩:=hrel;by_cases hlt:j<ctx.length
    ·obtain ⟨b,off,k1,n1,ks1,A1,c1,rfl,hkj,hc1,hc2,hc3,hl1,hr1⟩:=(hrc.below hb).at_ hlt;have hv1:=hvh.out _ (iS hlt);obtain ⟨l,hl⟩:=hlh.out j hlt;rw [hkj] at hv1 hl;obtain ⟨cx,hcx⟩:∃cx,ctx.take j=cx:=⟨_,rfl⟩;have hcl:cx.length=j:=by rw [<- hcx];simp;omega
     have hcv:∀u,u∈cx->aE u=true:=by rw [<- hcx];exact λ u hu=>hvh.out u (List.mem_of_mem_take hu)
     have hrx:=aD (λ (w':World) (h:Rd w' (some ⟨b,off,none⟩) 0 ctx)=>show Rd w' (some ⟨b,off,none⟩) 0 cx by rw [<- hcx];exact h.take j);rw [hcx] at hl;have hS:=aD (λ (w:World) (hrc:Rd w (some ⟨b,off,none⟩) 0 cx) (hra:Rd w A1 0 ks1)=>tX (wW N) cx (some ⟨b,off,none⟩) cc k1 n1 ks1 A1 c1 l w hl hv1 hcv (by omega) hrc hra);rw [hcl] at hS;have hjc:j<=cc:=by omega
     have hjc2:(j:Int)<=(cc:Int):=by omega
     clear hkj hv1 hl hcx hcl hcv;go_upto_region 12 with fail
     refine aN ?_;intro wx hwx;have h6x:Blk wx wr.heap.size (Ro k1 n1 A1 ks1.length c1):=by rw [hwx];exact aC _ 25 _ rfl
     have kwx:Bw w wx:=by rw [hwx];exact hb.alloc hb.size _
     have hrk:Rd wx A1 0 ks1:=by rw [hwx];exact hr1.alloc _
     clear hwx hc1 hc2 hc3 hr1;obtain ⟨v0,v1,v2⟩:=iD h6x;refine dX wx [5,6,7,8,9] [0,1,2,3] 10 6 (lT:=[_,_,_,_]) ?_;intro q0 bq0;refine bV (aD ?_);refine bG 4 ?_
     ·go_wp2_with (go_at_call 38;refine (hS.out _ ((hrx.out _ (hrc.below kwx)).below bq0) (hrk.below bq0)).mono ?_;rintro e q1 ⟨rfl,hbq1⟩)
      refine aY bq0 hbq1 ?_;intro bq1 lq1;refine eS [5,6,7] 2 (lT:=[_,_,_]) ?_;refine bV (aD ?_);refine cD [8,9] (lB:=[_,_]) ?_;have kq:=kwx.trans (bq1.mono kwx.size);refine gS (aD ?_);go_wp2_with fail
      exact ⟨⟨j+1,by omega,by go_num,kq⟩,by simp [intOf];omega⟩
    ·have hjl:j=ctx.length:=by omega
     subst hjl;go_wp2_with fail
     go_ret
     exact ⟨rfl,hb⟩
theorem aFa (N:Nat)(ctx:List Tm)(C:Option Addr)(cc:Nat)(ts:List Tm)(A:Option Addr)(c:Nat)(w:World)(hcc:ctx.length<=cc)(hm:ctx.length<=8)(hvc:∀u,u∈ctx->aE u=true)(hlv:∀(j:Nat) (hj:j<ctx.length),∃l,wT (oS N (ctx.take j) ctx[j])=some l)(hrc:Rd w C 0 ctx)(hl:ts.length<=20)(hts:∀u,u∈ts->aE u=true)(hr:Rd w A 0 ts) :
  Calls prog 37 #[.slice C ctx.length cc,.slice A ts.length c] w λ e w'=>e = .returned (.int .i64 0)/\Bw w w':=by
 have hC:=aD (λ (w:World) (hr:Rd w A 0 ts)=>aOb ts A c w (by omega) hts hr);have hD:=aD (λ (w:World) (hrc:Rd w C 0 ctx)=>aEr N ctx C cc w hcc hm hvc hlv hrc);clear hvc hlv hts;go_enter func37,ntmps37;go_wp2_with (first
  | (go_at_call 56;have _t:=tok1;refine (hC.out _ (hr.below hb1)).mono ?_;rintro e w2 ⟨rfl,hb2⟩)
  | (go_at_call 55;refine (hD.out _ hrc).mono ?_;rintro e w1 ⟨rfl,hb1⟩;have tok1:=trivial))
 go_ret
 exact ⟨rfl,hb1.trans (hb2.mono hb1.size)⟩
theorem aKq (k n:Int)(ks:List Tm)(A:Option Addr)(c:Nat)(w:World)(hz:aH ks<=2000000)(hv:aE (.mk k n ks)=false)(hr:Rd w A 0 ks) :
  Calls prog 57 #[.agg (Ro k n A ks.length c)] w λ e w'=>e = .returned (.bool true)/\Bw w w':=by
 have hv':=aD hv;clear hv;go_enter func57,ntmps57;go_wp2_with (go_at_call 28;refine (bM k n ks A c _ (by omega) (hr.alloc _)).mono ?_;rw [hv'.out];rintro e w1 ⟨rfl,hb1⟩;have g1:Bw w w1:=bQ bw1 hb1)
 go_ret
 exact ⟨rfl,g1⟩
theorem aKw (k n:Int)(ks ts:List Tm)(A:Option Addr)(c:Nat)(w:World)(hl:ts.length<=1000000)(hz:aH ks<=2000000)(hv:aE (.mk k n ks)=false)(hr:Rd w A 0 (.mk k n ks::ts)) :
  Calls prog 79 #[.slice A (ts.length+1) c,.func (.func 57) #[] #[]] w λ e w'=>e = .returned (.int .i64 0)/\Bw w w':=by
 have hv':=aD hv;clear hv;go_enter func79,ntmps79;go_wp2_with fail
 go_loopw [8] (λ i wr=>i = .int .i64 0/\Bw w wr)
  (λ i _ => (intOf i).toNat)
 case atStart=>exact ⟨rfl,fG _ _⟩
 case round=>
  obtain ⟨rfl,hb⟩:=hrel;have hlt:0<(Tm.mk k n ks::ts).length:=by simp
  obtain ⟨b,off,k1,n1,ks1,A1,c1,rfl,hkj,hc1,hc2,hc3,hl1,hr1⟩:=(hr.below hb).at_ hlt;have hkj2:Tm.mk k n ks = .mk k1 n1 ks1:=hkj;injection hkj2 with e1 e2 e3;subst e1 e2 e3;clear hkj;simp only [Nat.zero_mul,Nat.add_zero,Nat.zero_add] at hc1 hc2 hc3
  have q1:(0:Int)<(ts.length:Int)+1:=by omega
  have q2:decide ((0:Int)<(ts.length:Int)+1)=true:=decide_eq_true q1;go_wp2_with (go_at_call 57;refine (aKq k n ks A1 c1 _ hz hv'.out hr1).mono ?_;rintro e w3 ⟨rfl,hb3⟩)
  go_ret
  exact ⟨rfl,hb.trans (hb3.mono hb.size)⟩
theorem aPc (k n:Int)(ks ts:List Tm)(A:Option Addr)(c:Nat)(w:World)(hl:ts.length<=1000000)(hz:aH ks<=2000000)(hv:aE (.mk k n ks)=false)(hr:Rd w A 0 (.mk k n ks::ts)) :
  Calls prog 56 #[.slice A (ts.length+1) c,.func (.func 57) #[] #[]] w λ e w'=>e = .returned (.bool true)/\Bw w w':=by
 have hv':=aD hv;clear hv;go_enter func56,ntmps56;go_wp2_with (go_at_call 79;refine (aKw k n ks ts A c _ hl hz hv'.out hr).mono ?_;rintro e w1 ⟨rfl,hb1⟩)
 go_ret
 exact ⟨rfl,hb1⟩
theorem aKv (C:Option Addr)(c0:Nat)(k n:Int)(ks ts:List Tm)(A:Option Addr)(c:Nat)(w:World)(hl:ts.length<=1000000)(hz:aH ks<=2000000)(hv:aE (.mk k n ks)=false)(hr:Rd w A 0 (.mk k n ks::ts)) :
  Calls prog 37 #[.slice C 0 c0,.slice A (ts.length+1) c] w λ e w'=>e = .returned (.int .i64 3)/\Bw w w':=by
 have hC:=aD (λ (w:World) (hr:Rd w A 0 (.mk k n ks::ts))=>aPc k n ks ts A c w hl hz hv hr);have hD:=aD (λ (w:World)=>aEr 0 [] C c0 w (Nat.zero_le _) (Nat.zero_le _) (λ u hu=>absurd hu List.not_mem_nil) (λ j hj=>absurd hj (Nat.not_lt_zero _)) Rd.nil);clear hv;go_enter func37,ntmps37;go_wp2_with (first
  | (go_at_call 56;have _t:=tok1;refine (hC.out _ (hr.below hb1)).mono ?_;rintro e w2 ⟨rfl,hb2⟩)
  | (go_at_call 55;refine (hD.out _).mono ?_;rintro e w1 ⟨rfl,hb1⟩;have tok1:=trivial))
 go_ret
 exact ⟨rfl,hb1.trans (hb2.mono hb1.size)⟩
theorem aSn (C:Option Addr)(c0:Nat)(ts:List Tm)(A:Option Addr)(c:Nat)(w:World)(hl:ts.length<=20)(hts:∀u,u∈ts->aE u=true)(hr:Rd w A 0 ts) :
  Calls prog 37 #[.slice C 0 c0,.slice A ts.length c] w λ e w'=>e = .returned (.int .i64 0)/\Bw w w':=
 aFa 0 [] C c0 ts A c w (Nat.zero_le _) (Nat.zero_le _) (λ u hu=>absurd hu List.not_mem_nil) (λ j hj=>absurd hj (Nat.not_lt_zero _)) Rd.nil hl hts hr
theorem uJ {k n:Int}{ks:List Tm}(hv:aE (.mk k n ks)=true):ks.length<=9223372036854775807:=by
 have:=aJ hv;have:=aQ ks;omega
theorem aQo (N:Nat)(ctx:List Tm)(C:Option Addr)(cc:Nat)(k n:Int)(ks:List Tm)(A:Option Addr)(c:Nat)(k2 n2:Int)(s2:List Tm)(A2:Option Addr)(c2:Nat)(r:Rs Unit)(w:World)(hs:iE (bL N ctx (.mk k n ks)) (.mk k2 n2 s2)=some r)(hv2:aE (.mk k2 n2 s2)=true)(hvc:∀u,u∈ctx->aE u=true)(hm:ctx.length<=20)(hrc:Rd w C 0 ctx)(hra:Rd w A 0 ks)(hr2:Rd w A2 0 s2) :
  Calls prog 39 #[.slice C ctx.length cc,.agg (Ro k n A ks.length c),.agg (Ro k2 n2 A2 s2.length c2)] w (GtC w r):=by
 have hv2':=aD hv2;rcases aO hs with ⟨b,h1,rfl⟩|⟨s,h1,h2⟩
 ·have qb:=eN b;have hI:=aD (λ (w:World) (hrc:Rd w C 0 ctx) (hra:Rd w A 0 ks)=>uW N ctx k n ks _ hm h1 hvc C cc A c w hrc hra);clear hs h1 hvc hv2;go_enter func39,ntmps39;go_wp2_with (go_at_call 59;refine (hI.out _ ((hrc.alloc _).alloc _) ((hra.alloc _).alloc _)).mono ?_;rintro e w1 ⟨rfl,hb1⟩;have g1:Bw w w1:=bQ bw2 hb1)
  go_ret
  exact ⟨rfl,g1.alloc g1.size _⟩
 ·obtain ⟨k1,n1,s1⟩:=s;have hv1:=aD (dG h1);have hI:=aD (λ (w:World) (hrc:Rd w C 0 ctx) (hra:Rd w A 0 ks)=>uW N ctx k n ks _ hm h1 hvc C cc A c w hrc hra);obtain rfl:smR (.mk k1 n1 s1) (.mk k2 n2 s2)=r:=Option.some.inj h2;clear hs h1 hvc hv2 h2;go_enter func39,ntmps39;go_wp2_with (first
   | (go_at_call 60;have _t:=tok1;refine (jI k1 n1 s1 A1 c1 k2 n2 s2 A2 c2 _ hv1.out hv2'.out (r1.alloc _) ((hr2.below g1).alloc _)).mono ?_;rintro e w2 ⟨rfl,hb2⟩;have g2:=(g1.alloc g1.size (.cells (Ro k1 n1 A1 s1.length c1) 25)).trans (hb2.mono (by have:=g1.size;simp;omega)))
   | (go_at_call 59;refine (hI.out _ ((hrc.alloc _).alloc _) ((hra.alloc _).alloc _)).mono ?_;rintro e w1 ⟨A1,c1,rfl,hl1,r1,hb1⟩;have hY:=bH hb1;have g1:Bw w w1:=bQ bw2 hb1;have lz:=hY.lt;obtain ⟨y0,y1,y2⟩:=hY.three;have tok1:=trivial))
  go_ret
  exact ⟨rfl,g2⟩
theorem aCs (N:Nat)(C:Option Addr)(c0:Nat)(k n:Int)(ks:List Tm)(A:Option Addr)(c:Nat)(k2 n2:Int)(s2:List Tm)(A2:Option Addr)(c2:Nat)(l:Int)(r:Rs Unit)(w:World)(hl:oW (bL N [] (.mk k2 n2 s2))=some (.ok l))(hc:iE (bL N [] (.mk k n ks)) (.mk k2 n2 s2)=some r)(hv:aE (.mk k n ks)=true)(hv2:aE (.mk k2 n2 s2)=true)(hra:Rd w A 0 ks)(hr2:Rd w A2 0 s2) :
  Calls prog 17 #[.slice C 0 c0,.agg (Ro k n A ks.length c),.agg (Ro k2 n2 A2 s2.length c2)] w λ e w'=>e = .returned (.int .i64 r.cd)/\Bw w w':=by
 have hlen:=uJ hv;have hlen2:=uJ hv2;have hts:=aD (show ∀u,u∈[Tm.mk k n ks,.mk k2 n2 s2]->aE u=true from λ u hu=>by
  rcases List.mem_cons.1 hu with h|h
  ·rw [h];exact hv
  ·rw [List.mem_singleton.1 h];exact hv2)
 have hL:=aD (λ (w:World) (hra:Rd w A2 0 s2)=>aBm (uW N) [] C c0 k2 n2 s2 A2 c2 _ w hl (λ u hu=>absurd hu List.not_mem_nil) (Nat.zero_le _) Rd.nil hra);have hK:=aD (λ (w:World) (hra:Rd w A 0 ks) (hr2:Rd w A2 0 s2)=>aQo N [] C c0 k n ks A c k2 n2 s2 A2 c2 r w hc hv2 (λ u hu=>absurd hu List.not_mem_nil) (Nat.zero_le _) Rd.nil hra hr2);clear hl hv hv2 hc;go_enter func17,ntmps17;go_wp2_with (first
  | (go_at_call 39;have _t:=tok2;refine (hK.out _ (hra.below g2) (hr2.below g2)).mono ?_;rintro e w3 ⟨rfl,hb3⟩)
  | (go_at_call 38;have _t:=tok1;refine (hL.out _ (hr2.below g1)).mono ?_;rintro e w2 ⟨rfl,hb2⟩;have hX2:=hX1.keep hb2;have hY2:=hY1.keep hb2;have g2:=g1.trans (hb2.mono g1.size);clear x0 x1 x2 y0 y1 y2;obtain ⟨x0,x1,x2⟩:=hX2.three;obtain ⟨y0,y1,y2⟩:=hY2.three;have tok2:=trivial)
  | (go_at_call 37;refine (aSn C c0 [.mk k n ks,.mk k2 n2 s2] _ 2 _ (by simp) hts.out (cT (aC _ 25 _ (by simp)) hlen hlen2 (((hra.alloc _).alloc _).alloc _) (((hr2.alloc _).alloc _).alloc _))).mono ?_;rintro e w1 ⟨rfl,hb1⟩;have hX1:=aKi hb1;have hY1:Blk w1 (w.heap.size+1) (Ro k2 n2 A2 s2.length c2):=((aC (n:=w.heap.size+1) (w.alloc (.cells (Ro k n A ks.length c) 25)) 25 (Ro k2 n2 A2 s2.length c2) (by simp)).alloc _).keep hb1;have g1:Bw w w1:=bQ bw3 hb1;obtain ⟨x0,x1,x2⟩:=hX1.three;obtain ⟨y0,y1,y2⟩:=hY1.three;have tok1:=trivial))
 go_ret
 exact ⟨rfl,g2.trans (hb3.mono g2.size)⟩
theorem yF (C:Option Addr)(c0:Nat)(k n:Int)(ks:List Tm)(A:Option Addr)(c:Nat)(k2 n2:Int)(s2:List Tm)(A2:Option Addr)(c2:Nat)(w:World)(hz:aH ks<=2000000)(hlen:ks.length<=9223372036854775807)(hlen2:s2.length<=9223372036854775807)(hv:aE (.mk k n ks)=false)(hra:Rd w A 0 ks)(hr2:Rd w A2 0 s2) :
  Calls prog 17 #[.slice C 0 c0,.agg (Ro k n A ks.length c),.agg (Ro k2 n2 A2 s2.length c2)] w λ e w'=>e = .returned (.int .i64 3)/\Bw w w':=by
 have hR:=aD (λ (B:Option Addr) (cb:Nat) (w:World) (hr:Rd w B 0 [.mk k n ks,.mk k2 n2 s2])=>aKv C c0 k n ks [.mk k2 n2 s2] B cb w (by simp) hz hv hr);clear hv;go_enter func17,ntmps17;go_wp2_with (go_at_call 37;refine (hR.out _ 2 _ (cT (aC _ 25 _ (by simp)) hlen hlen2 (((hra.alloc _).alloc _).alloc _) (((hr2.alloc _).alloc _).alloc _))).mono ?_;rintro e w1 ⟨rfl,hb1⟩;have g1:Bw w w1:=bQ bw3 hb1)
 go_ret
 exact ⟨rfl,g1⟩
end Go.Proofs.YtajjhldcjikkpaaGreat
