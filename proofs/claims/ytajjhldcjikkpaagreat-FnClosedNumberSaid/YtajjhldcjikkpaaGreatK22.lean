/- Parts of the proof. No condition. -/
import Derived.Test.YtajjhldcjikkpaaGreatK17
import Derived.Test.YtajjhldcjikkpaaGreatK20
import Derived.Test.YtajjhldcjikkpaaGreatK21
open Go.Proofs.Tryz
namespace Go.Proofs.YtajjhldcjikkpaaGreat
open Go.RowKit
set_option maxHeartbeats 8000000
set_option maxRecDepth 100000
set_option linter.all false
def oC (t:Tm):Int × Bool:=match gQ t with|some m=>if m<=20 then ((m:Int),true) else (0,false)|none=>(0,false)
theorem sY {t:Tm}{m:Nat}(h:gQ t=some m)(hm:m<=20):oC t=((m:Int),true):=by rw [oC,h];exact if_pos hm
theorem wF {t:Tm}{m:Nat}(h:gQ t=some m)(hm:¬m<=20):oC t=(0,false):=by rw [oC,h];exact if_neg hm
theorem tT {t:Tm}(h:gQ t=none):oC t=(0,false):=by rw [oC,h]
theorem aAj {q:Nat}{n:Int}{ks:List Tm}(hs:shape q (.mk 8 n ks)=true):∃(q':Nat) (u:Tm),q=q'+1/\ks=[u]/\shape q' u=true/\gQ (.mk 8 n ks)=(gQ u).map (·+1):=by
 obtain ⟨q',rfl,ha,_,_,hk⟩:=bX hs;obtain ⟨u,rfl⟩:=aIr ha rfl;exact ⟨q',u,rfl,rfl,hk u List.mem_cons_self,by rw [gQ,if_pos rfl,aQe]⟩
theorem zH {n:Int}{ks:List Tm}:gQ (.mk 7 n ks)=some 0:=by rw [gQ,if_neg (by decide),if_pos rfl]
theorem aHm {k n:Int}{ks:List Tm}(h8:¬k=8)(h7:¬k=7):gQ (.mk k n ks)=none:=by rw [gQ,if_neg h8,if_neg h7]
theorem uH (k n:Int)(ks:List Tm)(A:Option Addr)(c:Nat)(w:World)(hv:aE (.mk k n ks)=true)(hr:Rd w A 0 ks) :
  Calls prog 20 #[.agg (Ro k n A ks.length c)] w λ e w'=>e = .returned (.tuple #[.int .i64 (oC (.mk k n ks)).1,.bool (oC (.mk k n ks)).2])/\Bw w w':=by
 have hz:=aJ hv;have hlk:ks.length<=9223372036854775807:=by have:=aQ ks;omega
 have hsh:=aD (aW hv);have hv':=aD hv;clear hv;obtain ⟨x,hx⟩:∃x,x=oC (.mk k n ks):=⟨_,rfl⟩;rw [<- hx];replace hx:=aD hx;obtain ⟨x1,x2⟩:=x;have hrp:=hr.rdp;go_enter func20,ntmps20;go_wp2_with (go_at_call 28;refine (bM k n ks A c _ (by omega) (hr.alloc _)).mono ?_;rw [hv'.out];rintro e wv ⟨rfl,hbv⟩;have hB:=(aC w 25 (Ro k n A ks.length c) rfl).keep hbv;have gv:Bw w wv:=bQ bw1 hbv)
 go_loopw [4] (λ i wr=>∃(j:Nat) (k1 n1:Int) (ks1:List Tm) (A1:Option Addr) (c1:Nat),i = .int .i64 j/\j<=30/\Blk wr w.heap.size (Ro k1 n1 A1 ks1.length c1)/\RdP (·<w.heap.size) wr A1 0 ks1/\ks1.length<=9223372036854775807/\Hid (shape (30 - j) (.mk k1 n1 ks1)=true)/\Hid ((gQ (.mk k1 n1 ks1)).map (·+j)=gQ (.mk k n ks))/\Bw w wr)
  (λ i _ => 31 - (intOf i).toNat)
 case atStart=>exact ⟨0,k,n,ks,A,c,rfl,by omega,hB,(hrp.alloc _).below hbv,hlk,hsh,aD (by cases gQ (.mk k n ks)<;>rfl),gv⟩
 case round=>
  clear hB;obtain ⟨j,k1,n1,ks1,A1,c1,rfl,hj,hB,hr1,hl1,hs1,hbk,hb⟩:=hrel;have c0:=hB.at_ (i:=0) rfl;have c1':=hB.at_ (i:=1) rfl;have c2:=hB.at_ (i:=2) rfl;obtain ⟨z0,z1,z2⟩:=lF hB;by_cases h8:k1=8
  ·subst h8;obtain ⟨q',u,hq,rfl,hsu,hnu⟩:=aAj hs1.out;clear hs1;have hlt:0<[u].length:=by simp
   obtain ⟨b3,off3,k2,n2,ks2,A3,c3,rfl,hk3,x0,x1',x2',hl2,hr2⟩:=hr1.at_ hlt;have H3:Hid (u = .mk k2 n2 ks2):=aD hk3;clear hk3;have hsu':=aD hsu;have hnu':=aD hnu;clear hsu hnu;simp only [Nat.reduceMul,Nat.zero_mul,Nat.add_zero,Nat.one_mul,Nat.zero_add,Nat.add_assoc,Nat.reduceAdd,List.length_cons,List.length_nil] at x0 x1' x2' c2
   go_wp2_with fail
   go_roundw
   case rel=>
    refine ⟨j+1,k2,n2,ks2,A3,c3,by go_num,by omega,((hB.set_ 0 _).set_ 1 _).set_ 2 _,((hr2.setCell (by simp) _).setCell (by simp) _).setCell (by simp) _,hl2,?_,?_,(bT hb)⟩
    ·refine aD ?_;have:=hsu'.out;rw [show 30 - (j+1)=q' by omega,<- H3.out];exact this
    ·refine aD ?_;rw [<- hbk.out,hnu'.out,<- H3.out];cases gQ u with
     | none=>rfl
     | some m=>simp only [Option.map_some];congr 1;omega
   case measure=>simp [intOf];omega
  ·have q8:=gP h8;by_cases h7:k1=7
   ·subst h7;have hn:gQ (.mk k n ks)=some j:=by rw [<- hbk.out,zH];simp
    by_cases h20:j<=20
    ·have q20:decide ((20:Int)<(j:Int))=false:=decide_eq_false (by omega);have q20':decide (20<j)=false:=decide_eq_false (by omega);have hxx:=aD (hx.out.trans (sY hn h20));clear hn hbk h8;go_wp2_with fail
     go_ret2
     cases hxx.out
     exact ⟨rfl,hb⟩
    ·have q20:decide ((20:Int)<(j:Int))=true:=decide_eq_true (by omega);have q20':decide (20<j)=true:=decide_eq_true (by omega);have hxx:=aD (hx.out.trans (wF hn h20));clear hn hbk h8;go_wp2_with fail
     go_ret2
     cases hxx.out
     exact ⟨rfl,hb⟩
   ·have q7:=gP h7;have q7':(k1 != 7)=true:=bne_iff_ne.2 h7;have hn:gQ (.mk k n ks)=none:=by rw [<- hbk.out,aHm h8 h7];rfl
    have hxx:=aD (hx.out.trans (tT hn));clear hn hbk h8 h7;go_wp2_with fail
    go_ret2
    cases hxx.out
    exact ⟨rfl,hb⟩
theorem lE (k n:Int)(ks:List Tm)(A:Option Addr)(c:Nat)(w:World)(hv:aE (.mk k n ks)=true)(hr:Rd w A 0 ks) :
  Calls prog 25 #[.agg (Ro k n A ks.length c)] w λ e w'=>e = .returned (.tuple #[.int .i64 (oC (.mk k n ks)).1,.bool (oC (.mk k n ks)).2])/\Bw w w':=by
 have hz:=aJ hv;have hlk:ks.length<=9223372036854775807:=by have:=aQ ks;omega
 have hsh:=aD (aW hv);have hv':=aD hv;clear hv;obtain ⟨x,hx⟩:∃x,x=oC (.mk k n ks):=⟨_,rfl⟩;rw [<- hx];replace hx:=aD hx;obtain ⟨x1,x2⟩:=x;have hrp:=hr.rdp;go_enter func25,ntmps25;go_wp2_with (go_at_call 21;refine (aU k n ks A c _ (by omega) (hr.alloc _)).mono ?_;rw [hv'.out];rintro e wv ⟨rfl,hbv⟩;have hB:=(aC w 25 (Ro k n A ks.length c) rfl).keep hbv;have gv:Bw w wv:=bQ bw1 hbv)
 go_loopw [4] (λ i wr=>∃(j:Nat) (k1 n1:Int) (ks1:List Tm) (A1:Option Addr) (c1:Nat),i = .int .i64 j/\j<=30/\Blk wr w.heap.size (Ro k1 n1 A1 ks1.length c1)/\RdP (·<w.heap.size) wr A1 0 ks1/\ks1.length<=9223372036854775807/\Hid (shape (30 - j) (.mk k1 n1 ks1)=true)/\Hid ((gQ (.mk k1 n1 ks1)).map (·+j)=gQ (.mk k n ks))/\Bw w wr)
  (λ i _ => 31 - (intOf i).toNat)
 case atStart=>exact ⟨0,k,n,ks,A,c,rfl,by omega,hB,(hrp.alloc _).below hbv,hlk,hsh,aD (by cases gQ (.mk k n ks)<;>rfl),gv⟩
 case round=>
  clear hB;obtain ⟨j,k1,n1,ks1,A1,c1,rfl,hj,hB,hr1,hl1,hs1,hbk,hb⟩:=hrel;have c0:=hB.at_ (i:=0) rfl;have c1':=hB.at_ (i:=1) rfl;have c2:=hB.at_ (i:=2) rfl;obtain ⟨z0,z1,z2⟩:=lF hB;by_cases h8:k1=8
  ·subst h8;obtain ⟨q',u,hq,rfl,hsu,hnu⟩:=aAj hs1.out;clear hs1;have hlt:0<[u].length:=by simp
   obtain ⟨b3,off3,k2,n2,ks2,A3,c3,rfl,hk3,x0,x1',x2',hl2,hr2⟩:=hr1.at_ hlt;have H3:Hid (u = .mk k2 n2 ks2):=aD hk3;clear hk3;have hsu':=aD hsu;have hnu':=aD hnu;clear hsu hnu;simp only [Nat.reduceMul,Nat.zero_mul,Nat.add_zero,Nat.one_mul,Nat.zero_add,Nat.add_assoc,Nat.reduceAdd,List.length_cons,List.length_nil] at x0 x1' x2' c2
   go_wp2_with fail
   go_roundw
   case rel=>
    refine ⟨j+1,k2,n2,ks2,A3,c3,by go_num,by omega,((hB.set_ 0 _).set_ 1 _).set_ 2 _,((hr2.setCell (by simp) _).setCell (by simp) _).setCell (by simp) _,hl2,?_,?_,(bT hb)⟩
    ·refine aD ?_;have:=hsu'.out;rw [show 30 - (j+1)=q' by omega,<- H3.out];exact this
    ·refine aD ?_;rw [<- hbk.out,hnu'.out,<- H3.out];cases gQ u with
     | none=>rfl
     | some m=>simp only [Option.map_some];congr 1;omega
   case measure=>simp [intOf];omega
  ·have q8:=gP h8;by_cases h7:k1=7
   ·subst h7;have hn:gQ (.mk k n ks)=some j:=by rw [<- hbk.out,zH];simp
    by_cases h20:j<=20
    ·have q20:decide ((20:Int)<(j:Int))=false:=decide_eq_false (by omega);have q20':decide (20<j)=false:=decide_eq_false (by omega);have hxx:=aD (hx.out.trans (sY hn h20));clear hn hbk h8;go_wp2_with fail
     go_ret2
     cases hxx.out
     exact ⟨rfl,hb⟩
    ·have q20:decide ((20:Int)<(j:Int))=true:=decide_eq_true (by omega);have q20':decide (20<j)=true:=decide_eq_true (by omega);have hxx:=aD (hx.out.trans (wF hn h20));clear hn hbk h8;go_wp2_with fail
     go_ret2
     cases hxx.out
     exact ⟨rfl,hb⟩
   ·have q7:=gP h7;have q7':(k1 != 7)=true:=bne_iff_ne.2 h7;have hn:gQ (.mk k n ks)=none:=by rw [<- hbk.out,aHm h8 h7];rfl
    have hxx:=aD (hx.out.trans (tT hn));clear hn hbk h8 h7;go_wp2_with fail
    go_ret2
    cases hxx.out
    exact ⟨rfl,hb⟩
theorem xN {n:Int}{p:Tm}(hv:aE (.mk 16 n [p])=true):aE (.mk 15 0 [p])=true:=by
 unfold aE at hv⊢
 rw [Bool.and_eq_true,decide_eq_true_eq] at hv⊢;refine ⟨?_,by have:=hv.2;simpa [Tm.size] using this⟩;have h1:=((bA 29 16 n [p]).1 hv.1).2.2.2;exact (bA 29 15 0 [p]).2 ⟨rfl,by omega,by decide,h1⟩
theorem xH {t u:Tm}(h:vO t=some u):u=t/\aE t=true:=by
 unfold vO at h
 split at h
 ·injection h with h;subst h;exact ⟨rfl,by assumption⟩
 ·cases h
theorem aCa {o:Option Tm}{t:Tm}(h:aBx o (vO t)=true):jC o t=true/\aE t=true:=by
 unfold aBx at h
 split at h
 ·rename_i x hx
  obtain ⟨rfl,hv⟩:=xH hx;exact ⟨h,hv⟩
 ·cases h
theorem aPg {o:Option Tm}{p:Tm}(h:aBx o (aVg p)=true):∃k1 n1 s1 k2 n2 s2,cG 1 0 p=some (.mk k1 n1 s1)/\cG 2 0 p=some (.mk k2 n2 s2)/\aE (.mk 3 0 [.mk 6 0 [],.mk 3 0 [.mk 5 0 [.mk k1 n1 s1,.mk 1 0 []],.mk 5 0 [.mk k2 n2 s2,.mk 8 0 [.mk 1 1 []]]]])=true/\jC o (.mk 3 0 [.mk 6 0 [],.mk 3 0 [.mk 5 0 [.mk k1 n1 s1,.mk 1 0 []],.mk 5 0 [.mk k2 n2 s2,.mk 8 0 [.mk 1 1 []]]]])=true:=by
 unfold aVg at h
 split at h
 ·cases h
 ·rename_i one h1
  split at h
  ·cases h
  ·rename_i two h2
   obtain ⟨k1,n1,s1⟩:=one;obtain ⟨k2,n2,s2⟩:=two;obtain ⟨hc,hv⟩:=aCa h;exact ⟨k1,n1,s1,k2,n2,s2,h1,h2,hv,hc⟩
theorem aDa {N:Nat}(ih:aGa N)(ctx:List Tm)(C:Option Addr)(cc:Nat)(k n:Int)(ks:List Tm)(A:Option Addr)(c fc:Nat)(ev:Array Value)(kr nr:Int)(sr:List Tm)(ty:Nat->Option Tm)(w:World)(h:aKm (oS N ctx) ctx (.mk k n ks) ty=some (.mk kr nr sr))(hv:aE (.mk k n ks)=true)(hvc:∀u,u∈ctx->aE u=true)(hm:ctx.length<=20)(hT:TyOk fc ev w ty)(hty:∀i s,ty i=some s->aE s=true)(hrc:Rd w C 0 ctx)(hr:Rd w A 0 ks) :
  Calls prog 83 #[.agg #[.slice C ctx.length cc,.int .i64 k,.int .i64 n,.slice A ks.length c,.func (.func fc) #[] ev]] w (fD w kr nr sr):=by
 have hvr:=vS h hv;have har:=aX hv;unfold aKm at h
 by_cases e1:k=1
 ·rw [if_pos (show (Tm.mk k n ks).k=1 from e1)] at h;subst e1;split at h
  ·rename_i hn
   obtain ⟨nn,hnn⟩:∃nn:Nat,(nn:Int)=n:=⟨n.toNat,by have:0<=n:=hn.1;omega⟩;subst hnn;have hlt:(nn:Int)<(ctx.length:Int):=hn.2;have hpl:ctx.length - 1 - nn<ctx.length:=by omega
   have hg:ctx.getD (ctx.length - 1 - (Tm.mk 1 (nn:Int) ks).n.toNat) default=ctx[ctx.length - 1 - nn]:=by
    show ctx.getD (ctx.length - 1 - ((nn:Int)).toNat) default=_
    rw [Int.toNat_natCast];simp [List.getD,oE hpl]
   rw [hg] at h;have hvu:=hvc _ (iS hpl);obtain ⟨ku,nu,su,hcu⟩:∃ku nu su,ctx[ctx.length - 1 - nn] = .mk ku nu su:=by
    cases hh:ctx[ctx.length - 1 - nn] with|mk a b l=>exact ⟨a,b,l,rfl⟩
   rw [hcu] at h hvu;exact aJt ctx C cc nn _ A _ c fc ev ku nu su kr nr sr w hm (by omega) hpl hcu hvu h hrc
  ·cases h
 rw [if_neg (show ¬(Tm.mk k n ks).k=1 from e1)] at h;by_cases e2:k=2
 ·rw [if_pos (show (Tm.mk k n ks).k=2 from e2)] at h;subst e2;have h3:dN 2=3:=rfl;split at h
  ·cases h
  ·rename_i hn
   have hn3:n≠3:=hn;injection h with h;injection (show Tm.mk 2 (n+1) [] = .mk kr nr sr from h) with q1 q2 q3;subst q1 q2 q3;exact zW C _ cc n A _ c fc ev w hn3 (by omega)
 rw [if_neg (show ¬(Tm.mk k n ks).k=2 from e2)] at h;by_cases e6:k=6
 ·rw [if_pos (show (Tm.mk k n ks).k=6 from e6)] at h;subst e6;injection h with h;injection h with q1 q2 q3;subst q1 q2 q3;exact zL C _ cc n A _ c fc ev w
 rw [if_neg (show ¬(Tm.mk k n ks).k=6 from e6)] at h;by_cases e7:k=7
 ·rw [if_pos (show (Tm.mk k n ks).k=7 from e7)] at h;subst e7;injection h with h;injection (show Tm.mk 6 0 [] = .mk kr nr sr from h) with q1 q2 q3;subst q1 q2 q3;exact zR C _ cc n A _ c fc ev w
 rw [if_neg (show ¬(Tm.mk k n ks).k=7 from e7)] at h;by_cases e8:k=8
 ·rw [if_pos (show (Tm.mk k n ks).k=8 from e8)] at h;subst e8;split at h
  ·rename_i hc
   injection h with h;injection (show Tm.mk 6 0 [] = .mk kr nr sr from h) with q1 q2 q3;subst q1 q2 q3;exact zF C _ cc n A _ c fc ev ty w hc hT
  ·cases h
 rw [if_neg (show ¬(Tm.mk k n ks).k=8 from e8)] at h;by_cases e3:k=3
 ·rw [if_pos (show (Tm.mk k n ks).k=3 from e3)] at h;subst e3;split at h
  ·cases h
  ·rename_i i hi
   split at h
   ·cases h
   ·rename_i j hj
    injection h with h;injection h with q1 q2 q3;subst q1 q2 q3;exact yS C _ cc n A _ c fc ev _ _ _ w hvr (aD λ w' hw=>rC C _ cc 3 n A c fc ev _ i j ty w' hi hj (hT.below hw))
 rw [if_neg (show ¬(Tm.mk k n ks).k=3 from e3)] at h;by_cases e4:k=4
 ·rw [if_pos (show (Tm.mk k n ks).k=4 from e4)] at h;subst e4;obtain ⟨a,b,rfl⟩:=mS (l:=ks) (by have h3:aK 4=2:=rfl;omega);obtain ⟨ka,na,sa⟩:=a;split at h
  ·cases h
  ·rename_i l hl
   split at h
   ·cases h
   ·rename_i tb htb
    obtain ⟨kb,nb,sb⟩:=tb;split at h
    ·cases h
    ·rename_i o ho
     obtain ⟨rfl,hvo⟩:=xH ho;split at h
     ·rename_i hsome
      obtain ⟨⟨kq,nq,sq⟩,hq⟩:=Option.isSome_iff_exists.1 hsome;injection h with h;injection (show Tm.mk 3 0 [.mk ka na sa,.mk kb nb sb] = .mk kr nr sr from h) with q1 q2 q3;subst q1 q2 q3;exact yR C _ cc n A _ c fc ev _ _ _ w hvr (aD λ w' hw=>yN C _ cc 4 n A c fc ev l ka na sa b kb nb sb kq nq sq ty w' hl htb hvr (hT.below hw) (hr.below hw) (aD λ Ao co w2 hw2 hro=>ih ctx 3 0 [.mk ka na sa,.mk kb nb sb] kq nq sq hq hvr hvc hm C cc Ao co w2 ((hrc.below hw).below hw2) hro))
     ·cases h
 rw [if_neg (show ¬(Tm.mk k n ks).k=4 from e4)] at h;by_cases e5:k=5
 ·rw [if_pos (show (Tm.mk k n ks).k=5 from e5)] at h;subst e5;obtain ⟨a,b,rfl⟩:=mS (l:=ks) (by have h3:aK 5=2:=rfl;omega);obtain ⟨kx,nx,sx⟩:=b;have hvx:=aL hv (t:=.mk kx nx sx) (by simp);split at h
  ·cases h
  ·rename_i s hs
   obtain ⟨n3,s3,rfl,hv3⟩:=fJ hs;obtain ⟨d,e,rfl⟩:=mS (l:=s3) (by have:=(aX hv3).1;have h3:aK 3=2:=rfl;omega);obtain ⟨kd,nd,sd⟩:=d;obtain ⟨ke,ne,se⟩:=e;split at h
   ·rename_i hc
    exact aJn C _ cc n A c fc ev a kx nx sx n3 kd nd sd ke ne se kr nr sr ty w hs hc hvx h hT hr
   ·cases h
 rw [if_neg (show ¬(Tm.mk k n ks).k=5 from e5)] at h;by_cases e9:k=9
 ·rw [if_pos (show (Tm.mk k n ks).k=9 from e9)] at h;subst e9;obtain ⟨p,t1,t2,a,rfl⟩:=aEn (l:=ks) (by have h3:aK 9=4:=rfl;omega);obtain ⟨kp,np,sp⟩:=p;obtain ⟨ka,na,sa⟩:=a;have hvp:=aL hv (t:=.mk kp np sp) (by simp);split at h
  ·rename_i hc
   obtain ⟨c1,c2,c3,c4⟩:=hc;obtain ⟨d1,d2⟩:=aCa c2;obtain ⟨k1,n1,s1,k2,n2,s2,f1,f2,f3,f4⟩:=aPg c3;obtain ⟨g1,g2⟩:=xH h;injection (show Tm.mk kr nr sr = .mk 5 0 [.mk kp np sp,.mk ka na sa] from g1) with q1 q2 q3;subst q1 q2 q3;exact zG C _ cc n A _ c fc ev _ _ _ w hvr (aD λ w' hw=>xE C _ cc 9 n A c fc ev kp np sp t1 t2 ka na sa k1 n1 s1 k2 n2 s2 ty w' c1 hvp d2 d1 f1 f2 f3 f4 c4 hvr (hT.below hw) (hr.below hw))
  ·cases h
 rw [if_neg (show ¬(Tm.mk k n ks).k=9 from e9)] at h;by_cases e10:k=10
 ·rw [if_pos (show (Tm.mk k n ks).k=10 from e10)] at h;subst e10;obtain ⟨a,a1,a2,rfl⟩:=nY (l:=ks) (by have h3:aK 10=3:=rfl;omega);obtain ⟨ka,na,sa⟩:=a;split at h
  ·cases h
  ·rename_i l hl
   split at h
   ·rename_i hc
    injection h with h;injection h with q1 q2 q3;subst q1 q2 q3;exact wU C _ cc n A _ c fc ev _ _ _ w hvr (aD λ w' hw=>yQ C _ cc 10 n A c fc ev l ka na sa a1 a2 ty w' hl hc.1 hc.2 (hT.below hw) (hr.below hw))
   ·cases h
 rw [if_neg (show ¬(Tm.mk k n ks).k=10 from e10)] at h;by_cases e11:k=11
 ·rw [if_pos (show (Tm.mk k n ks).k=11 from e11)] at h;subst e11;obtain ⟨a,rfl⟩:=tZ (l:=ks) (by have h3:aK 11=1:=rfl;omega);obtain ⟨ka,na,sa⟩:=a;split at h
  ·cases h
  ·rename_i s hs
   obtain ⟨kt,nt,st⟩:=s;split at h
   ·rename_i hc
    obtain ⟨l,hl⟩:=Option.isSome_iff_exists.1 hc;obtain ⟨g1,g2⟩:=xH h;injection (show Tm.mk kr nr sr = .mk 10 0 [.mk kt nt st,.mk ka na sa,.mk ka na sa] from g1) with q1 q2 q3;subst q1 q2 q3;exact aGk C _ cc n A c fc ev ka na sa kt nt st l ty w hs hvr hT hr (aD λ Ao co w' hw hro=>tX ih ctx C cc kt nt st Ao co l w' hl (hty _ _ hs) hvc hm (hrc.below hw) hro)
   ·cases h
 rw [if_neg (show ¬(Tm.mk k n ks).k=11 from e11)] at h;by_cases e12:k=12
 ·rw [if_pos (show (Tm.mk k n ks).k=12 from e12)] at h;subst e12;obtain ⟨p,t1,t2,rfl⟩:=nY (l:=ks) (by have h3:aK 12=3:=rfl;omega);obtain ⟨kp,np,sp⟩:=p;split at h
  ·cases h
  ·rename_i e he
   obtain ⟨ni,s3,rfl,hv3⟩:=fJ he;obtain ⟨a,b,d,rfl⟩:=nY (l:=s3) (by have:=(aX hv3).1;have h3:aK 10=3:=rfl;omega);obtain ⟨ka,na,sa⟩:=a;obtain ⟨kb,nb,sb⟩:=b;obtain ⟨kd,nd,sd⟩:=d;split at h
   ·rename_i hc
    obtain ⟨d1,d2⟩:=aCa hc.2;obtain ⟨g1,g2⟩:=xH h;injection (show Tm.mk kr nr sr = .mk 5 0 [.mk kp np sp,.mk kd nd sd] from g1) with q1 q2 q3;subst q1 q2 q3;exact xA C _ cc n A _ c fc ev _ _ _ w hvr (aD λ w' hw=>aFp C _ cc 12 n A c fc ev kp np sp t1 t2 ni ka na sa kb nb sb kd nd sd ty w' he hc.1 d2 d1 hvr (hT.below hw) (hr.below hw))
   ·cases h
 rw [if_neg (show ¬(Tm.mk k n ks).k=12 from e12)] at h;by_cases e13:k=13
 ·rw [if_pos (show (Tm.mk k n ks).k=13 from e13)] at h;subst e13;split at h
  ·cases h
  ·rename_i i hi
   split at h
   ·cases h
   ·rename_i j hj
    injection h with h;injection h with q1 q2 q3;subst q1 q2 q3;exact vU C _ cc n A _ c fc ev _ _ _ w hvr (aD λ w' hw=>rC C _ cc 13 n A c fc ev _ i j ty w' hi hj (hT.below hw))
 rw [if_neg (show ¬(Tm.mk k n ks).k=13 from e13)] at h;by_cases e14:k=14
 ·rw [if_pos (show (Tm.mk k n ks).k=14 from e14)] at h;subst e14;obtain ⟨p,a,t2,rfl⟩:=nY (l:=ks) (by have h3:aK 14=3:=rfl;omega);obtain ⟨kp,np,sp⟩:=p;obtain ⟨ka,na,sa⟩:=a;have hvp:=aL hv (t:=.mk kp np sp) (by simp);have hva:=aL hv (t:=.mk ka na sa) (by simp);split at h
  ·cases h
  ·rename_i l hl
   split at h
   ·cases h
   ·rename_i s hs
    have hs':oD (.mk kp np sp) 13=some s:=hs;obtain ⟨_,_,_,hk13,hvs⟩:=mK hs';obtain ⟨k3,n3,s3⟩:=s;obtain rfl:k3=13:=hk13;obtain ⟨d,e,rfl⟩:=mS (l:=s3) (by have:=(aX hvs).1;have h3:aK 13=2:=rfl;omega);obtain ⟨kd,nd,sd⟩:=d;obtain ⟨ke,ne,se⟩:=e;split at h
    ·rename_i hc
     obtain ⟨c1,c2⟩:=hc;have c1':jC (ty 1) (.mk kd nd sd)=true:=c1;have c2':aBx (ty 2) (eI 0 (.mk ka na sa) (.mk ke ne se))=true:=c2;injection h with h;injection (show Tm.mk kp np sp = .mk kr nr sr from h) with q1 q2 q3;subst q1 q2 q3;unfold aBx at c2'
     split at c2'
     ·rename_i z hz
      obtain ⟨kz,nz,sz⟩:=z;exact xD C _ cc n A _ c fc ev _ _ _ w hvr (aD λ w' hw=>aFd C _ cc 14 n A c fc ev kp np sp ka na sa t2 n3 kd nd sd ke ne se l kz nz sz ty w' hl hs' hva hz c1' c2' hvp (hT.below hw) (hr.below hw))
     ·cases c2'
    ·cases h
 rw [if_neg (show ¬(Tm.mk k n ks).k=14 from e14)] at h;by_cases e15:k=15
 ·rw [if_pos (show (Tm.mk k n ks).k=15 from e15)] at h;subst e15;split at h
  ·cases h
  ·rename_i s hs
   obtain ⟨n3,s3,rfl,hv3⟩:=fJ hs;obtain ⟨d,e,rfl⟩:=mS (l:=s3) (by have:=(aX hv3).1;have h3:aK 13=2:=rfl;omega);obtain ⟨kd,nd,sd⟩:=d;obtain ⟨ke,ne,se⟩:=e;injection h with h;injection (show Tm.mk kd nd sd = .mk kr nr sr from h) with q1 q2 q3;subst q1 q2 q3;exact xM C _ cc n A _ c fc ev _ _ _ w hvr (aD λ w' hw=>uE C _ cc n A _ c fc ev n3 kd nd sd ke ne se ty w' hs (hT.below hw))
 rw [if_neg (show ¬(Tm.mk k n ks).k=15 from e15)] at h;by_cases e16:k=16
 ·rw [if_pos (show (Tm.mk k n ks).k=16 from e16)] at h;subst e16;obtain ⟨p,rfl⟩:=tZ (l:=ks) (by have h3:aK 16=1:=rfl;omega);obtain ⟨kp,np,sp⟩:=p;split at h
  ·cases h
  ·rename_i s hs
   obtain ⟨n3,s3,rfl,hv3⟩:=fJ hs;obtain ⟨d,e,rfl⟩:=mS (l:=s3) (by have:=(aX hv3).1;have h3:aK 13=2:=rfl;omega);obtain ⟨kd,nd,sd⟩:=d;obtain ⟨ke,ne,se⟩:=e;have hvx:aE (.mk 15 0 [.mk kp np sp])=true:=xN hv;exact xR C _ cc n A _ c fc ev _ _ _ w hvr (aD λ w' hw=>aDc C _ cc n A c fc ev kp np sp n3 kd nd sd ke ne se kr nr sr ty w' hs hvx h (hT.below hw) (hr.below hw))
 rw [if_neg (show ¬(Tm.mk k n ks).k=16 from e16)] at h;cases h
theorem aJr {N:Nat}{ctx:List Tm}{k n:Int}{ks:List Tm}(hv:aE (.mk k n ks)=true)(i:Nat)(s:Tm)(h:tyS (oS N) ctx (.mk k n ks) i=some s):aE s=true:=by
 have hi:=aMi h;have hk:aE (aI ks i)=true:=by
  rw [wZ hi];have hm:=iS hi;obtain ⟨a,b,l,he⟩:∃a b l,ks[i] = .mk a b l:=by
   cases hh:ks[i] with|mk a b l=>exact ⟨a,b,l,rfl⟩
  rw [he] at hm⊢;exact aL hv hm
 unfold tyS at h
 split at h
 ·exact kL h hk
 ·split at h
  ·cases h
  ·exact kL h hk
theorem aDb {N:Nat}(ih:aGa N):aGa (N+1):=by
 intro ctx k n ks kr nr sr h hv hvc hm C cc A c w hrc hra;have hvr:=aD (kL h hv);have hj:=aD (show aKm (oS N ctx) ctx (.mk k n ks) (tyS (oS N) ctx (.mk k n ks))=some (.mk kr nr sr) from h);have hvh:=aD hv;have hvch:=aD hvc;have hmh:=aD hm;have B3:∀o1 o2 o3,Below w.heap.size w (((w.alloc o1).alloc o2).alloc o3):=λ o1 o2 o3=>(((fG _ _).alloc (pS _) _).alloc (by simp) _).alloc (by simp;omega) _
 have hJ:=aD (λ (wx:World) (hb:Below w.heap.size w wx) (hB2:Blk wx w.heap.size #[.slice C ctx.length cc]) (hB3:Blk wx (w.heap.size+1) #[.int .i64 k,.int .i64 n,.slice A ks.length c])=>aDa ih ctx C cc k n ks A c 81 #[.pointer (some ⟨w.heap.size,0,none⟩),.pointer (some ⟨w.heap.size+1,0,none⟩)] kr nr sr _ wx hj.out hv hvc hm (aDm ih ctx C cc k n ks A c w.heap.size (w.heap.size+1) wx hv hvc hm hB2 hB3 (hrc.below hb) (hra.below hb)) (aJr hv) (hrc.below hb) (hra.below hb));clear h hv hvc hm;go_enter Tryz.func59,Tryz.ntmps59;go_wp2_with (go_at_call 83;refine (hJ.out _ (B3 _ _ _) (((aC w 23 #[.slice C ctx.length cc] rfl).alloc _).alloc _) ((aC (n:=w.heap.size+1) (w.alloc (.cells #[.slice C ctx.length cc] 23)) 25 #[.int .i64 k,.int .i64 n,.slice A ks.length c] (by simp)).alloc _)).mono ?_;rintro e w1 ⟨A1,c1,rfl,hl1,r1,hb1⟩;have hZ1:Blk w1 (w.heap.size+1+1) #[.int .i64 0,.int .i64 0,.slice none 0 0]:=(aC _ 25 _ (by simp)).keep hb1;have g1:Below w.heap.size w w1:=(B3 _ _ _).trans (hb1.mono (by simp;omega));obtain ⟨d0,d1,d2⟩:=hZ1.three;have e0:=hZ1.frozen 0;have e1:=hZ1.frozen 1;have e2:=hZ1.frozen 2)
 refine bodyPost_ret (v:=.tuple #[.agg #[.int .i64 kr,.int .i64 nr,.slice A1 sr.length c1],.int .i64 0]) (by simp [results,Tryz.results59,go_sem,d0,d1,d2]) rfl ⟨A1,c1,rfl,hl1,aZ hZ1 hvr.out r1 _ _ _,?_⟩;exact (bT g1)
theorem wW:∀N,aGa N
 | 0=>λ _ _ _ _ _ _ _ h=>by cases h
 | N+1=>aDb (wW N)
theorem uM {B:Nat}{w0 w1:World}{v:Value}{ts:List Tm}(hp:Part B w0 v ts)(hb:∀b,B<=b->b<w0.heap.size->w1.heap[b]?=w0.heap[b]?)(hs:w0.heap.size<=w1.heap.size)(hB:B<=w0.heap.size)(hlen:ts.length<=1099511627776)(k n:Int)(c:Nat)(ty:TypeId) :
  ∃A' c' w',(Builtin.append_ #[23,23] ty #[v,.slice (some ⟨w1.heap.size,0,none⟩) 1 1]).run prog (w1.alloc (.cells (Ro k n none 0 c) 25)) = .ok (.slice A' (ts.length+1) c') w'/\
   RdP (λ b=>B<=b/\(b<w0.heap.size\/w1.heap.size<=b)/\b<w'.heap.size) w' A' 0 (ts++[.mk k n []])/\w1.grownBy w' v.ownBlock/\(∀g,v.ownBlock=some g->B<=g/\g<w0.heap.size):=by
 obtain ⟨i,hi,hz,hz1,hz2⟩:=info_parts lM;obtain ⟨xs,f,h1,h2,h3,h4,h5⟩:=hp;have hlt:∀g,v.ownBlock=some g->g<w0.heap.size:=λ g hg=>(h1.lt g hg).2
 have hge:∀g,v.ownBlock=some g->B<=g:=λ g hg=>(h1.lt g hg).1
 have hfl:=h2.lt;generalize hW:w1.alloc (.cells (Ro k n none 0 c) 25)=w
 have hbw:∀b,b<w1.heap.size->w.heap[b]?=w1.heap[b]?:=λ b h=>by rw [<- hW];exact Below.heap_alloc _ _ b h
 have hsw:w.heap.size=w1.heap.size+1:=by rw [<- hW];simp
 have hcell:Blk w w1.heap.size (Ro k n none 0 c):=by rw [<- hW];exact aC _ _ _ rfl
 have k1:w.ownsRow B 25 3 v ts.length xs:=by
  refine ⟨h1.1,?_⟩;rcases h1.2 with hn|⟨g,cap,cur,rfl,hb',hg,r⟩
  ·exact .inl hn
  ·exact .inr ⟨g,cap,cur,rfl,hb',(hbw g (by have:=hlt g rfl;omega)).trans ((hb g hb' (hlt g rfl)).trans hg),r⟩
 have k2:OwX w ts xs f:=h2.frame λ b hbf=>(hbw b (by have:=hfl b hbf;omega)).trans (hb b (h4 b hbf) (hfl b hbf))
 have ht:OwX w [.mk k n []] [.int .i64 k,.int .i64 n,.slice none 0 c] []:=jE (OwT.iff.2 ⟨none,c,rfl,by simp,.inl ⟨rfl,rfl⟩⟩);obtain ⟨v',w',hrun,hown,hg,_,hat⟩:=run_append_own_at (P:=prog) w B 23 ty 25 i _ 3 40 Tryz.underlying23 hi hz hz1 hz2 rfl (by omega) v ts.length xs k1 ⟨w1.heap.size,0,none⟩ 1 1 _ ht.length (λ j u hj=>by
   rw [tE];exact hcell.at_ (by simpa using hj)) ht.oneCell
  (by simp only [maxLen]; omega) (by omega) (by omega)
 have e1:∀b,b∈f->w'.heap[b]?=w.heap[b]?:=λ b hbf=>hg.block b (by have:=hfl b hbf;omega) (λ e=>h5 b e.symm hbf)
 have k3:OwX w' (ts++[.mk k n []]) (xs++[.int .i64 k,.int .i64 n,.slice none 0 c]) (f++[]):=(k2.frame e1).append (ht.frame λ b hb=>by cases hb);rw [List.append_nil] at k3;have hgs:=hg.size;have hgr:w1.grownBy w' v.ownBlock:=by
  have:w1.grownBy w v.ownBlock:=by rw [<- hW];exact iQ (iM _ _) _
  exact jM this hg
 obtain ⟨h6,h7⟩:=hown;rcases h7 with ⟨_,h0⟩|⟨g',cap,cur,rfl,hb',hg',_,_,_,htk⟩
 ·omega
 ·refine ⟨_,_,w',hrun,?_,hgr,λ g hg=>⟨hge g hg,hlt g hg⟩⟩;have hgl':g'<w'.heap.size:=(Array.getElem?_eq_some_iff.1 hg').1;refine own_rdp.2 _ _ _ k3 (λ b hb=>⟨h4 b hb,.inl (hfl b hb),by have:=hfl b hb;omega⟩) g' 0 0 ⟨hb',?_,hgl'⟩ λ j u hu=>?_
  ·rcases hat with e|e
   ·left;exact hlt g' e.symm
   ·right;injection e with e;have e:g'=w.heap.size:=e;omega
  ·have e0:0+0*3+j=j:=by omega
   rw [e0,cell_of_row w' g' j cur 25 (0,0) hg'];rw [<- htk,List.getElem?_take] at hu;split at hu
   ·simpa using hu
   ·cases hu
theorem qT {B:Nat}{w0 w1:World}{v:Value}{ts:List Tm}(hp:Part B w0 v ts)(hb:∀b,B<=b->b<w0.heap.size->w1.heap[b]?=w0.heap[b]?)(hs:w0.heap.size<=w1.heap.size)(hB:B<=w0.heap.size){m:Nat}(hm:ts.length=m)(hlen:m<=1099511627776)(k n:Int)(c:Nat)
  {ops:Array Oper} {rest:List Oper} {o:Oper} {a:Act} {Q:Exit->Act->World->Prop} (hgd:o.guard=none) (s x:Operand)
  (ho : o.op = .call { callee := .builtin .append, args := #[s, x], argTypes := #[23, 23] }) (hse : a.eval s = v) (hx : a.eval x = .slice (some ⟨w1.heap.size, 0, none⟩) 1 1)
  (h : ∀ A' c' w', RdP (λ b => B <= b /\ (b < w0.heap.size \/ w1.heap.size <= b) /\ b < w'.heap.size) w' A' 0 (ts ++ [.mk k n []]) -> w1.grownBy w' v.ownBlock -> (∀ g, v.ownBlock = some g -> B <= g /\ g < w0.heap.size) -> wpList prog ops Q rest (a.put o.dst (.slice A' (m + 1) c')) w') :
  wpList prog ops Q (o::rest) a (w1.alloc (.cells (Ro k n none 0 c) 25)):=by
 subst hm;refine wpList_plain hgd λ K hK=>?_
 obtain ⟨A',c',w',hrun,h2,h3,h4⟩:=uM hp hb hs hB hlen k n c o.type;unfold Oper.wp execOp
 simp only [ho,resolve,invoke,builtin,Sem.run_bind,Sem.run_pure,Result.andThen_ok,List.map_toArray,List.map_cons,List.map_nil,hse,hx,hrun]
 exact hK _ _ (h A' c' w' h2 h3 h4)
theorem oX {w:World}{g j q:Nat}(u:Value)(h:j≠q):(w.setCell ⟨g,q,none⟩ u).cell? ⟨g,j,none⟩=w.cell? ⟨g,j,none⟩:=
 World.cell?_setCell_other w ⟨g,q,none⟩ ⟨g,j,none⟩ u (λ e=>by injection e with _ e;omega)
theorem Part.head_set {B:Nat}{w:World}{v:Value}{t:Tm}{ts:List Tm}(hp:Part B w v (t::ts)):∃g cap,v = .slice (some ⟨g,0,none⟩) (ts.length+1) cap/\B<=g/\g<w.heap.size/\
  ∀W:World,(∀b,B<=b->b<w.heap.size->W.heap[b]?=w.heap[b]?)->(∃u0 u1 u2,W.cell? ⟨g,0,none⟩=some u0/\W.cell? ⟨g,1,none⟩=some u1/\W.cell? ⟨g,2,none⟩=some u2)/\(∀j,W.frozen? ⟨g,j,none⟩=false)/\
   ∀(k n:Int) (c:Nat),RdP (λ b=>B<=b/\b<w.heap.size) (((W.setCell ⟨g,0,none⟩ (.int .i64 k)).setCell ⟨g,1,none⟩ (.int .i64 n)).setCell ⟨g,2,none⟩ (.slice none 0 c)) (some ⟨g,0,none⟩) 0 (.mk k n []::ts):=by
 obtain ⟨xs,f,h1,h2,h3,h4,h5⟩:=hp;have hfl:=h2.lt;rcases h1.2 with ⟨_,h0⟩|⟨g,cap,cur,rfl,hb,hg,hn,_,hsz,htk⟩
 ·simp at h0
 have hgl:g<w.heap.size:=(Array.getElem?_eq_some_iff.1 hg).1;have hxl:=h2.length;refine ⟨g,cap,by simp,hb,hgl,λ W hW=>?_⟩;have hgW:W.heap[g]?=some (.cells cur 25 (0,0)):=(hW g hb hgl).trans hg;have hcells:∀j u,xs[j]?=some u->W.cell? ⟨g,j,none⟩=some u:=λ j u hu=>by
  rw [cell_of_row W g j cur 25 (0,0) hgW];rw [<- htk,List.getElem?_take] at hu;split at hu
  ·simpa using hu
  ·cases hu
 simp only [List.length_cons] at hxl
 have g3:∀j,j<3->∃u,W.cell? ⟨g,j,none⟩=some u:=λ j hj=>⟨xs[j]'(by omega),hcells j _ (oE (by omega))⟩
 obtain ⟨u0,c0⟩:=g3 0 (by omega);obtain ⟨u1,c1⟩:=g3 1 (by omega);obtain ⟨u2,c2⟩:=g3 2 (by omega);refine ⟨⟨u0,u1,u2,c0,c1,c2⟩,λ j=>by simp [World.frozen?,hgW],λ k n c=>?_⟩;obtain ⟨x1,x2,f1,f2,rfl,rfl,ht,hx⟩:=OwX.cons_iff.1 h2;have hgf:g ∉ f1++f2:=h5 g rfl;have hx1:=ht.length;have far:∀b,b≠g->(((W.setCell ⟨g,0,none⟩ (.int .i64 k)).setCell ⟨g,1,none⟩ (.int .i64 n)).setCell ⟨g,2,none⟩ (.slice none 0 c)).heap[b]?=W.heap[b]?:=λ b hbg=>by
  rw [oM _ _ _ _ hbg,oM _ _ _ _ hbg,oM _ _ _ _ hbg]
 have hx':OwX (((W.setCell ⟨g,0,none⟩ (.int .i64 k)).setCell ⟨g,1,none⟩ (.int .i64 n)).setCell ⟨g,2,none⟩ (.slice none 0 c)) (.mk k n []::ts) ([.int .i64 k,.int .i64 n,.slice none 0 c]++x2) ([]++f2):=
  OwX.cons_iff.2 ⟨_,_,_,_,rfl,rfl,OwT.iff.2 ⟨none,c,rfl,by simp,.inl ⟨rfl,rfl⟩⟩,hx.frame λ b hbf=>(far b (λ e=>hgf (by subst e;simp [hbf]))).trans (hW b (h4 b (by simp [hbf])) (hfl b (by simp [hbf])))⟩
 refine own_rdp.2 _ _ _ hx' (λ b hbf=>⟨h4 b (by simp at hbf;simp [hbf]),hfl b (by simp at hbf;simp [hbf])⟩) g 0 0 ⟨hb,hgl⟩ λ j u hu=>?_
 have e0:0+0*3+j=j:=by omega
 rw [e0];have hBk:Blk W g cur:=⟨25,hgW⟩;have hc3:3<=cur.size:=by rw [hsz];simp only [List.length_cons] at hn;omega
 have hB3:=((hBk.set_ 0 (.int .i64 k)).set_ 1 (.int .i64 n)).set_ 2 (.slice none 0 c);match j,hu with
 | 0,hu=>
  simp only [List.cons_append,List.getElem?_cons_zero] at hu
  rw [hB3.cell 0,<- hu];simp [Array.getElem?_setIfInBounds];intro h0;subst h0;simp at hc3
 | 1,hu=>
  simp only [List.cons_append,List.getElem?_cons_succ,List.getElem?_cons_zero] at hu
  rw [hB3.cell 1,<- hu];simp [Array.getElem?_setIfInBounds];omega
 | 2,hu=>
  simp only [List.cons_append,List.getElem?_cons_succ,List.getElem?_cons_zero] at hu
  rw [hB3.cell 2,<- hu];simp [Array.getElem?_setIfInBounds];omega
 | j+3,hu=>
  rw [oX _ (by omega),oX _ (by omega),oX _ (by omega)];refine hcells (j+3) u ?_;rw [List.getElem?_append_right (by omega),hx1];simpa using hu
def Mut (k n:Int)(ks:List Tm)(u:Tm):Prop:=u = .mk k n ks\/(∃x,x∈([0,17,1,5,6]:List Int)/\u = .mk x n ks)\/(∃x,x∈([21,-1,1,9223372036854775807]:List Int)/\u = .mk k x ks)\/u = .mk k n (ks++[.mk 7 0 []])\/u = .mk 8 0 [.mk k n ks]\/∃t ts,ks=t::ts/\u = .mk k n (.mk 1 25 []::ts)
def aVe (B:Nat)(w:World)(r p q s:Nat)(P:Tm->Prop)(e:Ending)(w':World):Prop:=
 ∃(k n:Int) (ks:List Tm) (A:Option Addr) (c p':Nat),e = .returned (.agg (Ro k n A ks.length c))/\ks.length<=9223372036854775807/\aH ks+1<=s/\P (.mk k n ks)/\p'<=p+q/\RdP (λ b=>w.heap.size<=b/\b<w'.heap.size) w' A 0 ks/\Rdr B w' r p'/\w.grownBy w' (some r)
theorem wI (B r p:Nat)(k n:Int)(ks:List Tm)(A:Option Addr)(c:Nat)(w:World)(hp:p<=900000000)(hB:B<=w.heap.size)(hr:Rdr B w r p)(hM:aH ks<=1000000)(hrk:Rd w A 0 ks) :
  Calls prog 16 #[.pointer (some ⟨r,0,none⟩),.agg (Ro k n A ks.length c)] w (aVe B w r p 2 (aH ks+3) (Mut k n ks)):=by
 have hrl:=hr.lt;have hlen:=aQ ks;go_enter func16,ntmps16;go_wp2_with (go_at_call 36;refine (aGz _ k n ks A c _ (qG _) (by omega) ((hrk.alloc _).alloc _)).mono ?_;rintro e w2 ⟨v,rfl,hl2,hq,hb2⟩;obtain ⟨A1,c1,rfl⟩:=hq.shape;have hZ:Blk w2 (w.heap.size+1) Zr:=(aC (w.alloc (.cells (Ro k n A ks.length c) 25)) 25 Zr (by simp)).keep hb2;have g2:w.grownBy w2 (some r):=bI (aM (aM (iM _ _) _) _) hb2;have s2:w.heap.size+1+1<=w2.heap.size:=(by have:=hb2.size;simpa using this);have hr2:Rdr B w2 r p:=((hr.alloc (by omega) _).alloc (by simp;omega) _).below hb2 (by simp;omega);replace hq:=hq.mono (B':=w.heap.size+2) (by simp))
 refine (jW B r p 50 _ (by omega) (by omega) (by simp;omega) (hr2.alloc (by omega) _)).mono ?_;rintro e w3 ⟨m,rfl,hm,hm0,hr3,hg3⟩;clear hm hm0;have hX:=(aC w2 25 (Ro k n A1 ks.length c1) rfl).grown hg3 (by simp;omega);replace hZ:=(hZ.alloc (.cells (Ro k n A1 ks.length c1) 25)).grown hg3 (by simp;omega);have hfr:∀b,w.heap.size+2<=b->b<w2.heap.size->w3.heap[b]?=w2.heap[b]?:=λ b h1 h2=>(hg3.block b (by simp;omega) (by simp;omega)).trans (Below.heap_alloc _ _ b h2)
 have g3:=bE (aM g2 _) hg3;have s3:w2.heap.size+1<=w3.heap.size:=by have:=hg3.size;simpa using this
 have lx:=hX.lt;have lz:=hZ.lt;have hq3:RdP (λ b=>w.heap.size+2<=b/\b<w2.heap.size) w3 A1 0 ks:=by
  obtain ⟨A',c',e,hf⟩:=hq.fresh;injection e with e1;subst e1;exact hf.rdp.blocks λ b h1 h2=>hfr b h1.1 h1.2
 have x0:=hX.at_ (i:=0) rfl;have x1:=hX.at_ (i:=1) rfl;have x2:=hX.at_ (i:=2) rfl;have d0:=hZ.at_ (i:=0) rfl;have d1:=hZ.at_ (i:=1) rfl;have d2:=hZ.at_ (i:=2) rfl;obtain ⟨e0,e1,e2⟩:=lF hZ;have hne:r≠w2.heap.size:=by omega
 by_cases m0:m=0
 ·subst m0;go_wp2_with (go_at_call 13;refine (jK [0,17,1,5,6] B r (p+1) w3.heap.size _ (by decide) (by decide) (by omega) (by simp;omega) (hr3.alloc (by omega) _) (aC _ 3 _ rfl) (by omega)).mono ?_;rintro e w4 ⟨x,hx,rfl,hr4,hg4⟩;clear d0 d1 d2 e0 e1 e2 x0 x1 x2;replace hX:=(hX.alloc (.cells (aBs [0,17,1,5,6]) 3)).grown hg4 (by simp;omega);replace hZ:=(hZ.alloc (.cells (aBs [0,17,1,5,6]) 3)).grown hg4 (by simp;omega);replace hq3:=(hq3.alloc (.cells (aBs [0,17,1,5,6]) 3)).blocks (w':=w4) (λ b h1 h2=>hg4.block b h2 (by simp;omega));have g4:=bE (aM g3 _) hg4;have s4:w3.heap.size+1<=w4.heap.size:=(by have:=hg4.size;simpa using this);have lx4:=hX.lt;have lz4:=hZ.lt;have x0:=hX.at_ (i:=0) rfl;have x1:=hX.at_ (i:=1) rfl;have x2:=hX.at_ (i:=2) rfl;have f0:=hX.frozen 0;have f1:=hX.frozen 1;have d0:=hZ.at_ (i:=0) rfl;have d1:=hZ.at_ (i:=1) rfl;have d2:=hZ.at_ (i:=2) rfl;obtain ⟨e0,e1,e2⟩:=lF hZ)
  refine bodyPost_ret (v:=.agg (Ro x n A1 ks.length c1)) (by simp [results,results16,go_sem,d0,d1,d2]) rfl ⟨x,n,ks,A1,c1,p+1+1,rfl,hl2,by omega,.inr (.inl ⟨x,hx,rfl⟩),by omega,?_,?_,?_⟩
  ·exact ((((hq3.setCell (a:=⟨w2.heap.size,0,none⟩) (by simp) _).setCell (by simp) _).setCell (by simp) _).setCell (by simp) _).mono λ b h=>⟨by omega,by simp;omega⟩
  ·exact (((hr4.setCell (a:=⟨w2.heap.size,0,none⟩) (by simp;omega) _).setCell (by simp;omega) _).setCell (by simp;omega) _).setCell (by simp;omega) _
  ·exact aG (aG (aG (aG g4 (p:=⟨w2.heap.size,0,none⟩) (.inr (by simp;omega)) _) (.inr (by simp)) _) (.inr (by simp)) _) (.inr (by simp)) _
 by_cases m1:m=1
 ·subst m1;go_wp2_with (go_at_call 13;refine (jK [21,-1,1,9223372036854775807] B r (p+1) w3.heap.size _ (by decide) (by decide) (by omega) (by simp;omega) (hr3.alloc (by omega) _) (aC _ 3 _ rfl) (by omega)).mono ?_;rintro e w4 ⟨x,hx,rfl,hr4,hg4⟩;clear d0 d1 d2 e0 e1 e2 x0 x1 x2;replace hX:=(hX.alloc (.cells (aBs [21,-1,1,9223372036854775807]) 3)).grown hg4 (by simp;omega);replace hZ:=(hZ.alloc (.cells (aBs [21,-1,1,9223372036854775807]) 3)).grown hg4 (by simp;omega);replace hq3:=(hq3.alloc (.cells (aBs [21,-1,1,9223372036854775807]) 3)).blocks (w':=w4) (λ b h1 h2=>hg4.block b h2 (by simp;omega));have g4:=bE (aM g3 _) hg4;have s4:w3.heap.size+1<=w4.heap.size:=(by have:=hg4.size;simpa using this);have lx4:=hX.lt;have lz4:=hZ.lt;have x0:=hX.at_ (i:=0) rfl;have x1:=hX.at_ (i:=1) rfl;have x2:=hX.at_ (i:=2) rfl;have f0:=hX.frozen 0;have f1:=hX.frozen 1;have d0:=hZ.at_ (i:=0) rfl;have d1:=hZ.at_ (i:=1) rfl;have d2:=hZ.at_ (i:=2) rfl;obtain ⟨e0,e1,e2⟩:=lF hZ)
  refine bodyPost_ret (v:=.agg (Ro k x A1 ks.length c1)) (by simp [results,results16,go_sem,d0,d1,d2]) rfl ⟨k,x,ks,A1,c1,p+1+1,rfl,hl2,by omega,.inr (.inr (.inl ⟨x,hx,rfl⟩)),by omega,?_,?_,?_⟩
  ·exact ((((hq3.setCell (a:=⟨w2.heap.size,1,none⟩) (by simp) _).setCell (by simp) _).setCell (by simp) _).setCell (by simp) _).mono λ b h=>⟨by omega,by simp;omega⟩
  ·exact (((hr4.setCell (a:=⟨w2.heap.size,1,none⟩) (by simp;omega) _).setCell (by simp;omega) _).setCell (by simp;omega) _).setCell (by simp;omega) _
  ·exact aG (aG (aG (aG g4 (p:=⟨w2.heap.size,1,none⟩) (.inr (by simp;omega)) _) (.inr (by simp)) _) (.inr (by simp)) _) (.inr (by simp)) _
 have q0:((m:Int)==0)=false:=beq_eq_false_iff_ne.2 (by omega);have q1:((m:Int)==1)=false:=beq_eq_false_iff_ne.2 (by omega);by_cases m2:m=2
 ·subst m2;have x2r:=hX.rule (i:=2) rfl;go_wp2_with fail
  refine bK (λ w'=>Bw w3 w') [0,1] [2,3] [4,5,6] [_,_] [_,_] [_,_,_] (by kernel_rfl) (by kernel_rfl) rfl rfl rfl (λ _ _ d _ _ h=>by cases d<;>exact h) (fG _ _).drew ?_;refine bV (aD ?_);refine bF ?_;go_wp2_with (go_at_call 23;refine (bB _ _ _).mono ?_;rintro e w4 ⟨rfl,hb4⟩)
  have hx1:Bw w3 w4:=(fG _ _).drew.trans hb4;have s4:=hx1.size;refine aP hx1 (bF ?_);go_wp2_with fail
  refine aP (hx1.alloc hx1.size _) (cZ ?_);refine qT hq (λ b h1 h2=>(hx1.block b (by omega)).trans (hfr b h1 h2)) (by omega) (by omega) (m:=ks.length) rfl (by omega) 7 0 0 rfl (.tmp 25) (.tmp 27) rfl rfl rfl ?_;intro A2 c2 w5 hrd hg5 hown;have hvo:∀g,(Value.slice A1 ks.length c1).ownBlock=some g->w.heap.size+2<=g/\g<w2.heap.size:=hown;have hX5:=(hX.keep hx1).grown hg5 (λ e=>by have:=hvo _ e.symm;omega);have hZ5:=(hZ.keep hx1).grown hg5 (λ e=>by have:=hvo _ e.symm;omega);have s5:=hg5.size;have r5:Rdr B w5 r (p+1):=(hr3.below hx1 (by omega)).keep λ b hb=>hg5.block b (by omega) (λ e=>by have:=hvo _ e.symm;omega)
  have g5:w.grownBy w5 (some r):=⟨hg5.os.trans ((bI g3 hx1).os),hg5.tape.trans ((bI g3 hx1).tape),hg5.output.trans ((bI g3 hx1).output),by have:=g3.size;omega,λ b hb hn=>(hg5.block b (by have:=g3.size;omega) (λ e=>by have:=hvo _ e.symm;omega)).trans ((bI g3 hx1).block b hb hn)⟩;clear x0 x1 x2 d0 d1 d2 e0 e1 e2 x2r;have x0:=hX5.at_ (i:=0) rfl;have x1:=hX5.at_ (i:=1) rfl;have x2:=hX5.at_ (i:=2) rfl;have f2:=hX5.frozen 2;have d0:=hZ5.at_ (i:=0) rfl;have d1:=hZ5.at_ (i:=1) rfl;have d2:=hZ5.at_ (i:=2) rfl;obtain ⟨e0,e1,e2⟩:=lF hZ5;have lx5:=hX5.lt;have lz5:=hZ5.lt;go_wp2_with fail
  refine bodyPost_ret (v:=.agg (Ro k n A2 (ks.length+1) c2)) (by simp [results,results16,go_sem,d0,d1,d2]) rfl ⟨k,n,ks++[.mk 7 0 []],A2,c2,p+1,by simp,by simp;omega,by simp [iK,aH,Tm.size],.inr (.inr (.inr (.inl rfl))),by omega,?_,?_,?_⟩
  ·exact ((((hrd.setCell (a:=⟨w2.heap.size,2,none⟩) (by simp;omega) _).setCell (by simp) _).setCell (by simp) _).setCell (by simp) _).mono λ b h=>⟨by omega,by simp;omega⟩
  ·exact (((r5.setCell (a:=⟨w2.heap.size,2,none⟩) (by simp;omega) _).setCell (by simp;omega) _).setCell (by simp;omega) _).setCell (by simp;omega) _
  ·exact aG (aG (aG (aG g5 (p:=⟨w2.heap.size,2,none⟩) (.inr (by simp;omega)) _) (.inr (by simp)) _) (.inr (by simp)) _) (.inr (by simp)) _
 have q2:((m:Int)==2)=false:=beq_eq_false_iff_ne.2 (by omega);by_cases m3:m=3
 ·subst m3;obtain ⟨A',c',e,hf⟩:=hq.fresh;injection e with e1 e2 e3;subst e1 e3;clear e2;obtain ⟨fp,hO,hnd,hge⟩:=(hf.keep (w':=w3) hfr).node hl2 k n c1;go_wp2_with (go_at_call 31;refine (nS (B:=w.heap.size+2) (us:=[.mk k n ks]) _ (by simp;omega) (hO.alloc _) hnd hge (by simp) _ 1 (aC _ 25 _ rfl)).mono ?_;rintro e w4 ⟨A2,c2,rfl,hf4,hb4⟩;replace hZ:=(hZ.alloc _).keep hb4;clear d0 d1 d2 e0 e1 e2;have d0:=hZ.at_ (i:=0) rfl;have d1:=hZ.at_ (i:=1) rfl;have d2:=hZ.at_ (i:=2) rfl;obtain ⟨e0,e1,e2⟩:=lF hZ)
  have s4:w3.heap.size+1<=w4.heap.size:=by have:=hb4.size;simpa using this
  have r4:=(hr3.alloc (by omega) (.cells (Ro k n A1 ks.length c1) 25)).below hb4 (by simp;omega);have g4:=bI (aM g3 (.cells (Ro k n A1 ks.length c1) 25)) hb4;refine bodyPost_ret (v:=.agg (Ro 8 0 A2 1 c2)) (by simp [results,results16,go_sem,d0,d1,d2]) rfl ⟨8,0,[.mk k n ks],A2,c2,p+1,rfl,by simp,by simp [aH,Tm.size],.inr (.inr (.inr (.inr (.inl rfl)))),by omega,?_,?_,?_⟩
  ·exact (((hf4.rdp.setCell (by simp) _).setCell (by simp) _).setCell (by simp) _).mono λ b h=>⟨by omega,by simp;omega⟩
  ·exact ((r4.setCell (by simp;omega) _).setCell (by simp;omega) _).setCell (by simp;omega) _
  ·exact aG (aG (aG g4 (.inr (by simp)) _) (.inr (by simp)) _) (.inr (by simp)) _
 have q3:((m:Int)==3)=false:=beq_eq_false_iff_ne.2 (by omega);by_cases m4:m=4
 ·subst m4;cases ks with
  | nil=>
   go_wp2_with fail
   refine bodyPost_ret (v:=.agg (Ro k n A1 0 c1)) (by simp [results,results16,go_sem,d0,d1,d2]) rfl ⟨k,n,[],A1,c1,p+1,rfl,hl2,by omega,.inl rfl,by omega,?_,?_,?_⟩
   ·exact ((((hq3).setCell (by simp) _).setCell (by simp) _).setCell (by simp) _).mono λ b h=>⟨by omega,by simp;omega⟩
   ·exact (((hr3).setCell (by simp;omega) _).setCell (by simp;omega) _).setCell (by simp;omega) _
   ·exact aG (aG (aG (g3) (.inr (by simp)) _) (.inr (by simp)) _) (.inr (by simp)) _
  | cons t ts=>
   obtain ⟨g,cap,hv,hgB,hgl,hW⟩:=hq.head_set;injection hv with hv1 hv2 hv3;subst hv1 hv3;clear hv2;simp only [List.length_cons] at hlen hl2 x2
   have hpos:0<ts.length+1:=by omega
   have x2r:=hX.rule (i:=2) rfl;simp only [List.length_cons] at x2r
   go_wp2_with fail
   refine bK (λ w'=>Bw w3 w') [0,1] [2] [3,4] [_,_] [_] [_,_] (by kernel_rfl) (by kernel_rfl) rfl rfl rfl (λ _ _ d _ _ h=>by cases d<;>exact h) (fG _ _).drew ?_;refine bV (aD ?_);refine bF ?_;go_wp2_with (go_at_call 23;refine (bB _ _ _).mono ?_;rintro e w4 ⟨rfl,hb4⟩)
   have hx1:Bw w3 w4:=(fG _ _).drew.trans hb4;have s4:=hx1.size;refine aP hx1 (cZ ?_);obtain ⟨⟨u0,u1,u2,y0,y1,y2⟩,yf,hset⟩:=hW w4 (λ b h1 h2=>(hx1.block b (by omega)).trans (hfr b h1 h2));have yf0:=yf 0;have yf1:=yf 1;have yf2:=yf 2;have hset':=hset 1 25 0;have hX4:=hX.keep hx1;have hZ4:=hZ.keep hx1;have r4:=hr3.below hx1 (by omega);have g4:=bI g3 hx1;clear x0 x1 x2 d0 d1 d2 e0 e1 e2 x2r hset yf;have x0:=hX4.at_ (i:=0) rfl;have x1:=hX4.at_ (i:=1) rfl;have x2:=hX4.at_ (i:=2) rfl;have d0:=hZ4.at_ (i:=0) rfl;have d1:=hZ4.at_ (i:=1) rfl;have d2:=hZ4.at_ (i:=2) rfl;obtain ⟨e0,e1,e2⟩:=lF hZ4;simp only [List.length_cons] at x2
   have n1:g≠w2.heap.size:=by omega
   have n2:g≠w.heap.size+1:=by omega
   have n3:w2.heap.size≠g:=by omega
   have n4:w.heap.size+1≠g:=by omega
   have hs:g≠r:=by omega
   go_wp2_with fail
   refine bodyPost_ret (v:=.agg (Ro k n (some ⟨g,0,none⟩) (ts.length+1) c1)) (by simp [results,results16,go_sem,d0,d1,d2,n1,n2,n3,n4]) rfl ⟨k,n,.mk 1 25 []::ts,some ⟨g,0,none⟩,c1,p+1,by simp,by simp;omega,by simp [aH,Tm.size];omega,.inr (.inr (.inr (.inr (.inr ⟨t,ts,rfl,rfl⟩)))),by omega,?_,?_,?_⟩
   ·exact (((hset'.setCell (by simp) _).setCell (by simp) _).setCell (by simp) _).mono λ b h=>⟨by omega,by simp;omega⟩
   ·exact (((((r4.setCell (by simp;omega) _).setCell (by simp;omega) _).setCell (by simp;omega) _).setCell (by simp;omega) _).setCell (by simp;omega) _).setCell (by simp;omega) _
   ·exact aG (aG (aG (aG (aG (aG g4 (.inr (by simp;omega)) _) (.inr (by simp;omega)) _) (.inr (by simp;omega)) _) (.inr (by simp)) _) (.inr (by simp)) _) (.inr (by simp)) _
 have q4:((m:Int)==4)=false:=beq_eq_false_iff_ne.2 (by omega)
 ·go_wp2_with fail
  refine bodyPost_ret (v:=.agg (Ro k n A1 ks.length c1)) (by simp [results,results16,go_sem,d0,d1,d2]) rfl ⟨k,n,ks,A1,c1,p+1,rfl,hl2,by omega,.inl rfl,by omega,?_,?_,?_⟩
  ·exact ((((hq3).setCell (by simp) _).setCell (by simp) _).setCell (by simp) _).mono λ b h=>⟨by omega,by simp;omega⟩
  ·exact (((hr3).setCell (by simp;omega) _).setCell (by simp;omega) _).setCell (by simp;omega) _
  ·exact aG (aG (aG (g3) (.inr (by simp)) _) (.inr (by simp)) _) (.inr (by simp)) _
namespace NT
def idx:NT->Option NT
 | .elim z s n=>some n
 | .mov x z=>some x
 | .app b a=>(idx b).map (fP a 0)
 | _=>none
inductive Gd:Nat->NT->Prop where
 | var {n i:Nat} (h:i<n):Gd n (.var i)
 | zero {n:Nat}:Gd n .zero
 | suc {n:Nat} {a:NT} (h:Gd n a):Gd n (.suc a)
 | app {n:Nat} {b a:NT} (h1:Gd (n+1) b) (h2:Gd n a) (h3:∀u,idx b=some u->Gd n (fP a 0 u)):Gd n (.app b a)
 | elim {n:Nat} {z s m:NT} (h1:Gd n z) (h2:Gd (n+2) s) (h3:Gd n m):Gd n (.elim z s m)
 | part {n:Nat} {q:Bool} {a b:NT} (h1:Gd n a) (h2:Gd n b):Gd n (.part q a b)
 | mov {n:Nat} {x z:NT} (h1:Gd n x) (h2:Gd n z):Gd n (.mov x z)
theorem aNq {n:Nat}{x u:NT}(h:Gd n x)(hu:idx x=some u):Gd n u:=by
 cases h with
 | var h=>cases hu
 | zero=>cases hu
 | suc h=>cases hu
 | app h1 h2 h3=>
  rename_i b a
  cases hb:idx b with
  | none=>rw [idx,hb] at hu;cases hu
  | some v=>rw [idx,hb] at hu;injection hu with hu;subst hu;exact h3 v hb
 | elim h1 h2 h3=>injection hu with hu;subst hu;exact h3
 | part h1 h2=>cases hu
 | mov h1 h2=>injection hu with hu;subst hu;exact h1
theorem yY (x:NT):∀m c,idx (x.shift m c)=(idx x).map (shift m c):=by
 induction x with
 | var i=>intro m c;rw [shift];split<;>rfl
 | zero=>intros;rfl
 | suc a _=>intros;rfl
 | app b a h1 h2=>
  intro m c;rw [shift,idx,idx,h1];cases idx b with
  | none=>rfl
  | some u=>
   simp only [Option.map_some]
   rw [show c+1=c+0+1 by omega,<- aAm u a m c 0];rfl
 | elim z s n _ _ _=>intros;rfl
 | part q a b _ _=>intros;rfl
 | mov x z _ _=>intros;rfl
theorem aDw {n:Nat}{x:NT}(h:Gd n x):∀(m c:Nat),c<=n->Gd (n+m) (x.shift m c):=by
 induction h with
 | var h=>intro m c hc;rw [shift];split<;>exact .var (by omega)
 | zero=>intros;exact .zero
 | suc h ih=>intro m c hc;exact .suc (ih m c hc)
 | @app n b a h1 h2 h3 i1 i2 i3=>
  intro m c hc;refine .app (by have:=i1 m (c+1) (by omega);rwa [show n+1+m=n+m+1 by omega] at this) (i2 m c hc) ?_;intro u hu;rw [yY] at hu;cases hb:idx b with
  | none=>rw [hb] at hu;cases hu
  | some v=>
   rw [hb] at hu;injection hu with hu;subst hu;have:=i3 v hb m c hc;rwa [show c=c+0 by omega,aAm v a m c 0] at this
 | @elim n z s k h1 h2 h3 i1 i2 i3=>
  intro m c hc;exact .elim (i1 m c hc) (by have:=i2 m (c+2) (by omega);rwa [show n+2+m=n+m+2 by omega] at this) (i3 m c hc)
 | part h1 h2 i1 i2=>intro m c hc;exact .part (i1 m c hc) (i2 m c hc)
 | mov h1 h2 i1 i2=>intro m c hc;exact .mov (i1 m c hc) (i2 m c hc)
theorem aQu (x a:NT):∀(k:Nat) (v:NT),idx (fP a k x)=some v->(∃u,idx x=some u/\v=fP a k u)\/(∃w,idx a=some w/\v=w.shift k 0):=by
 induction x with
 | var i=>
  intro k v h;rw [fP] at h;split at h
  ·rw [yY] at h;cases ha:idx a with
   | none=>rw [ha] at h;cases h
   | some w=>rw [ha] at h;injection h with h;exact .inr ⟨w,rfl,h.symm⟩
  ·split at h<;>cases h
 | zero=>intro k v h;cases h
 | suc b _=>intro k v h;cases h
 | app b c h1 h2=>
  intro k v h;rw [fP,idx] at h;cases hb:idx (fP a (k+1) b) with
  | none=>rw [hb] at h;cases h
  | some w=>
   rw [hb] at h;injection h with h;subst h;rcases h1 (k+1) w hb with ⟨u,hu,rfl⟩|⟨y,hy,rfl⟩
   ·refine .inl ⟨fP c 0 u,by rw [idx,hu];rfl,?_⟩;exact aHn u a c k 0
   ·refine .inr ⟨y,hy,?_⟩;exact vJ y _ k 0 0 (by omega) (by omega)
 | elim z s n _ _ _=>intro k v h;injection h with h;exact .inl ⟨n,rfl,h.symm⟩
 | part q x y _ _=>intro k v h;cases h
 | mov x z _ _=>intro k v h;injection h with h;exact .inl ⟨x,rfl,h.symm⟩
theorem aTp {n:Nat}{x:NT}(h:Gd n x):∀(m k:Nat) (a:NT),n=m+1+k->Gd m a->Gd (m+k) (fP a k x):=by
 induction h with
 | @var n i h=>
  intro m k a hn ha;rw [fP];split
  ·exact aDw ha k 0 (by omega)
  ·split
   ·exact .var (by omega)
   ·exact .var (by omega)
 | zero=>intros;exact .zero
 | suc h ih=>intro m k a hn ha;exact .suc (ih m k a hn ha)
 | @app n b c h1 h2 h3 i1 i2 i3=>
  intro m k a hn ha;refine .app (by have:=i1 m (k+1) a (by omega) ha;rwa [show m+(k+1)=m+k+1 by omega] at this) (i2 m k a hn ha) ?_;intro v hv;rcases aQu b a (k+1) v hv with ⟨u,hu,rfl⟩|⟨w,hw,rfl⟩
  ·have:=i3 u hu m k a hn ha;rwa [show k=k+0 by omega,<- aHn u a c k 0] at this
  ·rw [vJ w _ k 0 0 (by omega) (by omega)];exact aDw (aNq ha hw) k 0 (by omega)
 | @elim n z s j h1 h2 h3 i1 i2 i3=>
  intro m k a hn ha;exact .elim (i1 m k a hn ha) (by have:=i2 m (k+2) a (by omega) ha;rwa [show m+(k+2)=m+k+2 by omega] at this) (i3 m k a hn ha)
 | part h1 h2 i1 i2=>intro m k a hn ha;exact .part (i1 m k a hn ha) (i2 m k a hn ha)
 | mov h1 h2 i1 i2=>intro m k a hn ha;exact .mov (i1 m k a hn ha) (i2 m k a hn ha)
theorem gd_any (x:NT):∀n,x.ok n->Gd n x:=by
 induction x with
 | var i=>intro n h;exact .var h
 | zero=>intros;exact .zero
 | suc a ih=>intro n h;exact .suc (ih n h)
 | app b a h1 h2=>
  intro n h;have g1:=h1 (n+1) h.1;have g2:=h2 n h.2;exact .app g1 g2 λ u hu=>aTp (aNq g1 hu) n 0 a (by omega) g2
 | elim z s m h1 h2 h3=>intro n h;exact .elim (h1 n h.1) (h2 (n+2) h.2.1) (h3 n h.2.2)
 | part q a b h1 h2=>intro n h;exact .part (h1 n h.1) (h2 n h.2)
 | mov a b h1 h2=>intro n h;exact .mov (h1 n h.1) (h2 n h.2)
theorem aLr (x:NT):∀(m c:Nat),eZ m c x.tm=(x.shift m c).tm:=by
 induction x with
 | var i=>
  intro m c;rw [tm,eZ,shift];by_cases h:c<=i
  ·rw [if_pos h,if_pos ⟨rfl,by omega⟩,tm,cP];congr 1
  ·rw [if_neg h,if_neg (by rintro ⟨-,h'⟩;omega),tm,cP]
 | zero=>intro m c;simp [tm,shift,eZ,cP]
 | suc a ih=>intro m c;simp [tm,shift,eZ,cP,aR,binds,ih]
 | app b a h1 h2=>intro m c;have:=h1 m (c+1);simp [tm,shift,eZ,cP,aR,binds,kN,h2] at this⊢;exact this
 | elim z s n h1 h2 h3=>intro m c;have:=h2 m (c+2);simp [tm,shift,eZ,cP,aR,binds,kN,h1,h3] at this⊢;rw [<- this];congr 1
 | part q a b h1 h2=>intro m c;cases q<;>simp [tm,shift,eZ,cP,aR,binds,kN,h1,h2]
 | mov x z h1 h2=>intro m c;simp [tm,shift,eZ,cP,aR,binds,kN,h1,h2]
theorem tm_sub (x a:NT):∀(k:Nat),dC a.tm k k x.tm=(fP a k x).tm:=by
 induction x with
 | var i=>
  intro k;rw [tm,dC,fP];by_cases h:i=k
  ·rw [if_pos h,if_pos ⟨rfl,by omega⟩];have:=aLr a k 0;simpa using this
  ·rw [if_neg h,if_neg (by rintro ⟨-,h'⟩;omega),cQ];by_cases h2:k<i
   ·rw [if_pos h2,if_pos ⟨rfl,by omega⟩,tm];congr 1;omega
   ·rw [if_neg h2,if_neg (by rintro ⟨-,h'⟩;omega),tm]
 | zero=>intro k;simp [tm,fP,dC,cQ]
 | suc a ih=>intro k;simp [tm,fP,dC,cQ,aR,binds,ih]
 | app b c h1 h2=>intro k;have:=h1 (k+1);simp [tm,fP,dC,cQ,aR,binds,kN,h2] at this⊢;exact this
 | elim z s n h1 h2 h3=>intro k;have:=h2 (k+2);simp [tm,fP,dC,cQ,aR,binds,kN,h1,h3] at this⊢;rw [<- this];congr 1
 | part q a b h1 h2=>intro k;cases q<;>simp [tm,fP,dC,cQ,aR,binds,kN,h1,h2]
 | mov x z h1 h2=>intro k;simp [tm,fP,dC,cQ,aR,binds,kN,h1,h2]
end NT
theorem aBf {N:Nat}(ctx:List Tm)(C:Option Addr)(cc:Nat)(n:Int)(A:Option Addr)(c:Nat)(k:Int)(ks:List Tm)(r:Rs Tm)(w:World)(hn:0<=n/\n<=20)(hk:k=2\/k=6\/k=7)(hs:fS (bJ N) ctx (.mk k n ks)=some r) :
  Calls prog 125 #[.slice C ctx.length cc,.agg (Ro k n A ks.length c)] w (oH w r):=by
 have kz:IntKind.i64.wrap (n+1)=n+1:=IntWalk.i64_in _ (by omega);have kz2:wrap64 (n+1)=n+1:=IntWalk.wrap64_in _ (by omega);rcases hk with rfl|rfl|rfl
 ·simp only [fS,Int.reduceEq,if_false,if_true,or_self,false_or,or_false] at hs
  by_cases h3:3<=n
  ·rw [if_pos h3] at hs;injection hs with hs;subst hs;have q3:decide (3<=n)=true:=decide_eq_true h3;go_enter func125,ntmps125;go_wp2_with fail
   have gB:Bw w ((w.alloc (.cells (Ro 2 n A ks.length c) 25)).alloc (.cells Zr 25)):=bw2;refine bodyPost_ret (v:=.tuple #[.agg Zr,.int .i64 1]) (by simp [results,results125,go_sem]) rfl ⟨0,0,none,0,0,rfl,?_⟩;first
    | exact gB
    | exact ((gB.setCell (by simp<;>omega) _).setCell (by simp<;>omega) _).setCell (by simp<;>omega) _
  ·rw [if_neg h3] at hs;injection hs with hs;subst hs;have q3:decide (3<=n)=false:=decide_eq_false h3;go_enter func125,ntmps125;go_wp2_with (go_at_call 23;refine (bB _ _ _).mono ?_;rintro e w1 ⟨rfl,hb1⟩;have hZ1:=bH hb1;have g1:Bw w w1:=bQ bw2 hb1;obtain ⟨d0,d1,d2,e0,e1,e2,lz⟩:=dA hZ1)
   refine bodyPost_ret (v:=.tuple #[.agg (Ro 2 (n+1) none 0 0),.int .i64 0]) (by simp [results,results125,go_sem,d0,d1,d2]) rfl ⟨none,0,rfl,by simp,Rd.nil,?_⟩;exact bT g1
 ·simp only [fS,Int.reduceEq,if_false,if_true,or_self,false_or,or_false] at hs
  injection hs with hs;subst hs;go_enter func125,ntmps125;go_wp2_with (go_at_call 23;refine (bB _ _ _).mono ?_;rintro e w1 ⟨rfl,hb1⟩;have hZ1:=bH hb1;have g1:Bw w w1:=bQ bw2 hb1;obtain ⟨d0,d1,d2,e0,e1,e2,lz⟩:=dA hZ1)
  refine bodyPost_ret (v:=.tuple #[.agg (Ro 2 0 none 0 0),.int .i64 0]) (by simp [results,results125,go_sem,d0,d1,d2]) rfl ⟨none,0,rfl,by simp,Rd.nil,?_⟩;exact bT g1
 ·simp only [fS,Int.reduceEq,if_false,if_true,or_self,false_or,or_false] at hs
  injection hs with hs;subst hs;go_enter func125,ntmps125;go_wp2_with (go_at_call 23;refine (bB _ _ _).mono ?_;rintro e w1 ⟨rfl,hb1⟩;have hZ1:=bH hb1;have g1:Bw w w1:=bQ bw2 hb1;obtain ⟨d0,d1,d2,e0,e1,e2,lz⟩:=dA hZ1)
  refine bodyPost_ret (v:=.tuple #[.agg (Ro 6 0 none 0 0),.int .i64 0]) (by simp [results,results125,go_sem,d0,d1,d2]) rfl ⟨none,0,rfl,by simp,Rd.nil,?_⟩;exact bT g1
theorem aBb (ctx:List Tm)(C:Option Addr)(cc:Nat)(n:Int)(A:Option Addr)(c:Nat)(ks:List Tm)(r:Rs Tm)(w:World)(hn:0<=n/\n<=20)(hvc:∀u,u∈ctx->aE u=true)(hm:ctx.length<=20)(hs:aDz ctx n=some r)(hrc:Rd w C 0 ctx) :
  Calls prog 125 #[.slice C ctx.length cc,.agg (Ro 1 n A ks.length c)] w (oH w r):=by
 unfold aDz at hs
 by_cases hx:(ctx.length:Int)<=n
 ·rw [if_pos hx] at hs;injection hs with hs;subst hs;have q:decide ((ctx.length:Int)<=n)=true:=decide_eq_true hx;go_enter func125,ntmps125;go_wp2_with fail
  have gB:Bw w ((w.alloc (.cells (Ro 1 n A ks.length c) 25)).alloc (.cells Zr 25)):=bw2;refine bodyPost_ret (v:=.tuple #[.agg Zr,.int .i64 1]) (by simp [results,results125,go_sem]) rfl ⟨0,0,none,0,0,rfl,?_⟩;first
   | exact gB
   | exact ((gB.setCell (by simp<;>omega) _).setCell (by simp<;>omega) _).setCell (by simp<;>omega) _
 ·rw [if_neg hx] at hs;injection hs with hs;have q:decide ((ctx.length:Int)<=n)=false:=decide_eq_false hx;obtain ⟨m,rfl⟩:∃m:Nat,n=(m:Int):=⟨n.toNat,by omega⟩;rw [Int.toNat_natCast] at hs;obtain ⟨j,hj⟩:∃j,ctx.length - 1 - m=j:=⟨_,rfl⟩;have hjl:j<ctx.length:=by omega
  rw [hj] at hs;obtain ⟨bx,ox,kx,nx,sx,Ax,cx,rfl,hkj,x1,x2,x3,hlx,rx⟩:=hrc.at_ hjl;have hvx:aE (.mk kx nx sx)=true:=by rw [<- hkj];exact hvc _ (iS hjl)
  rw [show ctx.getD j default = .mk kx nx sx by rw [<- hkj];simp [List.getD,oE hjl]] at hs;have hszx:=aJ hvx;obtain ⟨k5,n5,s5,h5⟩:=jF (eZ ((m:Int)+1) 0 (.mk kx nx sx));rw [h5] at hs;subst hs;have hS:=aD (show ∀(w:World) (hr:Rd w Ax 0 sx),Calls prog 142 #[.agg (Ro kx nx Ax sx.length cx),.int .i64 ((m:Int)+1),.int .i64 0] w (uO w k5 n5 s5) from λ w hr=>by
   have:=kO _ kx nx sx Ax cx ((m:Int)+1) 0 30 w (qG _) (by omega) (aW hvx) (by omega) (by omega) (by omega) hr;rw [eZ] at h5;injection h5 with e1 e2 e3;subst e1;rw [e2,e3] at this;exact this)
  have k1:IntKind.i64.wrap ((ctx.length:Int) - 1)=(ctx.length:Int) - 1:=IntWalk.i64_in _ (by omega);have k2:IntKind.i64.wrap ((ctx.length:Int) - 1 - (m:Int))=(j:Int):=by rw [IntWalk.i64_in _ (by omega)];omega
  have k3:IntKind.i64.wrap ((m:Int)+1)=(m:Int)+1:=IntWalk.i64_in _ (by omega);have k4:wrap64 ((ctx.length:Int) - 1)=(ctx.length:Int) - 1:=IntWalk.wrap64_in _ (by omega);have k5':wrap64 ((ctx.length:Int) - 1 - (m:Int))=(j:Int):=by rw [IntWalk.wrap64_in _ (by omega)];omega
  have k6:wrap64 ((m:Int)+1)=(m:Int)+1:=IntWalk.wrap64_in _ (by omega);have q2:decide (ctx.length<=m)=false:=decide_eq_false (λ h=>hx (Int.ofNat_le.2 h));have hjc:(j:Int)<(ctx.length:Int):=by omega
  clear hj h5 hkj hvc hvx hx;go_enter func125,ntmps125;go_upto_region 5 with fail
  refine sT (show Blk _ w.heap.size (Ro 1 (m:Int) A ks.length c) from ((aC w 25 _ rfl).alloc _)) (show Blk _ (w.heap.size+1) Zr from (aC _ 25 _ (by simp))) bw2 ?_;intro wx hTwx hZwx kwwx;have v1:=aF hTwx.three.2.1;obtain ⟨ux1,ux2,ux3⟩:=iI kwwx x1 x2 x3;refine dX wx [13,14] [0,1,4,5,9,10,11] 15 8 (lT:=[_,_,_,_,_,_,_]) ?_;intro q0 bq0;refine bV (aD ?_);refine bG 2 ?_;go_wp2_with fail
  refine aP bq0 ?_;refine aBr [3,6,7,8] (f:=3) (l':=#[true,true,true,true,true,true,true,true,true,true,true,true,false,false,false]) (lT:=[_,_,_,_]) bq0 rfl (by kernel_rfl) (by kernel_rfl) (by kernel_rfl) rfl (λ _ _ d _ _ h=>by cases d<;>exact h) ?_;refine bV (aD ?_);refine bG 12 ?_;go_wp2_with (go_at_call 142;refine (hS.out _ ((rx.below kwwx).below bq0)).mono ?_;rintro e q1 ⟨A5,c5,rfl,hl5,hf5,hbq1⟩)
  have bq1:Bw wx q1:=bq0.trans (hbq1.mono bq0.size);refine aP bq1 ?_;refine cD [13,14] (lB:=[_,_]) ?_;refine gS (aD ?_);have hZ5:=hZwx.keep bq1;have g5:=kwwx.trans (bq1.mono kwwx.size);obtain ⟨d0,d1,d2,e0,e1,e2,lz⟩:=dA hZ5;have lz0:=hZwx.lt;have s0:=bq0.size;go_wp2_with fail
  refine bodyPost_ret (v:=.tuple #[.agg (Ro k5 n5 A5 s5.length c5),.int .i64 0]) (by simp [results,results125,go_sem,d0,d1,d2]) rfl ⟨A5,c5,rfl,hl5,?_,?_⟩
  ·exact (mU hf5).rd
  ·exact bT g5
theorem aBl {N:Nat}(ih:nW N)(ctx:List Tm)(C:Option Addr)(cc:Nat)(n:Int)(A:Option Addr)(c:Nat)(ka na:Int)(sa:List Tm)(r:Rs Tm)(w:World)(hs:aVd (bJ N) ctx (.mk ka na sa)=some r)(hva:aE (.mk ka na sa)=true)(hvc:∀u,u∈ctx->aE u=true)(hm:ctx.length<=20)(hrc:Rd w C 0 ctx)(hr:Rd w A 0 [.mk ka na sa]) :
  Calls prog 125 #[.slice C ctx.length cc,.agg (Ro 8 n A 1 c)] w (oH w r):=by
 obtain ⟨bk,ok,Aa,ca,rfl,a1,a2,a3,hla,ra⟩:=kZ hr;simp only [Nat.zero_mul,Nat.add_zero,Nat.one_mul,Nat.reduceMul] at a1 a2 a3
 have lbp:=kY _ _ a1;rcases aO hs with ⟨b,h1,rfl⟩|⟨u1,h1,hs⟩
 ·replace h1:iL (bJ N) ctx (.mk ka na sa) (.mk 6 0 [])=_:=h1;have hC:=aD (λ (A2:Option Addr) (c2:Nat) (w:World) (hrc:Rd w C 0 ctx) (hrt:Rd w Aa 0 sa) (hr2:Rd w A2 0 [])=>cC ih ctx C cc ka na sa Aa ca 6 0 [] A2 c2 _ w h1 hva hvc (by omega) hrc hrt (by simp [aH]) hr2);have qb:=iN b;clear hs h1 hva hvc ih;go_enter func125,ntmps125;go_upto_region 15 with fail
  refine sT (show Blk _ w.heap.size (Ro 8 n (some ⟨bk,ok,none⟩) 1 c) from ((aC w 25 _ rfl).alloc _)) (show Blk _ (w.heap.size+1) Zr from (aC _ 25 _ (by simp))) bw2 ?_;intro wx hTwx hZwx kwwx;have v2:=aF hTwx.three.2.2;obtain ⟨ua1,ua2,ua3⟩:=iI kwwx a1 a2 a3;refine dX wx [8,9] [1,2,3,4,5] 10 5 (lT:=[_,_,_,_,_]) ?_;intro q0 bq0;refine bV (aD ?_);refine bG 0 ?_
  ·go_wp2_with (go_at_call 23;refine (bB _ _ _).mono ?_;rintro e q1 ⟨rfl,hbq1⟩)
   refine aY bq0 hbq1 ?_;intro bq1 lq1;refine bG 6 ?_
   ·go_wp2_with (go_at_call 23;refine (bB _ _ _).mono ?_;rintro e q2 ⟨rfl,hbq2⟩)
    refine aY bq1 hbq2 ?_;intro bq2 lq2;refine bG 7 ?_
    ·go_wp2_with (go_at_call 46;refine (hC.out none 0 _ ((hrc.below kwwx).below bq2) ((ra.below kwwx).below bq2) Rd.nil).mono ?_;rintro e q3 ⟨he,hbq3⟩;obtain rfl:e = .returned (.int .i64 (dL b)):=he)
     refine aY bq2 hbq3 ?_;intro bq3 lq3;refine cD [8,9] (lB:=[_,_]) ?_;refine gS (aD ?_);have hTq3:=hTwx.keep bq3;have hZq3:=hZwx.keep bq3;have kwq3:=kwwx.trans (bq3.mono kwwx.size);have kwxq3:=bq3;obtain ⟨d0,d1,d2,e0,e1,e2,lz⟩:=dA hZq3;go_wp2_with fail
     refine bodyPost_ret (v:=.tuple #[.agg (Ro 6 0 none 0 0),.int .i64 (dL b)]) (by simp [results,results125,go_sem,d0,d1,d2]) rfl ⟨6,0,none,0,0,rfl,?_⟩;exact ((kwq3.setCell (by simp<;>omega) _).setCell (by simp<;>omega) _).setCell (by simp<;>omega) _
 ·replace h1:iL (bJ N) ctx (.mk ka na sa) (.mk 6 0 [])=_:=h1;have hC:=aD (λ (A2:Option Addr) (c2:Nat) (w:World) (hrc:Rd w C 0 ctx) (hrt:Rd w Aa 0 sa) (hr2:Rd w A2 0 [])=>cC ih ctx C cc ka na sa Aa ca 6 0 [] A2 c2 _ w h1 hva hvc (by omega) hrc hrt (by simp [aH]) hr2);injection hs with hs;subst hs;clear h1 hva hvc ih;go_enter func125,ntmps125;go_upto_region 15 with fail
  refine sT (show Blk _ w.heap.size (Ro 8 n (some ⟨bk,ok,none⟩) 1 c) from ((aC w 25 _ rfl).alloc _)) (show Blk _ (w.heap.size+1) Zr from (aC _ 25 _ (by simp))) bw2 ?_;intro wx hTwx hZwx kwwx;have v2:=aF hTwx.three.2.2;obtain ⟨ua1,ua2,ua3⟩:=iI kwwx a1 a2 a3;refine dX wx [8,9] [1,2,3,4,5] 10 5 (lT:=[_,_,_,_,_]) ?_;intro q0 bq0;refine bV (aD ?_);refine bG 0 ?_
  ·go_wp2_with (go_at_call 23;refine (bB _ _ _).mono ?_;rintro e q1 ⟨rfl,hbq1⟩)
   refine aY bq0 hbq1 ?_;intro bq1 lq1;refine bG 6 ?_
   ·go_wp2_with (go_at_call 23;refine (bB _ _ _).mono ?_;rintro e q2 ⟨rfl,hbq2⟩)
    refine aY bq1 hbq2 ?_;intro bq2 lq2;refine bG 7 ?_
    ·go_wp2_with (go_at_call 46;refine (hC.out none 0 _ ((hrc.below kwwx).below bq2) ((ra.below kwwx).below bq2) Rd.nil).mono ?_;rintro e q3 ⟨he,hbq3⟩;obtain rfl:e = .returned (.int .i64 0):=he)
     refine aY bq2 hbq3 ?_;intro bq3 lq3;refine cD [8,9] (lB:=[_,_]) ?_;refine gS (aD ?_);have hTq3:=hTwx.keep bq3;have hZq3:=hZwx.keep bq3;have kwq3:=kwwx.trans (bq3.mono kwwx.size);have kwxq3:=bq3;obtain ⟨d0,d1,d2,e0,e1,e2,lz⟩:=dA hZq3;go_wp2_with fail
     refine bodyPost_ret (v:=.tuple #[.agg (Ro 6 0 none 0 0),.int .i64 0]) (by simp [results,results125,go_sem,d0,d1,d2]) rfl ⟨none,0,rfl,by simp,Rd.nil,?_⟩;exact ((kwq3.setCell (by simp<;>omega) _).setCell (by simp<;>omega) _).setCell (by simp<;>omega) _
theorem aCf {N:Nat}(ih:nW N)(ctx:List Tm)(C:Option Addr)(cc:Nat)(n:Int)(A:Option Addr)(c:Nat)(ka na:Int)(sa:List Tm)(r:Rs Tm)(w:World)(hs:aUr (bJ N) ctx (.mk ka na sa)=some r)(hva:aE (.mk ka na sa)=true)(hvc:∀u,u∈ctx->aE u=true)(hm:ctx.length<=20)(hrc:Rd w C 0 ctx)(hr:Rd w A 0 [.mk ka na sa]) :
  Calls prog 125 #[.slice C ctx.length cc,.agg (Ro 11 n A 1 c)] w (oH w r):=by
 obtain ⟨bk,ok,Aa,ca,rfl,a1,a2,a3,hla,ra⟩:=kZ hr;simp only [Nat.zero_mul,Nat.add_zero,Nat.one_mul,Nat.reduceMul] at a1 a2 a3
 have lbp:=kY _ _ a1;rcases aO hs with ⟨b,h1,rfl⟩|⟨⟨k1,n1,s1⟩,h1,hs⟩
 ·have hI:=aD (λ (w:World) (hrc:Rd w C 0 ctx) (hra:Rd w Aa 0 sa)=>ih ctx ka na sa _ h1 hva hvc (by omega) C cc Aa ca w hrc hra);have qb:=iN b;clear hs h1 hva hvc ih;go_enter func125,ntmps125;go_upto_region 20 with (go_at_call 68;refine (hI.out _ ((hrc.alloc _).alloc _) ((ra.alloc _).alloc _)).mono ?_;rintro e w1 ⟨rfl,hb1⟩;have hTw1:=cV hb1;have hZw1:=bH hb1;have kww1:Bw w w1:=bQ bw2 hb1;have hTw2:=hTw1.alloc (.cells Zr 25);have hZw2:=hZw1.alloc (.cells Zr 25);have hGw2:=aC w1 25 Zr rfl;have kww2:=kww1.alloc kww1.size (.cells Zr 25))
  refine aMa hTw2 hZw2 hGw2 kww2 ?_;intro wl hTwl hZwl hGwl kwwl;have lTz:=hTwl.lt;have lZz:=hZwl.lt;have lGz:=hGwl.lt;have nz0:bk≠(w.heap.size+1):=by omega
  have nz1:w.heap.size≠(w.heap.size+1):=by omega
  have nz2:w1.heap.size≠(w.heap.size+1):=by have:=hZw1.lt;omega
  have lv:=dZ (z:=(w.heap.size+1)) hTwl.three.2.2 nz1;obtain ⟨lg0,lg1,lg2⟩:=rkB hGwl nz2;obtain ⟨la1,la2,la3⟩:=rk3 kwwl nz0 a1 a2 a3;refine gBk wl (w.heap.size+1) [13] [0,1,2,3,4,5,6,7,8,11] 14 4 (lT:=[_,_,_,_,_,_,_,_,_,_]) ?_;intro q0 bq0 keq0;refine bV (aD ?_);refine bG 9 ?_;go_wp2_with fail
  refine dO ?_;intro q1 hbq1 zq1 seq1;refine xU bq0 hbq1 ?_;intro bq1 lq1 keq1;refine bG 10 ?_;go_wp2_with (go_at_call 31;refine (bP 10 (aT (k:=0) (n:=0) (ks:=[]) (by simp) (Rd.nil (w:=q1)).rdp (aT hla ((ra.below kwwl).below bq1).rdp (aT hla ((ra.below kwwl).below bq1).rdp cB))) 3 rfl (by omega) _ _ zq1).mono ?_;rintro e q2 ⟨A7,c7,rfl,r7,hbq2⟩)
  refine xU bq1 hbq2 ?_;intro bq2 lq2 keq2;refine bG 12 ?_;have hZz:=hZwl.keep bq2;obtain ⟨d0,d1,d2,e0,e1,e2,lz⟩:=dA hZz;go_wp2_with fail
  refine cK ?_;intro q3 hn;have hZq3:Blk q3 (w.heap.size+1) (Ro 10 0 A7 3 c7):=by rw [hn];exact ((hZz.set_ 0 _).set_ 1 _).set_ 2 _
  have kwq3:Bw w q3:=by rw [hn];exact (bT (kwwl.trans (bq2.mono kwwl.size)))
  have keq3:KE wl (w.heap.size+1) q3:=by rw [hn];exact ((keq2.set _ _).set _ _).set _ _
  clear hn d0 d1 d2 e0 e1 e2 lz;refine aP keq3 ?_;refine cD [13] (lB:=[_]) ?_;refine gS (aD ?_);obtain ⟨d0,d1,d2,e0,e1,e2,lz⟩:=dA hZq3;go_wp2_with fail
  refine bodyPost_ret (v:=.tuple #[.agg (Ro 10 0 A7 3 c7),.int .i64 (dL b)]) (by simp [results,results125,go_sem,d0,d1,d2]) rfl ⟨10,0,A7,3,c7,rfl,kwq3⟩
 ·have hI:=aD (λ (w:World) (hrc:Rd w C 0 ctx) (hra:Rd w Aa 0 sa)=>ih ctx ka na sa _ h1 hva hvc (by omega) C cc Aa ca w hrc hra);have hvl:=aD (show ∀t,t∈[.mk k1 n1 s1,.mk ka na sa,.mk ka na sa]->aE t=true from λ t ht=>by
   have hd:=dQ h1;rcases List.mem_cons.1 ht with rfl|ht
   ·exact hd
   ·rcases List.mem_cons.1 ht with rfl|ht
    ·exact hva
    ·rw [List.mem_singleton.1 ht];exact hva)
  rcases aO hs with ⟨b,h2,rfl⟩|⟨l5,h2,hs⟩
  ·have hS:=aD (λ (A:Option Addr) (c:Nat) (w:World) (hrc:Rd w C 0 ctx) (hr:Rd w A 0 s1)=>eA ih ctx C cc k1 n1 s1 A c _ w h2 (dQ h1) hvc (by omega) hrc hr);have qb:=iN b;clear hs h1 h2 hva hvc ih;go_enter func125,ntmps125;go_upto_region 20 with (first
    | (go_at_call 67;have _t:=tok;refine (hS.out _ _ _ (hrc.below kww2) r1w2).mono ?_;rintro e w3 ⟨l5,rfl,hb3⟩;have hTw3:=hTw2.keep hb3;have hZw3:=hZw2.keep hb3;have hGw3:=hGw2.keep hb3;have kww3:=kww2.trans (hb3.mono kww2.size);have r1q:=r1w2.below hb3)
    | (go_at_call 68;refine (hI.out _ ((hrc.alloc _).alloc _) ((ra.alloc _).alloc _)).mono ?_;rintro e w1 ⟨A1,c1,rfl,hl1,r1,hb1⟩;have hTw1:=cV hb1;have hZw1:=bH hb1;have kww1:Bw w w1:=bQ bw2 hb1;have hTw2:=hTw1.alloc (.cells (Ro k1 n1 A1 s1.length c1) 25);have hZw2:=hZw1.alloc (.cells (Ro k1 n1 A1 s1.length c1) 25);have hGw2:=aC w1 25 (Ro k1 n1 A1 s1.length c1) rfl;have kww2:=kww1.alloc kww1.size (.cells (Ro k1 n1 A1 s1.length c1) 25);have r1w2:=r1.alloc (.cells (Ro k1 n1 A1 s1.length c1) 25);obtain ⟨y0,y1,y2⟩:=hGw2.three;have tok:=trivial))
   refine rL hTw3 hZw3 hGw3 kww3 ?_;intro wl hTwl hZwl hGwl kwwl hwwl;have rGl:Rd wl A1 0 s1:=by rw [hwwl];exact r1q
   clear hwwl;have lTz:=hTwl.lt;have lZz:=hZwl.lt;have lGz:=hGwl.lt;have nz0:bk≠(w.heap.size+1):=by omega
   have nz1:w.heap.size≠(w.heap.size+1):=by omega
   have nz2:w1.heap.size≠(w.heap.size+1):=by have:=hZw1.lt;omega
   have lv:=dZ (z:=(w.heap.size+1)) hTwl.three.2.2 nz1;obtain ⟨lg0,lg1,lg2⟩:=rkB hGwl nz2;obtain ⟨la1,la2,la3⟩:=rk3 kwwl nz0 a1 a2 a3;refine gBk wl (w.heap.size+1) [13] [0,1,2,3,4,5,6,7,8,11] 14 4 (lT:=[_,_,_,_,_,_,_,_,_,_]) ?_;intro q0 bq0 keq0;refine bV (aD ?_);refine bG 9 ?_;go_wp2_with fail
   refine dO ?_;intro q1 hbq1 zq1 seq1;refine xU bq0 hbq1 ?_;intro bq1 lq1 keq1;refine bG 10 ?_;go_wp2_with (go_at_call 31;refine (bP 10 (aT hl1 (rGl.below bq1).rdp (aT hla ((ra.below kwwl).below bq1).rdp (aT hla ((ra.below kwwl).below bq1).rdp cB))) 3 rfl (by omega) _ _ zq1).mono ?_;rintro e q2 ⟨A7,c7,rfl,r7,hbq2⟩)
   refine xU bq1 hbq2 ?_;intro bq2 lq2 keq2;refine bG 12 ?_;have hZz:=hZwl.keep bq2;obtain ⟨d0,d1,d2,e0,e1,e2,lz⟩:=dA hZz;go_wp2_with fail
   refine cK ?_;intro q3 hn;have hZq3:Blk q3 (w.heap.size+1) (Ro 10 0 A7 3 c7):=by rw [hn];exact ((hZz.set_ 0 _).set_ 1 _).set_ 2 _
   have kwq3:Bw w q3:=by rw [hn];exact (bT (kwwl.trans (bq2.mono kwwl.size)))
   have keq3:KE wl (w.heap.size+1) q3:=by rw [hn];exact ((keq2.set _ _).set _ _).set _ _
   clear hn d0 d1 d2 e0 e1 e2 lz;refine aP keq3 ?_;refine cD [13] (lB:=[_]) ?_;refine gS (aD ?_);obtain ⟨d0,d1,d2,e0,e1,e2,lz⟩:=dA hZq3;go_wp2_with fail
   refine bodyPost_ret (v:=.tuple #[.agg (Ro 10 0 A7 3 c7),.int .i64 (dL b)]) (by simp [results,results125,go_sem,d0,d1,d2]) rfl ⟨10,0,A7,3,c7,rfl,kwq3⟩
  ·have hS:=aD (λ (A:Option Addr) (c:Nat) (w:World) (hrc:Rd w C 0 ctx) (hr:Rd w A 0 s1)=>eA ih ctx C cc k1 n1 s1 A c _ w h2 (dQ h1) hvc (by omega) hrc hr);injection hs with hs;subst hs;clear h1 h2 hva hvc ih;go_enter func125,ntmps125;go_upto_region 20 with (first
    | (go_at_call 67;have _t:=tok;refine (hS.out _ _ _ (hrc.below kww2) r1w2).mono ?_;rintro e w3 ⟨rfl,hb3⟩;have hTw3:=hTw2.keep hb3;have hZw3:=hZw2.keep hb3;have hGw3:=hGw2.keep hb3;have kww3:=kww2.trans (hb3.mono kww2.size);have r1q:=r1w2.below hb3)
    | (go_at_call 68;refine (hI.out _ ((hrc.alloc _).alloc _) ((ra.alloc _).alloc _)).mono ?_;rintro e w1 ⟨A1,c1,rfl,hl1,r1,hb1⟩;have hTw1:=cV hb1;have hZw1:=bH hb1;have kww1:Bw w w1:=bQ bw2 hb1;have hTw2:=hTw1.alloc (.cells (Ro k1 n1 A1 s1.length c1) 25);have hZw2:=hZw1.alloc (.cells (Ro k1 n1 A1 s1.length c1) 25);have hGw2:=aC w1 25 (Ro k1 n1 A1 s1.length c1) rfl;have kww2:=kww1.alloc kww1.size (.cells (Ro k1 n1 A1 s1.length c1) 25);have r1w2:=r1.alloc (.cells (Ro k1 n1 A1 s1.length c1) 25);obtain ⟨y0,y1,y2⟩:=hGw2.three;have tok:=trivial))
   refine rL hTw3 hZw3 hGw3 kww3 ?_;intro wl hTwl hZwl hGwl kwwl hwwl;have rGl:Rd wl A1 0 s1:=by rw [hwwl];exact r1q
   clear hwwl;have lTz:=hTwl.lt;have lZz:=hZwl.lt;have lGz:=hGwl.lt;have nz0:bk≠(w.heap.size+1):=by omega
   have nz1:w.heap.size≠(w.heap.size+1):=by omega
   have nz2:w1.heap.size≠(w.heap.size+1):=by have:=hZw1.lt;omega
   have lv:=dZ (z:=(w.heap.size+1)) hTwl.three.2.2 nz1;obtain ⟨lg0,lg1,lg2⟩:=rkB hGwl nz2;obtain ⟨la1,la2,la3⟩:=rk3 kwwl nz0 a1 a2 a3;refine gBk wl (w.heap.size+1) [13] [0,1,2,3,4,5,6,7,8,11] 14 4 (lT:=[_,_,_,_,_,_,_,_,_,_]) ?_;intro q0 bq0 keq0;refine bV (aD ?_);refine bG 9 ?_;go_wp2_with fail
   refine dO ?_;intro q1 hbq1 zq1 seq1;refine xU bq0 hbq1 ?_;intro bq1 lq1 keq1;refine bG 10 ?_;go_wp2_with (go_at_call 31;refine (bP 10 (aT hl1 (rGl.below bq1).rdp (aT hla ((ra.below kwwl).below bq1).rdp (aT hla ((ra.below kwwl).below bq1).rdp cB))) 3 rfl (by omega) _ _ zq1).mono ?_;rintro e q2 ⟨A7,c7,rfl,r7,hbq2⟩)
   refine xU bq1 hbq2 ?_;intro bq2 lq2 keq2;refine bG 12 ?_;have hZz:=hZwl.keep bq2;obtain ⟨d0,d1,d2,e0,e1,e2,lz⟩:=dA hZz;go_wp2_with fail
   refine cK ?_;intro q3 hn;have hZq3:Blk q3 (w.heap.size+1) (Ro 10 0 A7 3 c7):=by rw [hn];exact ((hZz.set_ 0 _).set_ 1 _).set_ 2 _
   have rq3:Rd q3 A7 0 [.mk k1 n1 s1,.mk ka na sa,.mk ka na sa]:=by rw [hn];exact eG hZz hvl.out r7 _ _ _
   have kwq3:Bw w q3:=by rw [hn];exact (bT (kwwl.trans (bq2.mono kwwl.size)))
   have keq3:KE wl (w.heap.size+1) q3:=by rw [hn];exact ((keq2.set _ _).set _ _).set _ _
   clear hn d0 d1 d2 e0 e1 e2 lz;refine aP keq3 ?_;refine cD [13] (lB:=[_]) ?_;refine gS (aD ?_);obtain ⟨d0,d1,d2,e0,e1,e2,lz⟩:=dA hZq3;go_wp2_with fail
   refine bodyPost_ret (v:=.tuple #[.agg (Ro 10 0 A7 3 c7),.int .i64 0]) (by simp [results,results125,go_sem,d0,d1,d2]) rfl ⟨A7,c7,rfl,by simp,rq3,kwq3⟩
theorem aUn (u:Tm)(hu:oL u=true):(∀(t:Tm) (x d:Int),oL t=true->oL (dC u x d t)=true)/\∀(ts:List Tm) (k x d:Int) (i:Nat),nzL ts=true->nzL (cQ u k x d i ts)=true:=by
 refine bO (λ k n ks ih x d h=>?_) (λ k x d i _=>rfl) (λ t ts h1 h2 k x d i h=>?_)
 ·rw [oL,Bool.and_eq_true] at h;rw [dC];split
  ·rw [(aBa d).1];exact hu
  ·rw [oL,h.1,ih k x d 0 h.2];rfl
 ·rw [nzL,Bool.and_eq_true] at h;rw [cQ,nzL,h1 _ _ h.1,h2 k x d (i+1) h.2];rfl
theorem iF {t:Tm}(h:aE t=true):oL t=true:=shape_nz.1 _ _ (aW h)
def NzR (o:Tm):Prop:=oL o=true/\o.size<=200000
theorem zQ {t:Tm}(h:aE t=true):NzR t:=⟨iF h,by have:=eK h;omega⟩
theorem aOk {u t:Tm}(hu:oL u=true)(huz:u.size<=401)(ht:aE t=true):NzR (dC u 0 0 t):=by
 refine ⟨(aUn u hu).1 t 0 0 (iF ht),?_⟩;have h1:=vX u huz (by omega) t 0 0;have h2:=eK ht;have h3:t.size*401<=400*401:=Nat.mul_le_mul_right _ h2;omega
theorem vY {k:Int}(hk:(k != 0)=true){a b:Tm}(ha:aE a=true)(hb:aE b=true):NzR (.mk k 0 [a,b]):=by
 have h1:=eK ha;have h2:=eK hb;refine ⟨?_,by simp only [Tm.size,aH];omega⟩;simp only [oL,nzL,hk,iF ha,iF hb];rfl
theorem bN {α β:Type}{o:Option (Rs α)}{f:α->Option (Rs β)}{x:β}(h:bd o f=some (.ok x)):∃a,o=some (.ok a)/\f a=some (.ok x):=by
 rcases aO h with ⟨b,_,hb⟩|h
 ·cases hb
 ·exact h
theorem cN {α:Type}{a b:α}(h:(some (.ok a):Option (Rs α))=some (.ok b)):a=b:=by injection h with h;injection h
theorem aHx {d:Nat}{k n:Int}{ks:List Tm}(h:shape d (.mk k n ks)=true)(hn:¬(k=3\/k=13)/\¬k=4/\¬k=5/\¬k=9/\¬k=10/\¬k=12/\¬k=14/\¬k=1/\¬k=2/\¬k=6/\¬k=7/\¬k=8/\¬k=11):k=15\/k=16:=by
 obtain ⟨q,_,ha,_,_,_⟩:=bX h;unfold aK at ha
 repeat' split at ha
 all_goals omega
theorem aCi {N:Nat}{ctx:List Tm}{k n:Int}{ks:List Tm}{o:Tm}(hv:aE (.mk k n ks)=true)(hvc:∀u,u∈ctx->aE u=true)(h:fS (bJ N) ctx (.mk k n ks)=some (.ok o)):NzR o:=by
 have leaf:∀(k' n':Int),(k' != 0)=true->NzR (.mk k' n' []):=λ k' n' hk=>⟨by simp [oL,nzL,hk],by simp [Tm.size,aH]⟩
 have hkv:∀i,i<ks.length->aE (aI ks i)=true:=λ i hi=>aV hv hi
 have hlen:=eW hv;rw [fS] at h;by_cases h3:k=3\/k=13
 ·rw [if_pos h3] at h;obtain ⟨i,_,h⟩:=bN h;obtain ⟨j,_,h⟩:=bN h;have:=cN h;subst this;exact leaf _ _ rfl
 rw [if_neg h3] at h;by_cases h4:k=4
 ·rw [if_pos h4] at h;subst h4;have h0:aK 4=2:=rfl;obtain ⟨i,_,h⟩:=bN h;obtain ⟨u,hu,h⟩:=bN h;obtain ⟨_,_,h⟩:=bN h;have:=cN h;subst this;exact vY rfl (hkv 0 (by omega)) (dQ hu)
 rw [if_neg h4] at h;by_cases h5:k=5
 ·rw [if_pos h5] at h;subst h5;have h0:aK 5=2:=rfl;obtain ⟨hh,h1,h⟩:=bN h;obtain ⟨_,_,h⟩:=bN h;obtain ⟨hk,hvh⟩:=nR h1;obtain ⟨kh,nh,sh⟩:=hh;obtain rfl:kh=3:=hk;obtain ⟨_,_,_,_,_,_,rfl⟩:=zY (k:=3) rfl hvh;have:=cN h;subst this;have hu:=hkv 1 (by omega);exact aOk (iF hu) (by have:=eK hu;omega) (aV (i:=1) hvh (by show 1<2;omega))
 rw [if_neg h5] at h;by_cases h9:k=9
 ·rw [if_pos h9] at h;subst h9;have h0:aK 9=4:=rfl;obtain ⟨_,_,h⟩:=bN h;obtain ⟨_,_,h⟩:=bN h;obtain ⟨_,_,h⟩:=bN h;obtain ⟨_,_,h⟩:=bN h;have:=cN h;subst this;exact vY rfl (hkv 0 (by omega)) (hkv 3 (by omega))
 rw [if_neg h9] at h;by_cases h10:k=10
 ·rw [if_pos h10] at h;obtain ⟨_,_,h⟩:=bN h;obtain ⟨_,_,h⟩:=bN h;obtain ⟨_,_,h⟩:=bN h;have:=cN h;subst this;exact leaf _ _ rfl
 rw [if_neg h10] at h;by_cases h12:k=12
 ·rw [if_pos h12] at h;subst h12;have h0:aK 12=3:=rfl;obtain ⟨hh,h1,h⟩:=bN h;obtain ⟨_,_,h⟩:=bN h;obtain ⟨_,_,h⟩:=bN h;obtain ⟨hk,hvh⟩:=nR h1;obtain ⟨kh,nh,sh⟩:=hh;obtain rfl:kh=10:=hk;obtain ⟨_,_,_,_,_,_,_,_,_,rfl⟩:=aTc (k:=10) rfl hvh;have:=cN h;subst this;exact vY rfl (hkv 0 (by omega)) (aV (i:=2) hvh (by show 2<3;omega))
 rw [if_neg h12] at h;by_cases h14:k=14
 ·rw [if_pos h14] at h;subst h14;have h0:aK 14=3:=rfl;obtain ⟨_,_,h⟩:=bN h;obtain ⟨_,_,h⟩:=bN h;obtain ⟨_,_,h⟩:=bN h;obtain ⟨_,_,h⟩:=bN h;obtain ⟨_,_,h⟩:=bN h;have:=cN h;subst this;exact zQ (hkv 0 (by omega))
 rw [if_neg h14] at h;by_cases h1:k=1
 ·rw [if_pos h1] at h;unfold aDz at h
  split at h
  ·injection h with h;cases h
  ·rename_i hl
   have:=cN h;subst this;obtain ⟨q,_,_,hn0,_,_⟩:=bX (aW hv);have hj:ctx.length - 1 - n.toNat<ctx.length:=by omega
   have hvx:=hvc _ (iS hj);rw [show ctx.getD (ctx.length - 1 - n.toNat) default=ctx[ctx.length - 1 - n.toNat] by simp [List.getD,oE hj]];refine ⟨by rw [(aBa (n+1)).1];exact iF hvx,by rw [sF];have:=eK hvx;omega⟩
 rw [if_neg h1] at h;by_cases h2:k=2
 ·rw [if_pos h2] at h;split at h
  ·injection h with h;cases h
  ·have:=cN h;subst this;exact leaf _ _ rfl
 rw [if_neg h2] at h;by_cases h6:k=6
 ·rw [if_pos h6] at h;have:=cN h;subst this;exact leaf _ _ rfl
 rw [if_neg h6] at h;by_cases h7:k=7
 ·rw [if_pos h7] at h;have:=cN h;subst this;exact leaf _ _ rfl
 rw [if_neg h7] at h;by_cases h8:k=8
 ·rw [if_pos h8] at h;obtain ⟨_,_,h⟩:=bN h;have:=cN h;subst this;exact leaf _ _ rfl
 rw [if_neg h8] at h;by_cases h11:k=11
 ·rw [if_pos h11] at h;subst h11;have h0:aK 11=1:=rfl;obtain ⟨s,hs,h⟩:=bN h;obtain ⟨_,_,h⟩:=bN h;have:=cN h;subst this;have hva:=hkv 0 (by omega);have hvs:=dQ hs;have z1:=eK hva;have z2:=eK hvs;exact ⟨by simp only [oL,nzL,iF hva,iF hvs];rfl,by simp only [Tm.size,aH];omega⟩
 rw [if_neg h11] at h;obtain ⟨hh,hsx,h⟩:=bN h;obtain ⟨hk,hvh⟩:=nR hsx;obtain ⟨kh,nh,sh⟩:=hh;obtain rfl:kh=13:=hk;obtain ⟨_,_,_,_,_,_,rfl⟩:=zY (k:=13) rfl hvh;have hks:0<ks.length:=by
  have ha:=hlen;have hm:k=15\/k=16:=aHx (aW hv) ⟨h3,h4,h5,h9,h10,h12,h14,h1,h2,h6,h7,h8,h11⟩;rcases hm with rfl|rfl
  ·have h0:aK 15=1:=rfl;omega
  ·have h0:aK 16=1:=rfl;omega
 split at h
 ·have:=cN h;subst this;exact zQ (aV (i:=0) hvh (by show 0<2;omega))
 ·have:=cN h;subst this;have hu:=hkv 0 hks;have hz:=eK hu;exact aOk (by simp only [oL,nzL,iF hu];rfl) (by simp only [Tm.size,aH];omega) (aV (i:=1) hvh (by show 1<2;omega))
theorem jL {w:World}{z:Nat}{k n:Int}{ks:List Tm}{A:Option Addr}(hZ:Blk w z Zr)(hv:oL (.mk k n ks)=true)(hr:Rd w A 0 ks)(x y v:Value) :
  Rd (((w.setCell ⟨z,0,none⟩ x).setCell ⟨z,1,none⟩ y).setCell ⟨z,2,none⟩ v) A 0 ks:=by
 rw [oL,Bool.and_eq_true] at hv;exact (((((aMf hZ).2 ks A 0 hv.2 hr).setCell (a:=⟨z,0,none⟩) (λ h=>h rfl) x).setCell (a:=⟨z,1,none⟩) (λ h=>h rfl) y).setCell (a:=⟨z,2,none⟩) (λ h=>h rfl) v).rd
theorem aBd (ctx:List Tm)(C:Option Addr)(cc:Nat)(k n:Int)(ks:List Tm)(A:Option Addr)(c:Nat)(r:Rs Tm)(w:World)(q1:(k==1)=false)(q2:(k==2)=false)(q6:(k==6)=false)(q7:(k==7)=false)(q8:(k==8)=false)(q11:(k==11)=false)(hX:Hid (∀(w:World),Rd w C 0 ctx->Rd w A 0 ks->Calls prog 143 #[.slice C ctx.length cc,.agg (Ro k n A ks.length c)] w (oH w r)))(hnz:∀o,r = .ok o->oL o=true)(hrc:Rd w C 0 ctx)(hra:Rd w A 0 ks) :
  Calls prog 125 #[.slice C ctx.length cc,.agg (Ro k n A ks.length c)] w (oH w r):=by
 cases r with
 | ok o=>
  obtain ⟨k1,n1,s1⟩:=o;replace hnz:=hnz _ rfl;go_enter func125,ntmps125;go_wp2_with (go_at_call 143;refine (hX.out _ ((hrc.alloc _).alloc _) ((hra.alloc _).alloc _)).mono ?_;rintro e w1 ⟨A1,c1,rfl,hl1,r1,hb1⟩;have hZ1:=bH hb1;have g1:Bw w w1:=bQ bw2 hb1;obtain ⟨d0,d1,d2,e0,e1,e2,lz⟩:=dA hZ1)
  refine bodyPost_ret (v:=.tuple #[.agg (Ro k1 n1 A1 s1.length c1),.int .i64 0]) (by simp [results,results125,go_sem,d0,d1,d2]) rfl ⟨A1,c1,rfl,hl1,jL hZ1 hnz r1 _ _ _,?_⟩;exact bT g1
 | no b=>
  clear hnz;go_enter func125,ntmps125;go_wp2_with (go_at_call 143;refine (hX.out _ ((hrc.alloc _).alloc _) ((hra.alloc _).alloc _)).mono ?_;rintro e w1 ⟨k1,n1,A1,l1,c1,rfl,hb1⟩;have hZ1:=bH hb1;have g1:Bw w w1:=bQ bw2 hb1;obtain ⟨d0,d1,d2,e0,e1,e2,lz⟩:=dA hZ1)
  refine bodyPost_ret (v:=.tuple #[.agg (Ro k1 n1 A1 l1 c1),.int .i64 (dL b)]) (by simp [results,results125,go_sem,d0,d1,d2]) rfl ⟨k1,n1,A1,l1,c1,rfl,?_⟩;exact bT g1
theorem aSq (ctx:List Tm)(C:Option Addr)(cc:Nat)(k n:Int)(ks:List Tm)(A:Option Addr)(c:Nat)(r:Rs Tm)(w:World)(hk:((k==3)=true)\/((k==3)=false/\(k==13)=true))(hX:Hid (∀(w:World),Rd w C 0 ctx->Rd w A 0 ks->Calls prog 118 #[.slice C ctx.length cc,.agg (Ro k n A ks.length c)] w (oH w r)))(hnz:∀o,r = .ok o->oL o=true)(hrc:Rd w C 0 ctx)(hra:Rd w A 0 ks) :
  Calls prog 89 #[.slice C ctx.length cc,.agg (Ro k n A ks.length c)] w (oH w r):=by
 rcases hk with q3|⟨q3,q13⟩
 ·cases r with
   | ok o=>
    obtain ⟨k1,n1,s1⟩:=o;replace hnz:=hnz _ rfl;go_enter func89,ntmps89;go_wp2_with (go_at_call 118;refine (hX.out _ ((hrc.alloc _).alloc _) ((hra.alloc _).alloc _)).mono ?_;rintro e w1 ⟨A1,c1,rfl,hl1,r1,hb1⟩;have hZ1:=bH hb1;have g1:Bw w w1:=bQ bw2 hb1;obtain ⟨d0,d1,d2,e0,e1,e2,lz⟩:=dA hZ1)
    refine bodyPost_ret (v:=.tuple #[.agg (Ro k1 n1 A1 s1.length c1),.int .i64 0]) (by simp [results,results89,go_sem,d0,d1,d2]) rfl ⟨A1,c1,rfl,hl1,jL hZ1 hnz r1 _ _ _,?_⟩;exact bT g1
   | no b=>
    clear hnz;go_enter func89,ntmps89;go_wp2_with (go_at_call 118;refine (hX.out _ ((hrc.alloc _).alloc _) ((hra.alloc _).alloc _)).mono ?_;rintro e w1 ⟨k1,n1,A1,l1,c1,rfl,hb1⟩;have hZ1:=bH hb1;have g1:Bw w w1:=bQ bw2 hb1;obtain ⟨d0,d1,d2,e0,e1,e2,lz⟩:=dA hZ1)
    refine bodyPost_ret (v:=.tuple #[.agg (Ro k1 n1 A1 l1 c1),.int .i64 (dL b)]) (by simp [results,results89,go_sem,d0,d1,d2]) rfl ⟨k1,n1,A1,l1,c1,rfl,?_⟩;exact bT g1
 ·cases r with
   | ok o=>
    obtain ⟨k1,n1,s1⟩:=o;replace hnz:=hnz _ rfl;go_enter func89,ntmps89;go_wp2_with (go_at_call 118;refine (hX.out _ ((hrc.alloc _).alloc _) ((hra.alloc _).alloc _)).mono ?_;rintro e w1 ⟨A1,c1,rfl,hl1,r1,hb1⟩;have hZ1:=bH hb1;have g1:Bw w w1:=bQ bw2 hb1;obtain ⟨d0,d1,d2,e0,e1,e2,lz⟩:=dA hZ1)
    refine bodyPost_ret (v:=.tuple #[.agg (Ro k1 n1 A1 s1.length c1),.int .i64 0]) (by simp [results,results89,go_sem,d0,d1,d2]) rfl ⟨A1,c1,rfl,hl1,jL hZ1 hnz r1 _ _ _,?_⟩;exact bT g1
   | no b=>
    clear hnz;go_enter func89,ntmps89;go_wp2_with (go_at_call 118;refine (hX.out _ ((hrc.alloc _).alloc _) ((hra.alloc _).alloc _)).mono ?_;rintro e w1 ⟨k1,n1,A1,l1,c1,rfl,hb1⟩;have hZ1:=bH hb1;have g1:Bw w w1:=bQ bw2 hb1;obtain ⟨d0,d1,d2,e0,e1,e2,lz⟩:=dA hZ1)
    refine bodyPost_ret (v:=.tuple #[.agg (Ro k1 n1 A1 l1 c1),.int .i64 (dL b)]) (by simp [results,results89,go_sem,d0,d1,d2]) rfl ⟨k1,n1,A1,l1,c1,rfl,?_⟩;exact bT g1
theorem aQb (ctx:List Tm)(C:Option Addr)(cc:Nat)(k n:Int)(ks:List Tm)(A:Option Addr)(c:Nat)(r:Rs Tm)(w:World)(q3:(k==3)=false)(q13:(k==13)=false)(qk:(k==4)=true)(hX:Hid (∀(w:World),Rd w C 0 ctx->Rd w A 0 ks->Calls prog 119 #[.slice C ctx.length cc,.agg (Ro k n A ks.length c)] w (oH w r)))(hnz:∀o,r = .ok o->oL o=true)(hrc:Rd w C 0 ctx)(hra:Rd w A 0 ks) :
  Calls prog 89 #[.slice C ctx.length cc,.agg (Ro k n A ks.length c)] w (oH w r):=by
 cases r with
 | ok o=>
  obtain ⟨k1,n1,s1⟩:=o;replace hnz:=hnz _ rfl;go_enter func89,ntmps89;go_wp2_with (go_at_call 119;refine (hX.out _ ((hrc.alloc _).alloc _) ((hra.alloc _).alloc _)).mono ?_;rintro e w1 ⟨A1,c1,rfl,hl1,r1,hb1⟩;have hZ1:=bH hb1;have g1:Bw w w1:=bQ bw2 hb1;obtain ⟨d0,d1,d2,e0,e1,e2,lz⟩:=dA hZ1)
  refine bodyPost_ret (v:=.tuple #[.agg (Ro k1 n1 A1 s1.length c1),.int .i64 0]) (by simp [results,results89,go_sem,d0,d1,d2]) rfl ⟨A1,c1,rfl,hl1,jL hZ1 hnz r1 _ _ _,?_⟩;exact bT g1
 | no b=>
  clear hnz;go_enter func89,ntmps89;go_wp2_with (go_at_call 119;refine (hX.out _ ((hrc.alloc _).alloc _) ((hra.alloc _).alloc _)).mono ?_;rintro e w1 ⟨k1,n1,A1,l1,c1,rfl,hb1⟩;have hZ1:=bH hb1;have g1:Bw w w1:=bQ bw2 hb1;obtain ⟨d0,d1,d2,e0,e1,e2,lz⟩:=dA hZ1)
  refine bodyPost_ret (v:=.tuple #[.agg (Ro k1 n1 A1 l1 c1),.int .i64 (dL b)]) (by simp [results,results89,go_sem,d0,d1,d2]) rfl ⟨k1,n1,A1,l1,c1,rfl,?_⟩;exact bT g1
theorem aRv (ctx:List Tm)(C:Option Addr)(cc:Nat)(k n:Int)(ks:List Tm)(A:Option Addr)(c:Nat)(r:Rs Tm)(w:World)(q3:(k==3)=false)(q13:(k==13)=false)(q4:(k==4)=false)(qk:(k==5)=true)(hX:Hid (∀(w:World),Rd w C 0 ctx->Rd w A 0 ks->Calls prog 120 #[.slice C ctx.length cc,.agg (Ro k n A ks.length c)] w (oH w r)))(hnz:∀o,r = .ok o->oL o=true)(hrc:Rd w C 0 ctx)(hra:Rd w A 0 ks) :
  Calls prog 89 #[.slice C ctx.length cc,.agg (Ro k n A ks.length c)] w (oH w r):=by
 cases r with
 | ok o=>
  obtain ⟨k1,n1,s1⟩:=o;replace hnz:=hnz _ rfl;go_enter func89,ntmps89;go_wp2_with (go_at_call 120;refine (hX.out _ ((hrc.alloc _).alloc _) ((hra.alloc _).alloc _)).mono ?_;rintro e w1 ⟨A1,c1,rfl,hl1,r1,hb1⟩;have hZ1:=bH hb1;have g1:Bw w w1:=bQ bw2 hb1;obtain ⟨d0,d1,d2,e0,e1,e2,lz⟩:=dA hZ1)
  refine bodyPost_ret (v:=.tuple #[.agg (Ro k1 n1 A1 s1.length c1),.int .i64 0]) (by simp [results,results89,go_sem,d0,d1,d2]) rfl ⟨A1,c1,rfl,hl1,jL hZ1 hnz r1 _ _ _,?_⟩;exact bT g1
 | no b=>
  clear hnz;go_enter func89,ntmps89;go_wp2_with (go_at_call 120;refine (hX.out _ ((hrc.alloc _).alloc _) ((hra.alloc _).alloc _)).mono ?_;rintro e w1 ⟨k1,n1,A1,l1,c1,rfl,hb1⟩;have hZ1:=bH hb1;have g1:Bw w w1:=bQ bw2 hb1;obtain ⟨d0,d1,d2,e0,e1,e2,lz⟩:=dA hZ1)
  refine bodyPost_ret (v:=.tuple #[.agg (Ro k1 n1 A1 l1 c1),.int .i64 (dL b)]) (by simp [results,results89,go_sem,d0,d1,d2]) rfl ⟨k1,n1,A1,l1,c1,rfl,?_⟩;exact bT g1
theorem aSl (ctx:List Tm)(C:Option Addr)(cc:Nat)(k n:Int)(ks:List Tm)(A:Option Addr)(c:Nat)(r:Rs Tm)(w:World)(q3:(k==3)=false)(q13:(k==13)=false)(q4:(k==4)=false)(q5:(k==5)=false)(qk:(k==9)=true)(hX:Hid (∀(w:World),Rd w C 0 ctx->Rd w A 0 ks->Calls prog 121 #[.slice C ctx.length cc,.agg (Ro k n A ks.length c)] w (oH w r)))(hnz:∀o,r = .ok o->oL o=true)(hrc:Rd w C 0 ctx)(hra:Rd w A 0 ks) :
  Calls prog 89 #[.slice C ctx.length cc,.agg (Ro k n A ks.length c)] w (oH w r):=by
 cases r with
 | ok o=>
  obtain ⟨k1,n1,s1⟩:=o;replace hnz:=hnz _ rfl;go_enter func89,ntmps89;go_wp2_with (go_at_call 121;refine (hX.out _ ((hrc.alloc _).alloc _) ((hra.alloc _).alloc _)).mono ?_;rintro e w1 ⟨A1,c1,rfl,hl1,r1,hb1⟩;have hZ1:=bH hb1;have g1:Bw w w1:=bQ bw2 hb1;obtain ⟨d0,d1,d2,e0,e1,e2,lz⟩:=dA hZ1)
  refine bodyPost_ret (v:=.tuple #[.agg (Ro k1 n1 A1 s1.length c1),.int .i64 0]) (by simp [results,results89,go_sem,d0,d1,d2]) rfl ⟨A1,c1,rfl,hl1,jL hZ1 hnz r1 _ _ _,?_⟩;exact bT g1
 | no b=>
  clear hnz;go_enter func89,ntmps89;go_wp2_with (go_at_call 121;refine (hX.out _ ((hrc.alloc _).alloc _) ((hra.alloc _).alloc _)).mono ?_;rintro e w1 ⟨k1,n1,A1,l1,c1,rfl,hb1⟩;have hZ1:=bH hb1;have g1:Bw w w1:=bQ bw2 hb1;obtain ⟨d0,d1,d2,e0,e1,e2,lz⟩:=dA hZ1)
  refine bodyPost_ret (v:=.tuple #[.agg (Ro k1 n1 A1 l1 c1),.int .i64 (dL b)]) (by simp [results,results89,go_sem,d0,d1,d2]) rfl ⟨k1,n1,A1,l1,c1,rfl,?_⟩;exact bT g1
theorem aRl (ctx:List Tm)(C:Option Addr)(cc:Nat)(k n:Int)(ks:List Tm)(A:Option Addr)(c:Nat)(r:Rs Tm)(w:World)(q3:(k==3)=false)(q13:(k==13)=false)(q4:(k==4)=false)(q5:(k==5)=false)(q9:(k==9)=false)(qk:(k==10)=true)(hX:Hid (∀(w:World),Rd w C 0 ctx->Rd w A 0 ks->Calls prog 122 #[.slice C ctx.length cc,.agg (Ro k n A ks.length c)] w (oH w r)))(hnz:∀o,r = .ok o->oL o=true)(hrc:Rd w C 0 ctx)(hra:Rd w A 0 ks) :
  Calls prog 89 #[.slice C ctx.length cc,.agg (Ro k n A ks.length c)] w (oH w r):=by
 cases r with
 | ok o=>
  obtain ⟨k1,n1,s1⟩:=o;replace hnz:=hnz _ rfl;go_enter func89,ntmps89;go_wp2_with (go_at_call 122;refine (hX.out _ ((hrc.alloc _).alloc _) ((hra.alloc _).alloc _)).mono ?_;rintro e w1 ⟨A1,c1,rfl,hl1,r1,hb1⟩;have hZ1:=bH hb1;have g1:Bw w w1:=bQ bw2 hb1;obtain ⟨d0,d1,d2,e0,e1,e2,lz⟩:=dA hZ1)
  refine bodyPost_ret (v:=.tuple #[.agg (Ro k1 n1 A1 s1.length c1),.int .i64 0]) (by simp [results,results89,go_sem,d0,d1,d2]) rfl ⟨A1,c1,rfl,hl1,jL hZ1 hnz r1 _ _ _,?_⟩;exact bT g1
 | no b=>
  clear hnz;go_enter func89,ntmps89;go_wp2_with (go_at_call 122;refine (hX.out _ ((hrc.alloc _).alloc _) ((hra.alloc _).alloc _)).mono ?_;rintro e w1 ⟨k1,n1,A1,l1,c1,rfl,hb1⟩;have hZ1:=bH hb1;have g1:Bw w w1:=bQ bw2 hb1;obtain ⟨d0,d1,d2,e0,e1,e2,lz⟩:=dA hZ1)
  refine bodyPost_ret (v:=.tuple #[.agg (Ro k1 n1 A1 l1 c1),.int .i64 (dL b)]) (by simp [results,results89,go_sem,d0,d1,d2]) rfl ⟨k1,n1,A1,l1,c1,rfl,?_⟩;exact bT g1
theorem aSi (ctx:List Tm)(C:Option Addr)(cc:Nat)(k n:Int)(ks:List Tm)(A:Option Addr)(c:Nat)(r:Rs Tm)(w:World)(q3:(k==3)=false)(q13:(k==13)=false)(q4:(k==4)=false)(q5:(k==5)=false)(q9:(k==9)=false)(q10:(k==10)=false)(qk:(k==12)=true)(hX:Hid (∀(w:World),Rd w C 0 ctx->Rd w A 0 ks->Calls prog 123 #[.slice C ctx.length cc,.agg (Ro k n A ks.length c)] w (oH w r)))(hnz:∀o,r = .ok o->oL o=true)(hrc:Rd w C 0 ctx)(hra:Rd w A 0 ks) :
  Calls prog 89 #[.slice C ctx.length cc,.agg (Ro k n A ks.length c)] w (oH w r):=by
 cases r with
 | ok o=>
  obtain ⟨k1,n1,s1⟩:=o;replace hnz:=hnz _ rfl;go_enter func89,ntmps89;go_wp2_with (go_at_call 123;refine (hX.out _ ((hrc.alloc _).alloc _) ((hra.alloc _).alloc _)).mono ?_;rintro e w1 ⟨A1,c1,rfl,hl1,r1,hb1⟩;have hZ1:=bH hb1;have g1:Bw w w1:=bQ bw2 hb1;obtain ⟨d0,d1,d2,e0,e1,e2,lz⟩:=dA hZ1)
  refine bodyPost_ret (v:=.tuple #[.agg (Ro k1 n1 A1 s1.length c1),.int .i64 0]) (by simp [results,results89,go_sem,d0,d1,d2]) rfl ⟨A1,c1,rfl,hl1,jL hZ1 hnz r1 _ _ _,?_⟩;exact bT g1
 | no b=>
  clear hnz;go_enter func89,ntmps89;go_wp2_with (go_at_call 123;refine (hX.out _ ((hrc.alloc _).alloc _) ((hra.alloc _).alloc _)).mono ?_;rintro e w1 ⟨k1,n1,A1,l1,c1,rfl,hb1⟩;have hZ1:=bH hb1;have g1:Bw w w1:=bQ bw2 hb1;obtain ⟨d0,d1,d2,e0,e1,e2,lz⟩:=dA hZ1)
  refine bodyPost_ret (v:=.tuple #[.agg (Ro k1 n1 A1 l1 c1),.int .i64 (dL b)]) (by simp [results,results89,go_sem,d0,d1,d2]) rfl ⟨k1,n1,A1,l1,c1,rfl,?_⟩;exact bT g1
theorem aRk (ctx:List Tm)(C:Option Addr)(cc:Nat)(k n:Int)(ks:List Tm)(A:Option Addr)(c:Nat)(r:Rs Tm)(w:World)(q3:(k==3)=false)(q13:(k==13)=false)(q4:(k==4)=false)(q5:(k==5)=false)(q9:(k==9)=false)(q10:(k==10)=false)(q12:(k==12)=false)(qk:(k==14)=true)(hX:Hid (∀(w:World),Rd w C 0 ctx->Rd w A 0 ks->Calls prog 124 #[.slice C ctx.length cc,.agg (Ro k n A ks.length c)] w (oH w r)))(hnz:∀o,r = .ok o->oL o=true)(hrc:Rd w C 0 ctx)(hra:Rd w A 0 ks) :
  Calls prog 89 #[.slice C ctx.length cc,.agg (Ro k n A ks.length c)] w (oH w r):=by
 cases r with
 | ok o=>
  obtain ⟨k1,n1,s1⟩:=o;replace hnz:=hnz _ rfl;go_enter func89,ntmps89;go_wp2_with (go_at_call 124;refine (hX.out _ ((hrc.alloc _).alloc _) ((hra.alloc _).alloc _)).mono ?_;rintro e w1 ⟨A1,c1,rfl,hl1,r1,hb1⟩;have hZ1:=bH hb1;have g1:Bw w w1:=bQ bw2 hb1;obtain ⟨d0,d1,d2,e0,e1,e2,lz⟩:=dA hZ1)
  refine bodyPost_ret (v:=.tuple #[.agg (Ro k1 n1 A1 s1.length c1),.int .i64 0]) (by simp [results,results89,go_sem,d0,d1,d2]) rfl ⟨A1,c1,rfl,hl1,jL hZ1 hnz r1 _ _ _,?_⟩;exact bT g1
 | no b=>
  clear hnz;go_enter func89,ntmps89;go_wp2_with (go_at_call 124;refine (hX.out _ ((hrc.alloc _).alloc _) ((hra.alloc _).alloc _)).mono ?_;rintro e w1 ⟨k1,n1,A1,l1,c1,rfl,hb1⟩;have hZ1:=bH hb1;have g1:Bw w w1:=bQ bw2 hb1;obtain ⟨d0,d1,d2,e0,e1,e2,lz⟩:=dA hZ1)
  refine bodyPost_ret (v:=.tuple #[.agg (Ro k1 n1 A1 l1 c1),.int .i64 (dL b)]) (by simp [results,results89,go_sem,d0,d1,d2]) rfl ⟨k1,n1,A1,l1,c1,rfl,?_⟩;exact bT g1
theorem aQh (ctx:List Tm)(C:Option Addr)(cc:Nat)(k n:Int)(ks:List Tm)(A:Option Addr)(c:Nat)(r:Rs Tm)(w:World)(q3:(k==3)=false)(q13:(k==13)=false)(q4:(k==4)=false)(q5:(k==5)=false)(q9:(k==9)=false)(q10:(k==10)=false)(q12:(k==12)=false)(q14:(k==14)=false)(hX:Hid (∀(w:World),Rd w C 0 ctx->Rd w A 0 ks->Calls prog 125 #[.slice C ctx.length cc,.agg (Ro k n A ks.length c)] w (oH w r)))(hnz:∀o,r = .ok o->oL o=true)(hrc:Rd w C 0 ctx)(hra:Rd w A 0 ks) :
  Calls prog 89 #[.slice C ctx.length cc,.agg (Ro k n A ks.length c)] w (oH w r):=by
 cases r with
 | ok o=>
  obtain ⟨k1,n1,s1⟩:=o;replace hnz:=hnz _ rfl;go_enter func89,ntmps89;go_wp2_with (go_at_call 125;refine (hX.out _ ((hrc.alloc _).alloc _) ((hra.alloc _).alloc _)).mono ?_;rintro e w1 ⟨A1,c1,rfl,hl1,r1,hb1⟩;have hZ1:=bH hb1;have g1:Bw w w1:=bQ bw2 hb1;obtain ⟨d0,d1,d2,e0,e1,e2,lz⟩:=dA hZ1)
  refine bodyPost_ret (v:=.tuple #[.agg (Ro k1 n1 A1 s1.length c1),.int .i64 0]) (by simp [results,results89,go_sem,d0,d1,d2]) rfl ⟨A1,c1,rfl,hl1,jL hZ1 hnz r1 _ _ _,?_⟩;exact bT g1
 | no b=>
  clear hnz;go_enter func89,ntmps89;go_wp2_with (go_at_call 125;refine (hX.out _ ((hrc.alloc _).alloc _) ((hra.alloc _).alloc _)).mono ?_;rintro e w1 ⟨k1,n1,A1,l1,c1,rfl,hb1⟩;have hZ1:=bH hb1;have g1:Bw w w1:=bQ bw2 hb1;obtain ⟨d0,d1,d2,e0,e1,e2,lz⟩:=dA hZ1)
  refine bodyPost_ret (v:=.tuple #[.agg (Ro k1 n1 A1 l1 c1),.int .i64 (dL b)]) (by simp [results,results89,go_sem,d0,d1,d2]) rfl ⟨k1,n1,A1,l1,c1,rfl,?_⟩;exact bT g1
theorem kq {k x:Int}(h:¬k=x):(k==x)=false:=by simpa using h
theorem aDo {N:Nat}(ih:nW N)(ctx:List Tm)(C:Option Addr)(cc:Nat)(k n:Int)(ks:List Tm)(A:Option Addr)(c:Nat)(r:Rs Tm)(w:World)(hv:aE (.mk k n ks)=true)(hk:¬(k=3\/k=13)/\¬k=4/\¬k=5/\¬k=9/\¬k=10/\¬k=12/\¬k=14)(hs:fS (bJ N) ctx (.mk k n ks)=some r)(hvc:∀u,u∈ctx->aE u=true)(hm:ctx.length<=20)(hrc:Rd w C 0 ctx)(hr:Rd w A 0 ks) :
  Calls prog 125 #[.slice C ctx.length cc,.agg (Ro k n A ks.length c)] w (oH w r):=by
 obtain ⟨hk3,hk4,hk5,hk9,hk10,hk12,hk14⟩:=hk;have hlen:=eW hv;have hnz:∀o,r = .ok o->oL o=true:=λ o ho=>(aCi hv hvc (by rw [hs,ho])).1
 obtain ⟨q,_,_,hn0,hn1,_⟩:=bX (aW hv);have hs0:=hs;rw [fS,if_neg hk3,if_neg hk4,if_neg hk5,if_neg hk9,if_neg hk10,if_neg hk12,if_neg hk14] at hs;by_cases h1:k=1
 ·subst h1;rw [if_pos rfl] at hs;have hn20:n<=20:=hn1;exact aBb ctx C cc n A c ks r w ⟨hn0,hn20⟩ hvc hm hs hrc
 rw [if_neg h1] at hs;by_cases h267:k=2\/k=6\/k=7
 ·have hn20:n<=20:=by
   rcases h267 with rfl|rfl|rfl
   ·have:n<=3:=hn1;omega
   ·have:n<=0:=hn1;omega
   ·have:n<=0:=hn1;omega
  exact aBf (N:=N) ctx C cc n A c k ks r w ⟨hn0,hn20⟩ h267 hs0
 rw [if_neg (λ h=>h267 (.inl h)),if_neg (λ h=>h267 (.inr (.inl h))),if_neg (λ h=>h267 (.inr (.inr h)))] at hs;by_cases h8:k=8
 ·subst h8;rw [if_pos rfl] at hs;have h0:aK 8=1:=rfl;obtain ⟨⟨ka,na,sa⟩,rfl⟩:=aKh (ks:=ks) (by omega);exact aBl ih ctx C cc n A c ka na sa r w hs (aV (i:=0) hv (by simp)) hvc hm hrc hr
 rw [if_neg h8] at hs;by_cases h11:k=11
 ·subst h11;rw [if_pos rfl] at hs;have h0:aK 11=1:=rfl;obtain ⟨⟨ka,na,sa⟩,rfl⟩:=aKh (ks:=ks) (by omega);exact aCf ih ctx C cc n A c ka na sa r w hs (aV (i:=0) hv (by simp)) hvc hm hrc hr
 rw [if_neg h11] at hs;have hk15:=aHx (aW hv) ⟨hk3,hk4,hk5,hk9,hk10,hk12,hk14,h1,λ h=>h267 (.inl h),λ h=>h267 (.inr (.inl h)),λ h=>h267 (.inr (.inr h)),h8,h11⟩;have h0:aK k=1:=by rcases hk15 with rfl|rfl<;>rfl
 obtain ⟨⟨ka,na,sa⟩,rfl⟩:=aKh (ks:=ks) (by omega);exact aBd ctx C cc k n [.mk ka na sa] A c r w (kq h1) (kq (λ h=>h267 (.inl h))) (kq (λ h=>h267 (.inr (.inl h)))) (kq (λ h=>h267 (.inr (.inr h)))) (kq h8) (kq h11) (aD (λ w hrc hr=>aKn ih ctx C cc k n A c ka na sa r w hs (aV (i:=0) hv (by simp)) hvc hm hrc hr)) hnz hrc hr
theorem zJ {N:Nat}(ih:nW N)(ctx:List Tm)(C:Option Addr)(cc:Nat)(k n:Int)(ks:List Tm)(A:Option Addr)(c:Nat)(r:Rs Tm)(w:World)(hv:aE (.mk k n ks)=true)(hs:fS (bJ N) ctx (.mk k n ks)=some r)(hvc:∀u,u∈ctx->aE u=true)(hm:ctx.length<=20)(hrc:Rd w C 0 ctx)(hr:Rd w A 0 ks) :
  Calls prog 89 #[.slice C ctx.length cc,.agg (Ro k n A ks.length c)] w (oH w r):=by
 have hlen:=eW hv;have hnz:∀o,r = .ok o->oL o=true:=λ o ho=>(aCi hv hvc (by rw [hs,ho])).1
 have hs0:=hs;rw [fS] at hs;by_cases h3:k=3\/k=13
 ·rw [if_pos h3] at hs;have h0:aK k=2:=by rcases h3 with rfl|rfl<;>rfl
  obtain ⟨⟨ka,na,sa⟩,⟨kb,nb,sb⟩,rfl⟩:=aJq (ks:=ks) (by omega);exact aSq ctx C cc k n _ A c r w (by rcases h3 with rfl|rfl<;>decide) (aD (λ w hrc hr=>qZ ih ctx C cc k n A c ka na sa kb nb sb r w hs (aV (i:=0) hv (by simp)) (aV (i:=1) hv (by simp)) hvc hm hrc hr)) hnz hrc hr
 rw [if_neg h3] at hs;have q3:(k==3)=false:=kq (λ h=>h3 (.inl h));have q13:(k==13)=false:=kq (λ h=>h3 (.inr h));by_cases h4:k=4
 ·rw [if_pos h4] at hs;have h0:aK k=2:=by rw [h4];rfl
  obtain ⟨⟨ka,na,sa⟩,⟨kb,nb,sb⟩,rfl⟩:=aJq (ks:=ks) (by omega);exact aQb ctx C cc k n _ A c r w q3 q13 (by simpa using h4) (aD (λ w hrc hr=>aMs ih ctx C cc k n A c ka na sa kb nb sb r w hs (aV (i:=0) hv (by simp)) (aV (i:=1) hv (by simp)) hvc hm hrc hr)) hnz hrc hr
 rw [if_neg h4] at hs;by_cases h5:k=5
 ·rw [if_pos h5] at hs;have h0:aK k=2:=by rw [h5];rfl
  obtain ⟨⟨ka,na,sa⟩,⟨kb,nb,sb⟩,rfl⟩:=aJq (ks:=ks) (by omega);exact aRv ctx C cc k n _ A c r w q3 q13 (kq h4) (by simpa using h5) (aD (λ w hrc hr=>aLo ih ctx C cc k n A c ka na sa kb nb sb r w hs (aV (i:=0) hv (by simp)) (aV (i:=1) hv (by simp)) hvc hm hrc hr)) hnz hrc hr
 rw [if_neg h5] at hs;by_cases h9:k=9
 ·rw [if_pos h9] at hs;have h0:aK k=4:=by rw [h9];rfl
  obtain ⟨⟨ka,na,sa⟩,⟨kb,nb,sb⟩,⟨kd,nd,sd⟩,⟨ke,ne,se⟩,rfl⟩:=aXq (ks:=ks) (by omega);exact aSl ctx C cc k n _ A c r w q3 q13 (kq h4) (kq h5) (by simpa using h9) (aD (λ w hrc hr=>aKf ih ctx C cc k n A c ka na sa kb nb sb kd nd sd ke ne se r w hs (aV (i:=0) hv (by simp)) (aV (i:=1) hv (by simp)) (aV (i:=2) hv (by simp)) (aV (i:=3) hv (by simp)) hvc hm hrc hr)) hnz hrc hr
 rw [if_neg h9] at hs;by_cases h10:k=10
 ·rw [if_pos h10] at hs;have h0:aK k=3:=by rw [h10];rfl
  obtain ⟨⟨ka,na,sa⟩,⟨kb,nb,sb⟩,⟨kd,nd,sd⟩,rfl⟩:=aGe (ks:=ks) (by omega);exact aRl ctx C cc k n _ A c r w q3 q13 (kq h4) (kq h5) (kq h9) (by simpa using h10) (aD (λ w hrc hr=>aRh ih ctx C cc k n A c ka na sa kb nb sb kd nd sd r w hs (aV (i:=0) hv (by simp)) (aV (i:=1) hv (by simp)) (aV (i:=2) hv (by simp)) hvc hm hrc hr)) hnz hrc hr
 rw [if_neg h10] at hs;by_cases h12:k=12
 ·rw [if_pos h12] at hs;have h0:aK k=3:=by rw [h12];rfl
  obtain ⟨⟨ka,na,sa⟩,⟨kb,nb,sb⟩,⟨kd,nd,sd⟩,rfl⟩:=aGe (ks:=ks) (by omega);exact aSi ctx C cc k n _ A c r w q3 q13 (kq h4) (kq h5) (kq h9) (kq h10) (by simpa using h12) (aD (λ w hrc hr=>aIz ih ctx C cc k n A c ka na sa kb nb sb kd nd sd r w hs (aV (i:=0) hv (by simp)) (aV (i:=1) hv (by simp)) (aV (i:=2) hv (by simp)) hvc hm hrc hr)) hnz hrc hr
 rw [if_neg h12] at hs;by_cases h14:k=14
 ·rw [if_pos h14] at hs;have h0:aK k=3:=by rw [h14];rfl
  obtain ⟨⟨ka,na,sa⟩,⟨kb,nb,sb⟩,⟨kd,nd,sd⟩,rfl⟩:=aGe (ks:=ks) (by omega);exact aRk ctx C cc k n _ A c r w q3 q13 (kq h4) (kq h5) (kq h9) (kq h10) (kq h12) (by simpa using h14) (aD (λ w hrc hr=>aJw ih ctx C cc k n A c ka na sa kb nb sb kd nd sd r w hs (aV (i:=0) hv (by simp)) (aV (i:=1) hv (by simp)) (aV (i:=2) hv (by simp)) hvc hm hrc hr)) hnz hrc hr
 exact aQh ctx C cc k n ks A c r w q3 q13 (kq h4) (kq h5) (kq h9) (kq h10) (kq h12) (kq h14) (aD (λ w hrc hr=>aDo ih ctx C cc k n ks A c r w hv ⟨h3,h4,h5,h9,h10,h12,h14⟩ hs0 hvc hm hrc hr)) hnz hrc hr
theorem aKp {N:Nat}(ih:nW N):nW (N+1):=by
 intro ctx k n ks r hs hv hvc hm C cc A c w hrc hr;have hM:=aJ hv;have hv':=aD hv;rw [bJ] at hs;by_cases hl:ctx.length<=20
 ·rw [if_pos ⟨hv,hl⟩] at hs;have ql:decide ((20:Int)<(ctx.length:Int))=false:=decide_eq_false (by omega);have ql2:decide (20<ctx.length)=false:=decide_eq_false (by omega);rcases aO hs with ⟨b,h1,rfl⟩|⟨⟨k3,n3,s3⟩,h1,hs⟩
  ·have hK:=aD (λ (w:World) (hrc:Rd w C 0 ctx) (hr:Rd w A 0 ks)=>zJ ih ctx C cc k n ks A c _ w hv h1 hvc hl hrc hr);have qb:=fF b;clear hs h1 hv hvc ih;go_enter func68,ntmps68;go_wp2_with (first
    | (go_at_call 89;have _t:=tok;refine (hK.out _ (hrc.below g1) (hr.below g1)).mono ?_;rintro e w2 ⟨k3,n3,A3,l3,c3,rfl,hb2⟩;have hZ2:=(hZ1.keep hb2).alloc (.cells (Ro k3 n3 A3 l3 c3) 25);have g2:=(g1.trans (hb2.mono g1.size)).alloc (by have:=g1.size;have:=hb2.size;omega) (.cells (Ro k3 n3 A3 l3 c3) 25);clear d0 d1 d2 e0 e1 e2 lz;obtain ⟨d0,d1,d2,e0,e1,e2,lz⟩:=dA hZ2;clear tok;have tok2:=trivial)
    | (go_at_call 21;refine (aU k n ks A c _ (by omega) ((hr.alloc _).alloc _)).mono ?_;rw [hv'.out];rintro e w1 ⟨rfl,hb1⟩;have hT1:=cV hb1;have hZ1:=bH hb1;have g1:Bw w w1:=bQ bw2 hb1;obtain ⟨x0,x1,x2⟩:=hT1.three;obtain ⟨d0,d1,d2,e0,e1,e2,lz⟩:=dA hZ1;have tok:=trivial))
   refine bodyPost_ret (v:=.tuple #[.agg Zr,.int .i64 (dL b)]) (by simp [results,results68,go_sem,d0,d1,d2]) rfl ⟨rfl,?_⟩;exact bT g2
  ·have hK:=aD (λ (w:World) (hrc:Rd w C 0 ctx) (hr:Rd w A 0 ks)=>zJ ih ctx C cc k n ks A c _ w hv h1 hvc hl hrc hr);have hnz:=aCi hv hvc h1;have hz3:aH s3<=1000000:=by have:=hnz.2;rw [Tm.size] at this;omega
   unfold eC at hs
   cases hvv:aE (.mk k3 n3 s3) with
   | false=>
    rw [if_neg (by rw [hvv];decide)] at hs;injection hs with hs;subst hs;have hvo:=aD hvv;clear h1 hv hvc ih hvv hnz;go_enter func68,ntmps68;go_wp2_with (first
     | (go_at_call 21;have _t:=tok2;refine (aU k3 n3 s3 A3 c3 _ (by omega) r4).mono ?_;rw [hvo.out];rintro e w3 ⟨rfl,hb3⟩;have hZ3:=hZ2.keep hb3;have hG3:=hG2.keep hb3;have g3:=g2.trans (hb3.mono g2.size);have r5:=r4.below hb3;clear y0 y1 y2 d0 d1 d2 e0 e1 e2 lz;obtain ⟨y0,y1,y2⟩:=hG3.three;obtain ⟨d0,d1,d2,e0,e1,e2,lz⟩:=dA hZ3)
     | (go_at_call 89;have _t:=tok;refine (hK.out _ (hrc.below g1) (hr.below g1)).mono ?_;rintro e w2 ⟨A3,c3,rfl,hl3,r3,hb2⟩;have hZ2:=(hZ1.keep hb2).alloc (.cells (Ro k3 n3 A3 s3.length c3) 25);have g2:=(g1.trans (hb2.mono g1.size)).alloc (by have:=g1.size;have:=hb2.size;omega) (.cells (Ro k3 n3 A3 s3.length c3) 25);have r4:=r3.alloc (.cells (Ro k3 n3 A3 s3.length c3) 25);have hG2:=aC w2 25 (Ro k3 n3 A3 s3.length c3) rfl;obtain ⟨y0,y1,y2⟩:=hG2.three;clear d0 d1 d2 e0 e1 e2 lz;obtain ⟨d0,d1,d2,e0,e1,e2,lz⟩:=dA hZ2;clear tok;have tok2:=trivial)
     | (go_at_call 21;refine (aU k n ks A c _ (by omega) ((hr.alloc _).alloc _)).mono ?_;rw [hv'.out];rintro e w1 ⟨rfl,hb1⟩;have hT1:=cV hb1;have hZ1:=bH hb1;have g1:Bw w w1:=bQ bw2 hb1;obtain ⟨x0,x1,x2⟩:=hT1.three;obtain ⟨d0,d1,d2,e0,e1,e2,lz⟩:=dA hZ1;have tok:=trivial))
    refine bodyPost_ret (v:=.tuple #[.agg Zr,.int .i64 2]) (by simp [results,results68,go_sem,d0,d1,d2]) rfl ⟨rfl,?_⟩;exact bT g3
   | true=>
    rw [if_pos hvv] at hs;injection hs with hs;subst hs;have hvo:=aD hvv;clear h1 hv hvc ih hvv hnz;go_enter func68,ntmps68;go_wp2_with (first
     | (go_at_call 21;have _t:=tok2;refine (aU k3 n3 s3 A3 c3 _ (by omega) r4).mono ?_;rw [hvo.out];rintro e w3 ⟨rfl,hb3⟩;have hZ3:=hZ2.keep hb3;have hG3:=hG2.keep hb3;have g3:=g2.trans (hb3.mono g2.size);have r5:=r4.below hb3;clear y0 y1 y2 d0 d1 d2 e0 e1 e2 lz;obtain ⟨y0,y1,y2⟩:=hG3.three;obtain ⟨d0,d1,d2,e0,e1,e2,lz⟩:=dA hZ3)
     | (go_at_call 89;have _t:=tok;refine (hK.out _ (hrc.below g1) (hr.below g1)).mono ?_;rintro e w2 ⟨A3,c3,rfl,hl3,r3,hb2⟩;have hZ2:=(hZ1.keep hb2).alloc (.cells (Ro k3 n3 A3 s3.length c3) 25);have g2:=(g1.trans (hb2.mono g1.size)).alloc (by have:=g1.size;have:=hb2.size;omega) (.cells (Ro k3 n3 A3 s3.length c3) 25);have r4:=r3.alloc (.cells (Ro k3 n3 A3 s3.length c3) 25);have hG2:=aC w2 25 (Ro k3 n3 A3 s3.length c3) rfl;obtain ⟨y0,y1,y2⟩:=hG2.three;clear d0 d1 d2 e0 e1 e2 lz;obtain ⟨d0,d1,d2,e0,e1,e2,lz⟩:=dA hZ2;clear tok;have tok2:=trivial)
     | (go_at_call 21;refine (aU k n ks A c _ (by omega) ((hr.alloc _).alloc _)).mono ?_;rw [hv'.out];rintro e w1 ⟨rfl,hb1⟩;have hT1:=cV hb1;have hZ1:=bH hb1;have g1:Bw w w1:=bQ bw2 hb1;obtain ⟨x0,x1,x2⟩:=hT1.three;obtain ⟨d0,d1,d2,e0,e1,e2,lz⟩:=dA hZ1;have tok:=trivial))
    refine bodyPost_ret (v:=.tuple #[.agg (Ro k3 n3 A3 s3.length c3),.int .i64 0]) (by simp [results,results68,go_sem,d0,d1,d2]) rfl ⟨A3,c3,rfl,hl3,iG hZ3 hvo.out r5 _ _ _,?_⟩;exact bT g3
 ·rw [if_neg (λ h=>hl h.2)] at hs;injection hs with hs;subst hs;have ql:decide ((20:Int)<(ctx.length:Int))=true:=decide_eq_true (by omega);have ql2:decide (20<ctx.length)=true:=decide_eq_true (by omega);clear hv hvc ih;go_enter func68,ntmps68;go_wp2_with (go_at_call 21;refine (aU k n ks A c _ (by omega) ((hr.alloc _).alloc _)).mono ?_;rw [hv'.out];rintro e w1 ⟨rfl,hb1⟩;have hT1:=cV hb1;have hZ1:=bH hb1;have g1:Bw w w1:=bQ bw2 hb1;obtain ⟨x0,x1,x2⟩:=hT1.three;obtain ⟨d0,d1,d2,e0,e1,e2,lz⟩:=dA hZ1;have tok:=trivial)
  refine bodyPost_ret (v:=.tuple #[.agg Zr,.int .i64 2]) (by simp [results,results68,go_sem,d0,d1,d2]) rfl ⟨rfl,?_⟩;exact bT g1
theorem sL:∀N,nW N
 | 0=>λ _ _ _ _ _ h=>by cases h
 | N+1=>aKp (sL N)
def yB (ctx:List Tm):Bool:=ctx.all (λ t=>aE t) && decide (ctx.length<=8)
def ccG (N:Nat)(ctx:List Tm):Nat->Option Int
 | 0=>some 0
 | m+1=>match iW (bJ N) (ctx.take (ctx.length - (m+1))) (ctx.getD (ctx.length - (m+1)) default) with
  | none=>none
  | some (.no b)=>some (dL b)
  | some (.ok _)=>ccG N ctx m
def ccR (N:Nat)(ctx:List Tm):Option Int:=if yB ctx=true then ccG N ctx ctx.length else some 3
theorem aLy {ctx:List Tm}(h:yB ctx=true):(∀u,u∈ctx->aE u=true)/\ctx.length<=8:=by
 simp only [yB,Bool.and_eq_true,List.all_eq_true,decide_eq_true_eq] at h
 exact h
theorem Rd.take {w:World}{A:Option Addr}:∀{ts:List Tm} {i:Nat} (n:Nat),Rd w A i ts->Rd w A i (ts.take n)
 | [],i,n,h=>by simpa using h
 | t::ts,i,0,h=>Rd.nil
 | t::ts,i,n+1,h=>by
  rw [List.take_succ_cons];exact Rd.cons_iff.2 ⟨(Rd.cons_iff.1 h).1,Rd.take n (Rd.cons_iff.1 h).2⟩
theorem sZ (ctx:List Tm)(C:Option Addr)(cc:Nat)(w:World)(hsz:aH ctx<=1000000)(hrc:Rd w C 0 ctx) :
  Calls prog 44 #[.slice C ctx.length cc] w λ e w'=>e = .returned (.bool (yB ctx))/\Bw w w':=by
 have hlen:=aQ ctx;obtain ⟨bb,hbb⟩:∃b,yB ctx=b:=⟨_,rfl⟩;rw [hbb];replace hbb:=aD hbb;go_enter func44,ntmps44;go_wp2_with fail
 go_loopw [3] (λ jv wr=>∃j:Nat,j<=ctx.length/\jv = .int .i64 j/\Hid (∀i (hi:i<ctx.length),i<j->aE ctx[i]=true)/\Bw w wr) (λ jv _=>ctx.length - (intOf jv).toNat)
 case atStart=>exact ⟨0,Nat.zero_le _,rfl,aD (λ i hi h=>absurd h (by omega)),fG _ _⟩
 case round=>
  obtain ⟨j,hj,rfl,hval,hb⟩:=hrel;by_cases hlt:j<ctx.length
  ·obtain ⟨b,off,k',n',ks',A',c',rfl,hkj,hc1,hc2,hc3,hl',hr'⟩:=(hrc.below hb).at_ hlt;have hsz2:=cM (iS hlt);rw [hkj] at hsz2;simp only [Tm.size] at hsz2
   have H5:=aD hkj;have hlk:(j:Int)<(ctx.length:Int):=by omega
   cases hvv:aE (.mk k' n' ks') with
   | false=>
    have hv':=aD hvv;obtain rfl:bb=false:=by
     rw [<- hbb.out];unfold yB
     rw [Bool.and_eq_false_iff];left
     rw [List.all_eq_false];exact ⟨ctx[j],iS hlt,by rw [hkj,hvv];decide⟩
    clear hkj hvv;go_wp2_with (go_at_call 21;refine (aU k' n' ks' A' c' _ (by omega) hr').mono ?_;rw [hv'.out];rintro e w2 ⟨rfl,hb2⟩)
    go_ret
    exact ⟨rfl,hb.trans (hb2.mono hb.size)⟩
   | true=>
    have hv':=aD hvv;clear hkj hvv;go_wp2_with (go_at_call 21;refine (aU k' n' ks' A' c' _ (by omega) hr').mono ?_;rw [hv'.out];rintro e w2 ⟨rfl,hb2⟩)
    refine ⟨⟨j+1,by omega,by go_num,aD (λ i hi hij=>?_),hb.trans (hb2.mono hb.size)⟩,by simp [intOf];omega⟩;by_cases hij2:i=j
    ·subst hij2;rw [H5.out];exact hv'.out
    ·exact hval.out i hi (by omega)
  ·have hje:j=ctx.length:=by omega
   subst hje;have hall:ctx.all (λ t=>aE t)=true:=by
    rw [List.all_eq_true];intro u hu;obtain ⟨i,hi,rfl⟩:=List.mem_iff_getElem.1 hu;exact hval.out i hi hi
   have hq:decide ((ctx.length:Int)<=8)=bb:=by
    rw [<- hbb.out];unfold yB
    rw [hall,Bool.true_and];rw [decide_eq_decide];omega
   have hq2:decide (ctx.length<=8)=bb:=by
    rw [<- hbb.out];unfold yB
    rw [hall,Bool.true_and]
   go_wp2_with fail
   go_ret
   exact ⟨rfl,hb⟩
theorem yL (N:Nat)(ctx:List Tm)(C:Option Addr)(cc:Nat)(co:Int)(w:World)(hs:ccR N ctx=some co)(hcc:ctx.length<=cc)(hsz:aH ctx<=1000000)(hrc:Rd w C 0 ctx) :
  Calls prog 66 #[.slice C ctx.length cc] w λ e w'=>e = .returned (.int .i64 co)/\Bw w w':=by
 have hlen:=aQ ctx;have hF:=aD (λ (w:World) (hrc:Rd w C 0 ctx)=>sZ ctx C cc w hsz hrc);unfold ccR at hs
 cases hf:yB ctx with
 | false=>
  rw [hf,if_neg (by decide)] at hs;injection hs with hs;subst hs;rw [hf] at hF;clear hf;go_enter func66,ntmps66;go_wp2_with (go_at_call 44;refine (hF.out _ hrc).mono ?_;rintro e w1 ⟨rfl,hb1⟩)
  go_ret
  exact ⟨rfl,hb1⟩
 | true=>
  rw [hf,if_pos rfl] at hs;rw [hf] at hF;have hi:=aLy hf;have hl8:=hi.2;have hvc:=aD hi.1;replace hs:=aD hs;clear hf hi;go_enter func66,ntmps66;go_wp2_with (go_at_call 44;refine (hF.out _ hrc).mono ?_;rintro e w1 ⟨rfl,hb1⟩)
  go_loopw [3] (λ jv wr=>∃j:Nat,j<=ctx.length/\jv = .int .i64 j/\Hid (ccG N ctx (ctx.length - j)=some co)/\Bw w wr) (λ jv _=>ctx.length - (intOf jv).toNat)
  case atStart=>exact ⟨0,Nat.zero_le _,rfl,hs,hb1⟩
  case round=>
   obtain ⟨j,hj,rfl,hinv,hb⟩:=hrel;by_cases hlt:j<ctx.length
   ·obtain ⟨b,off,k',n',ks',A',c',rfl,hkj,hc1,hc2,hc3,hl',hr'⟩:=(hrc.below hb).at_ hlt;have hvk:=hvc.out _ (iS hlt);rw [hkj] at hvk;have hlk:(j:Int)<(ctx.length:Int):=by omega
    have hst:=hinv.out;rw [show ctx.length - j=(ctx.length - j - 1)+1 by omega,ccG,show ctx.length - (ctx.length - j - 1+1)=j by omega,show ctx.getD j default = .mk k' n' ks' by rw [<- hkj];simp [List.getD,oE hlt]] at hst;obtain ⟨cx,hcx⟩:∃cx,ctx.take j=cx:=⟨_,rfl⟩;have hcl:cx.length=j:=by rw [<- hcx];simp;omega
    have hcv:∀u,u∈cx->aE u=true:=by rw [<- hcx];exact λ u hu=>hvc.out u (List.mem_of_mem_take hu)
    have hrx:=λ (w':World) (h:Rd w' (some ⟨b,off,none⟩) 0 ctx)=>show Rd w' (some ⟨b,off,none⟩) 0 cx by rw [<- hcx];exact h.take j
    replace hrx:=aD hrx;rw [hcx] at hst;clear hcx;cases hr0:iW (bJ N) cx (.mk k' n' ks') with
    | none=>rw [hr0] at hst;cases hst
    | some rr=>
     have hS:=aD (λ (w:World) (hrc:Rd w (some ⟨b,off,none⟩) 0 cx) (hra:Rd w A' 0 ks')=>eA (sL N) cx (some ⟨b,off,none⟩) cc k' n' ks' A' c' rr w hr0 hvk hcv (by omega) hrc hra);rw [hcl] at hS;rw [hr0] at hst;have hjc:j<=cc:=by omega
     have hjc2:(j:Int)<=(cc:Int):=by omega
     cases rr with
     | no b2=>
      injection hst with hst;subst hst;have qb:=fF b2;clear hr0 hvk hcv hkj;go_upto_region 6 with fail
      obtain ⟨y1,y2,y3⟩:=rN hc1 hc2 hc3;clear hc1 hc2 hc3;have kwwr:=hb;refine dX wr [8,9,10,11,12] [0,1,2,3,4,5,6] 13 6 (lT:=[_,_,_,_,_,_,_]) ?_;intro q0 bq0;refine bV (aD ?_);refine bG 7 ?_
      ·go_wp2_with (go_at_call 67;refine (hS.out _ (hrx.out _ ((hrc.below kwwr).below bq0)) (hr'.below bq0)).mono ?_;rintro e q1 ⟨l3,rfl,hbq1⟩)
       refine aY bq0 hbq1 ?_;intro bq1 lq1;refine eS [8,9,10] 2 (lT:=[_,_,_]) ?_;refine bV (aD ?_);refine cD [11,12] (lB:=[_,_]) ?_;refine gS (aD ?_);have kwq1:=kwwr.trans (bq1.mono kwwr.size);have kwrq1:=bq1;go_wp2_with fail
       go_ret
       exact ⟨rfl,kwq1⟩
     | ok l2=>
      have hst':=aD (show ccG N ctx (ctx.length - (j+1))=some co from hst);clear hr0 hvk hcv hkj hst;go_upto_region 6 with fail
      obtain ⟨y1,y2,y3⟩:=rN hc1 hc2 hc3;clear hc1 hc2 hc3;have kwwr:=hb;refine dX wr [8,9,10,11,12] [0,1,2,3,4,5,6] 13 6 (lT:=[_,_,_,_,_,_,_]) ?_;intro q0 bq0;refine bV (aD ?_);refine bG 7 ?_
      ·go_wp2_with (go_at_call 67;refine (hS.out _ (hrx.out _ ((hrc.below kwwr).below bq0)) (hr'.below bq0)).mono ?_;rintro e q1 ⟨rfl,hbq1⟩)
       refine aY bq0 hbq1 ?_;intro bq1 lq1;refine eS [8,9,10] 2 (lT:=[_,_,_]) ?_;refine bV (aD ?_);refine cD [11,12] (lB:=[_,_]) ?_;refine gS (aD ?_);have kwq1:=kwwr.trans (bq1.mono kwwr.size);have kwrq1:=bq1;go_wp2_with fail
       exact ⟨⟨j+1,by omega,by go_num,hst',kwq1⟩,by simp [intOf];omega⟩
   ·have hje:j=ctx.length:=by omega
    subst hje;obtain rfl:co=0:=by have:=hinv.out;rw [Nat.sub_self,ccG] at this;injection this with this;exact this.symm
    go_wp2_with fail
    go_ret
    exact ⟨rfl,hb⟩
theorem aJg (k n:Int)(ks:List Tm)(A:Option Addr)(c:Nat)(w:World)(hv:aE (.mk k n ks)=true)(hr:Rd w A 0 ks) :
  Calls prog 57 #[.agg (Ro k n A ks.length c)] w λ e w'=>e = .returned (.bool false)/\Bw w w':=by
 have hz:=aJ hv;have hv':=aD hv;clear hv;go_enter func57,ntmps57;go_wp2_with (go_at_call 28;refine (bM k n ks A c _ (by omega) (hr.alloc _)).mono ?_;rw [hv'.out];rintro e w1 ⟨rfl,hb1⟩;have g1:Bw w w1:=bQ bw1 hb1)
 go_ret
 exact ⟨rfl,g1⟩
theorem aJa (ts:List Tm)(A:Option Addr)(c:Nat)(w:World)(hl:ts.length<=1000000)(hts:∀u,u∈ts->aE u=true)(hr:Rd w A 0 ts) :
  Calls prog 79 #[.slice A ts.length c,.func (.func 57) #[] #[]] w λ e w'=>e = .returned (.int .i64 (-1))/\Bw w w':=by
 go_enter func79,ntmps79;go_wp2_with fail
 go_loopw [8] (λ i wr=>∃j:Nat,j<=ts.length/\i = .int .i64 j/\Bw w wr)
  (λ i _ => ts.length - (intOf i).toNat)
 case atStart=>exact ⟨0,Nat.zero_le _,rfl,fG _ _⟩
 case round=>
  obtain ⟨j,hj,rfl,hb⟩:=hrel;by_cases hlt:j<ts.length
  ·obtain ⟨b,off,k1,n1,ks1,A1,c1,rfl,hkj,hc1,hc2,hc3,hl1,hr1⟩:=(hr.below hb).at_ hlt;have hv1:=hts _ (iS hlt);rw [hkj] at hv1;have hv1':=aD hv1;clear hkj hv1;go_wp2_with (go_at_call 57;refine (aJg k1 n1 ks1 A1 c1 _ hv1'.out hr1).mono ?_;rintro e w3 ⟨rfl,hb3⟩)
   go_roundw
   case rel=>exact ⟨j+1,by omega,by go_num,hb.trans (hb3.mono hb.size)⟩
   case measure=>simp [intOf];omega
  ·go_wp2_with fail
   go_ret
   exact ⟨rfl,hb⟩
theorem aOb (ts:List Tm)(A:Option Addr)(c:Nat)(w:World)(hl:ts.length<=1000000)(hts:∀u,u∈ts->aE u=true)(hr:Rd w A 0 ts) :
  Calls prog 56 #[.slice A ts.length c,.func (.func 57) #[] #[]] w λ e w'=>e = .returned (.bool false)/\Bw w w':=by
 have htsh:=aD hts;clear hts;go_enter func56,ntmps56;go_wp2_with (go_at_call 79;refine (aJa ts A c _ hl htsh.out hr).mono ?_;rintro e w1 ⟨rfl,hb1⟩)
 go_ret
 exact ⟨rfl,hb1⟩
end Go.Proofs.YtajjhldcjikkpaaGreat
