/- Parts of the proof. No condition. -/
import Derived.Test.YtajjhldcjikkpaaGreatK17
import Derived.Test.YtajjhldcjikkpaaGreatK20
import Derived.Test.YtajjhldcjikkpaaGreatK21
open Go.Proofs.Tryz
namespace Go.Proofs.YtajjhldcjikkpaaGreat
open Go.RowKit
set_option maxHeartbeats 8000000
set_option maxRecDepth 100000
set_option linter.unusedSimpArgs false
set_option linter.unusedVariables false
def mR (t:Tm):Int × Bool:=match iC t with|some m=>if m≤20 then ((m:Int),true) else (0,false)|none=>(0,false)
theorem oX {t:Tm}{m:Nat}(h:iC t=some m)(hm:m≤20):mR t=((m:Int),true):=by rw [mR,h];exact if_pos hm
theorem wD {t:Tm}{m:Nat}(h:iC t=some m)(hm:¬m≤20):mR t=(0,false):=by rw [mR,h];exact if_neg hm
theorem tH {t:Tm}(h:iC t=none):mR t=(0,false):=by rw [mR,h]
theorem zQ {q:Nat}{n:Int}{ks:List Tm}(hs:shape q (.mk 8 n ks)=true):∃(q':Nat) (u:Tm),q=q'+1∧ks=[u]∧shape q' u=true∧iC (.mk 8 n ks)=(iC u).map (·+1):=by
 obtain ⟨q',rfl,ha,_,_,hk⟩:=bX hs;obtain ⟨u,rfl⟩:=aHl ha rfl;exact ⟨q',u,rfl,rfl,hk u List.mem_cons_self,by rw [iC,if_pos rfl,aRh]⟩
theorem zW {n:Int}{ks:List Tm}:iC (.mk 7 n ks)=some 0:=by rw [iC,if_neg (by decide),if_pos rfl]
theorem aHq {k n:Int}{ks:List Tm}(h8:¬k=8)(h7:¬k=7):iC (.mk k n ks)=none:=by rw [iC,if_neg h8,if_neg h7]
theorem uD (k n:Int)(ks:List Tm)(A:Option Addr)(c:Nat)(w:World)(hv:aE (.mk k n ks)=true)(hr:Rd w A 0 ks) :
  Calls prog 20 #[.agg (Ro k n A ks.length c)] w fun e w'=>e = .returned (.tuple #[.int .i64 (mR (.mk k n ks)).1,.bool (mR (.mk k n ks)).2])∧Bw w w':=by
 have hz:=aJ hv;have hlk:ks.length≤9223372036854775807:=by have:=aQ ks;omega
 have hsh:=aD (aW hv);have hv':=aD hv;clear hv;obtain ⟨x,hx⟩:∃x,x=mR (.mk k n ks):=⟨_,rfl⟩;rw [← hx];replace hx:=aD hx;obtain ⟨x1,x2⟩:=x;have hrp:=hr.rdp;go_enter func20,ntmps20;go_wp2_with (go_at_call 28;refine (bN k n ks A c _ (by omega) (hr.alloc _)).mono ?_;rw [hv'.out];rintro e wv ⟨rfl,hbv⟩;have hB:=(aC w 25 (Ro k n A ks.length c) rfl).keep hbv;have gv:Bw w wv:=bS bw1 hbv)
 go_loopw [4] (fun i wr=>∃(j:Nat) (k1 n1:Int) (ks1:List Tm) (A1:Option Addr) (c1:Nat),i = .int .i64 j∧j≤30∧Blk wr w.heap.size (Ro k1 n1 A1 ks1.length c1)∧RdP (·<w.heap.size) wr A1 0 ks1∧ks1.length≤9223372036854775807∧Hid (shape (30 - j) (.mk k1 n1 ks1)=true)∧Hid ((iC (.mk k1 n1 ks1)).map (·+j)=iC (.mk k n ks))∧Bw w wr)
  (fun i _ => 31 - (intOf i).toNat)
 case atStart=>exact ⟨0,k,n,ks,A,c,rfl,by omega,hB,(hrp.alloc _).below hbv,hlk,hsh,aD (by cases iC (.mk k n ks)<;>rfl),gv⟩
 case round=>
  clear hB;obtain ⟨j,k1,n1,ks1,A1,c1,rfl,hj,hB,hr1,hl1,hs1,hbk,hb⟩:=hrel;have c0:=hB.at_ (i:=0) rfl;have c1':=hB.at_ (i:=1) rfl;have c2:=hB.at_ (i:=2) rfl;obtain ⟨z0,z1,z2⟩:=lO hB;by_cases h8:k1=8
  ·subst h8;obtain ⟨q',u,hq,rfl,hsu,hnu⟩:=zQ hs1.out;clear hs1;have hlt:0<[u].length:=by simp
   obtain ⟨b3,off3,k2,n2,ks2,A3,c3,rfl,hk3,x0,x1',x2',hl2,hr2⟩:=hr1.at_ hlt;have H3:Hid (u = .mk k2 n2 ks2):=aD hk3;clear hk3;have hsu':=aD hsu;have hnu':=aD hnu;clear hsu hnu;simp only [Nat.reduceMul,Nat.zero_mul,Nat.add_zero,Nat.one_mul,Nat.zero_add,Nat.add_assoc,Nat.reduceAdd,List.length_cons,List.length_nil] at x0 x1' x2' c2
   go_wp2_with fail
   go_roundw
   case rel=>
    refine ⟨j+1,k2,n2,ks2,A3,c3,by go_num,by omega,((hB.set_ 0 _).set_ 1 _).set_ 2 _,((hr2.setCell (by simp) _).setCell (by simp) _).setCell (by simp) _,hl2,?_,?_,(bV hb)⟩
    ·refine aD ?_;have:=hsu'.out;rw [show 30 - (j+1)=q' by omega,← H3.out];exact this
    ·refine aD ?_;rw [← hbk.out,hnu'.out,← H3.out];cases iC u with
     | none=>rfl
     | some m=>simp only [Option.map_some];congr 1;omega
   case measure=>simp [intOf];omega
  ·have q8:=gM h8;by_cases h7:k1=7
   ·subst h7;have hn:iC (.mk k n ks)=some j:=by rw [← hbk.out,zW];simp
    by_cases h20:j≤20
    ·have q20:decide ((20:Int)<(j:Int))=false:=decide_eq_false (by omega);have q20':decide (20<j)=false:=decide_eq_false (by omega);have hxx:=aD (hx.out.trans (oX hn h20));clear hn hbk h8;go_wp2_with fail
     go_ret2
     cases hxx.out
     exact ⟨rfl,hb⟩
    ·have q20:decide ((20:Int)<(j:Int))=true:=decide_eq_true (by omega);have q20':decide (20<j)=true:=decide_eq_true (by omega);have hxx:=aD (hx.out.trans (wD hn h20));clear hn hbk h8;go_wp2_with fail
     go_ret2
     cases hxx.out
     exact ⟨rfl,hb⟩
   ·have q7:=gM h7;have q7':(k1 != 7)=true:=bne_iff_ne.2 h7;have hn:iC (.mk k n ks)=none:=by rw [← hbk.out,aHq h8 h7];rfl
    have hxx:=aD (hx.out.trans (tH hn));clear hn hbk h8 h7;go_wp2_with fail
    go_ret2
    cases hxx.out
    exact ⟨rfl,hb⟩
theorem kY (k n:Int)(ks:List Tm)(A:Option Addr)(c:Nat)(w:World)(hv:aE (.mk k n ks)=true)(hr:Rd w A 0 ks) :
  Calls prog 25 #[.agg (Ro k n A ks.length c)] w fun e w'=>e = .returned (.tuple #[.int .i64 (mR (.mk k n ks)).1,.bool (mR (.mk k n ks)).2])∧Bw w w':=by
 have hz:=aJ hv;have hlk:ks.length≤9223372036854775807:=by have:=aQ ks;omega
 have hsh:=aD (aW hv);have hv':=aD hv;clear hv;obtain ⟨x,hx⟩:∃x,x=mR (.mk k n ks):=⟨_,rfl⟩;rw [← hx];replace hx:=aD hx;obtain ⟨x1,x2⟩:=x;have hrp:=hr.rdp;go_enter func25,ntmps25;go_wp2_with (go_at_call 21;refine (aU k n ks A c _ (by omega) (hr.alloc _)).mono ?_;rw [hv'.out];rintro e wv ⟨rfl,hbv⟩;have hB:=(aC w 25 (Ro k n A ks.length c) rfl).keep hbv;have gv:Bw w wv:=bS bw1 hbv)
 go_loopw [4] (fun i wr=>∃(j:Nat) (k1 n1:Int) (ks1:List Tm) (A1:Option Addr) (c1:Nat),i = .int .i64 j∧j≤30∧Blk wr w.heap.size (Ro k1 n1 A1 ks1.length c1)∧RdP (·<w.heap.size) wr A1 0 ks1∧ks1.length≤9223372036854775807∧Hid (shape (30 - j) (.mk k1 n1 ks1)=true)∧Hid ((iC (.mk k1 n1 ks1)).map (·+j)=iC (.mk k n ks))∧Bw w wr)
  (fun i _ => 31 - (intOf i).toNat)
 case atStart=>exact ⟨0,k,n,ks,A,c,rfl,by omega,hB,(hrp.alloc _).below hbv,hlk,hsh,aD (by cases iC (.mk k n ks)<;>rfl),gv⟩
 case round=>
  clear hB;obtain ⟨j,k1,n1,ks1,A1,c1,rfl,hj,hB,hr1,hl1,hs1,hbk,hb⟩:=hrel;have c0:=hB.at_ (i:=0) rfl;have c1':=hB.at_ (i:=1) rfl;have c2:=hB.at_ (i:=2) rfl;obtain ⟨z0,z1,z2⟩:=lO hB;by_cases h8:k1=8
  ·subst h8;obtain ⟨q',u,hq,rfl,hsu,hnu⟩:=zQ hs1.out;clear hs1;have hlt:0<[u].length:=by simp
   obtain ⟨b3,off3,k2,n2,ks2,A3,c3,rfl,hk3,x0,x1',x2',hl2,hr2⟩:=hr1.at_ hlt;have H3:Hid (u = .mk k2 n2 ks2):=aD hk3;clear hk3;have hsu':=aD hsu;have hnu':=aD hnu;clear hsu hnu;simp only [Nat.reduceMul,Nat.zero_mul,Nat.add_zero,Nat.one_mul,Nat.zero_add,Nat.add_assoc,Nat.reduceAdd,List.length_cons,List.length_nil] at x0 x1' x2' c2
   go_wp2_with fail
   go_roundw
   case rel=>
    refine ⟨j+1,k2,n2,ks2,A3,c3,by go_num,by omega,((hB.set_ 0 _).set_ 1 _).set_ 2 _,((hr2.setCell (by simp) _).setCell (by simp) _).setCell (by simp) _,hl2,?_,?_,(bV hb)⟩
    ·refine aD ?_;have:=hsu'.out;rw [show 30 - (j+1)=q' by omega,← H3.out];exact this
    ·refine aD ?_;rw [← hbk.out,hnu'.out,← H3.out];cases iC u with
     | none=>rfl
     | some m=>simp only [Option.map_some];congr 1;omega
   case measure=>simp [intOf];omega
  ·have q8:=gM h8;by_cases h7:k1=7
   ·subst h7;have hn:iC (.mk k n ks)=some j:=by rw [← hbk.out,zW];simp
    by_cases h20:j≤20
    ·have q20:decide ((20:Int)<(j:Int))=false:=decide_eq_false (by omega);have q20':decide (20<j)=false:=decide_eq_false (by omega);have hxx:=aD (hx.out.trans (oX hn h20));clear hn hbk h8;go_wp2_with fail
     go_ret2
     cases hxx.out
     exact ⟨rfl,hb⟩
    ·have q20:decide ((20:Int)<(j:Int))=true:=decide_eq_true (by omega);have q20':decide (20<j)=true:=decide_eq_true (by omega);have hxx:=aD (hx.out.trans (wD hn h20));clear hn hbk h8;go_wp2_with fail
     go_ret2
     cases hxx.out
     exact ⟨rfl,hb⟩
   ·have q7:=gM h7;have q7':(k1 != 7)=true:=bne_iff_ne.2 h7;have hn:iC (.mk k n ks)=none:=by rw [← hbk.out,aHq h8 h7];rfl
    have hxx:=aD (hx.out.trans (tH hn));clear hn hbk h8 h7;go_wp2_with fail
    go_ret2
    cases hxx.out
    exact ⟨rfl,hb⟩
theorem xI {n:Int}{p:Tm}(hv:aE (.mk 16 n [p])=true):aE (.mk 15 0 [p])=true:=by
 unfold aE at hv⊢
 rw [Bool.and_eq_true,decide_eq_true_eq] at hv⊢;refine ⟨?_,by have:=hv.2;simpa [Tm.size] using this⟩;have h1:=((bA 29 16 n [p]).1 hv.1).2.2.2;exact (bA 29 15 0 [p]).2 ⟨rfl,by omega,by decide,h1⟩
theorem vU {t u:Tm}(h:vO t=some u):u=t∧aE t=true:=by
 unfold vO at h
 split at h
 ·injection h with h;subst h;exact ⟨rfl,by assumption⟩
 ·cases h
theorem aAw {o:Option Tm}{t:Tm}(h:aAx o (vO t)=true):iU o t=true∧aE t=true:=by
 unfold aAx at h
 split at h
 ·rename_i x hx
  obtain ⟨rfl,hv⟩:=vU hx;exact ⟨h,hv⟩
 ·cases h
theorem aMh {o:Option Tm}{p:Tm}(h:aAx o (aTs p)=true):∃k1 n1 s1 k2 n2 s2,cG 1 0 p=some (.mk k1 n1 s1)∧cG 2 0 p=some (.mk k2 n2 s2)∧aE (.mk 3 0 [.mk 6 0 [],.mk 3 0 [.mk 5 0 [.mk k1 n1 s1,.mk 1 0 []],.mk 5 0 [.mk k2 n2 s2,.mk 8 0 [.mk 1 1 []]]]])=true∧iU o (.mk 3 0 [.mk 6 0 [],.mk 3 0 [.mk 5 0 [.mk k1 n1 s1,.mk 1 0 []],.mk 5 0 [.mk k2 n2 s2,.mk 8 0 [.mk 1 1 []]]]])=true:=by
 unfold aTs at h
 split at h
 ·cases h
 ·rename_i one h1
  split at h
  ·cases h
  ·rename_i two h2
   obtain ⟨k1,n1,s1⟩:=one;obtain ⟨k2,n2,s2⟩:=two;obtain ⟨hc,hv⟩:=aAw h;exact ⟨k1,n1,s1,k2,n2,s2,h1,h2,hv,hc⟩
theorem aDy {N:Nat}(ih:aFh N)(ctx:List Tm)(C:Option Addr)(cc:Nat)(k n:Int)(ks:List Tm)(A:Option Addr)(c fc:Nat)(ev:Array Value)(kr nr:Int)(sr:List Tm)(ty:Nat→Option Tm)(w:World)(h:aJl (nZ N ctx) ctx (.mk k n ks) ty=some (.mk kr nr sr))(hv:aE (.mk k n ks)=true)(hvc:∀u,u∈ctx→aE u=true)(hm:ctx.length≤20)(hT:TyOk fc ev w ty)(hty:∀i s,ty i=some s→aE s=true)(hrc:Rd w C 0 ctx)(hr:Rd w A 0 ks) :
  Calls prog 83 #[.agg #[.slice C ctx.length cc,.int .i64 k,.int .i64 n,.slice A ks.length c,.func (.func fc) #[] ev]] w (fE w kr nr sr):=by
 have hvr:=vY h hv;have har:=aX hv;unfold aJl at h
 by_cases e1:k=1
 ·rw [if_pos (show (Tm.mk k n ks).k=1 from e1)] at h;subst e1;split at h
  ·rename_i hn
   obtain ⟨nn,hnn⟩:∃nn:Nat,(nn:Int)=n:=⟨n.toNat,by have:0≤n:=hn.1;omega⟩;subst hnn;have hlt:(nn:Int)<(ctx.length:Int):=hn.2;have hpl:ctx.length - 1 - nn<ctx.length:=by omega
   have hg:ctx.getD (ctx.length - 1 - (Tm.mk 1 (nn:Int) ks).n.toNat) default=ctx[ctx.length - 1 - nn]:=by
    show ctx.getD (ctx.length - 1 - ((nn:Int)).toNat) default=_
    rw [Int.toNat_natCast];simp [List.getD,nY hpl]
   rw [hg] at h;have hvu:=hvc _ (iP hpl);obtain ⟨ku,nu,su,hcu⟩:∃ku nu su,ctx[ctx.length - 1 - nn] = .mk ku nu su:=by
    cases hh:ctx[ctx.length - 1 - nn] with|mk a b l=>exact ⟨a,b,l,rfl⟩
   rw [hcu] at h hvu;exact aIw ctx C cc nn _ A _ c fc ev ku nu su kr nr sr w hm (by omega) hpl hcu hvu h hrc
  ·cases h
 rw [if_neg (show ¬(Tm.mk k n ks).k=1 from e1)] at h;by_cases e2:k=2
 ·rw [if_pos (show (Tm.mk k n ks).k=2 from e2)] at h;subst e2;have h3:dS 2=3:=rfl;split at h
  ·cases h
  ·rename_i hn
   have hn3:n≠3:=hn;injection h with h;injection (show Tm.mk 2 (n+1) [] = .mk kr nr sr from h) with q1 q2 q3;subst q1 q2 q3;exact aAd C _ cc n A _ c fc ev w hn3 (by omega)
 rw [if_neg (show ¬(Tm.mk k n ks).k=2 from e2)] at h;by_cases e6:k=6
 ·rw [if_pos (show (Tm.mk k n ks).k=6 from e6)] at h;subst e6;injection h with h;injection h with q1 q2 q3;subst q1 q2 q3;exact zG C _ cc n A _ c fc ev w
 rw [if_neg (show ¬(Tm.mk k n ks).k=6 from e6)] at h;by_cases e7:k=7
 ·rw [if_pos (show (Tm.mk k n ks).k=7 from e7)] at h;subst e7;injection h with h;injection (show Tm.mk 6 0 [] = .mk kr nr sr from h) with q1 q2 q3;subst q1 q2 q3;exact aAa C _ cc n A _ c fc ev w
 rw [if_neg (show ¬(Tm.mk k n ks).k=7 from e7)] at h;by_cases e8:k=8
 ·rw [if_pos (show (Tm.mk k n ks).k=8 from e8)] at h;subst e8;split at h
  ·rename_i hc
   injection h with h;injection (show Tm.mk 6 0 [] = .mk kr nr sr from h) with q1 q2 q3;subst q1 q2 q3;exact zY C _ cc n A _ c fc ev ty w hc hT
  ·cases h
 rw [if_neg (show ¬(Tm.mk k n ks).k=8 from e8)] at h;by_cases e3:k=3
 ·rw [if_pos (show (Tm.mk k n ks).k=3 from e3)] at h;subst e3;split at h
  ·cases h
  ·rename_i i hi
   split at h
   ·cases h
   ·rename_i j hj
    injection h with h;injection h with q1 q2 q3;subst q1 q2 q3;exact aAi C _ cc n A _ c fc ev _ _ _ w hvr (aD fun w' hw=>qD C _ cc 3 n A c fc ev _ i j ty w' hi hj (hT.below hw))
 rw [if_neg (show ¬(Tm.mk k n ks).k=3 from e3)] at h;by_cases e4:k=4
 ·rw [if_pos (show (Tm.mk k n ks).k=4 from e4)] at h;subst e4;obtain ⟨a,b,rfl⟩:=mG (l:=ks) (by have h3:aK 4=2:=rfl;omega);obtain ⟨ka,na,sa⟩:=a;split at h
  ·cases h
  ·rename_i l hl
   split at h
   ·cases h
   ·rename_i tb htb
    obtain ⟨kb,nb,sb⟩:=tb;split at h
    ·cases h
    ·rename_i o ho
     obtain ⟨rfl,hvo⟩:=vU ho;split at h
     ·rename_i hsome
      obtain ⟨⟨kq,nq,sq⟩,hq⟩:=Option.isSome_iff_exists.1 hsome;injection h with h;injection (show Tm.mk 3 0 [.mk ka na sa,.mk kb nb sb] = .mk kr nr sr from h) with q1 q2 q3;subst q1 q2 q3;exact yP C _ cc n A _ c fc ev _ _ _ w hvr (aD fun w' hw=>xU C _ cc 4 n A c fc ev l ka na sa b kb nb sb kq nq sq ty w' hl htb hvr (hT.below hw) (hr.below hw) (aD fun Ao co w2 hw2 hro=>ih ctx 3 0 [.mk ka na sa,.mk kb nb sb] kq nq sq hq hvr hvc hm C cc Ao co w2 ((hrc.below hw).below hw2) hro))
     ·cases h
 rw [if_neg (show ¬(Tm.mk k n ks).k=4 from e4)] at h;by_cases e5:k=5
 ·rw [if_pos (show (Tm.mk k n ks).k=5 from e5)] at h;subst e5;obtain ⟨a,b,rfl⟩:=mG (l:=ks) (by have h3:aK 5=2:=rfl;omega);obtain ⟨kx,nx,sx⟩:=b;have hvx:=aL hv (t:=.mk kx nx sx) (by simp);split at h
  ·cases h
  ·rename_i s hs
   obtain ⟨n3,s3,rfl,hv3⟩:=fG hs;obtain ⟨d,e,rfl⟩:=mG (l:=s3) (by have:=(aX hv3).1;have h3:aK 3=2:=rfl;omega);obtain ⟨kd,nd,sd⟩:=d;obtain ⟨ke,ne,se⟩:=e;split at h
   ·rename_i hc
    exact aIu C _ cc n A c fc ev a kx nx sx n3 kd nd sd ke ne se kr nr sr ty w hs hc hvx h hT hr
   ·cases h
 rw [if_neg (show ¬(Tm.mk k n ks).k=5 from e5)] at h;by_cases e9:k=9
 ·rw [if_pos (show (Tm.mk k n ks).k=9 from e9)] at h;subst e9;obtain ⟨p,t1,t2,a,rfl⟩:=aDb (l:=ks) (by have h3:aK 9=4:=rfl;omega);obtain ⟨kp,np,sp⟩:=p;obtain ⟨ka,na,sa⟩:=a;have hvp:=aL hv (t:=.mk kp np sp) (by simp);split at h
  ·rename_i hc
   obtain ⟨c1,c2,c3,c4⟩:=hc;obtain ⟨d1,d2⟩:=aAw c2;obtain ⟨k1,n1,s1,k2,n2,s2,f1,f2,f3,f4⟩:=aMh c3;obtain ⟨g1,g2⟩:=vU h;injection (show Tm.mk kr nr sr = .mk 5 0 [.mk kp np sp,.mk ka na sa] from g1) with q1 q2 q3;subst q1 q2 q3;exact zP C _ cc n A _ c fc ev _ _ _ w hvr (aD fun w' hw=>xH C _ cc 9 n A c fc ev kp np sp t1 t2 ka na sa k1 n1 s1 k2 n2 s2 ty w' c1 hvp d2 d1 f1 f2 f3 f4 c4 hvr (hT.below hw) (hr.below hw))
  ·cases h
 rw [if_neg (show ¬(Tm.mk k n ks).k=9 from e9)] at h;by_cases e10:k=10
 ·rw [if_pos (show (Tm.mk k n ks).k=10 from e10)] at h;subst e10;obtain ⟨a,a1,a2,rfl⟩:=nR (l:=ks) (by have h3:aK 10=3:=rfl;omega);obtain ⟨ka,na,sa⟩:=a;split at h
  ·cases h
  ·rename_i l hl
   split at h
   ·rename_i hc
    injection h with h;injection h with q1 q2 q3;subst q1 q2 q3;exact xA C _ cc n A _ c fc ev _ _ _ w hvr (aD fun w' hw=>xY C _ cc 10 n A c fc ev l ka na sa a1 a2 ty w' hl hc.1 hc.2 (hT.below hw) (hr.below hw))
   ·cases h
 rw [if_neg (show ¬(Tm.mk k n ks).k=10 from e10)] at h;by_cases e11:k=11
 ·rw [if_pos (show (Tm.mk k n ks).k=11 from e11)] at h;subst e11;obtain ⟨a,rfl⟩:=tT (l:=ks) (by have h3:aK 11=1:=rfl;omega);obtain ⟨ka,na,sa⟩:=a;split at h
  ·cases h
  ·rename_i s hs
   obtain ⟨kt,nt,st⟩:=s;split at h
   ·rename_i hc
    obtain ⟨l,hl⟩:=Option.isSome_iff_exists.1 hc;obtain ⟨g1,g2⟩:=vU h;injection (show Tm.mk kr nr sr = .mk 10 0 [.mk kt nt st,.mk ka na sa,.mk ka na sa] from g1) with q1 q2 q3;subst q1 q2 q3;exact aFx C _ cc n A c fc ev ka na sa kt nt st l ty w hs hvr hT hr (aD fun Ao co w' hw hro=>tZ ih ctx C cc kt nt st Ao co l w' hl (hty _ _ hs) hvc hm (hrc.below hw) hro)
   ·cases h
 rw [if_neg (show ¬(Tm.mk k n ks).k=11 from e11)] at h;by_cases e12:k=12
 ·rw [if_pos (show (Tm.mk k n ks).k=12 from e12)] at h;subst e12;obtain ⟨p,t1,t2,rfl⟩:=nR (l:=ks) (by have h3:aK 12=3:=rfl;omega);obtain ⟨kp,np,sp⟩:=p;split at h
  ·cases h
  ·rename_i e he
   obtain ⟨ni,s3,rfl,hv3⟩:=fG he;obtain ⟨a,b,d,rfl⟩:=nR (l:=s3) (by have:=(aX hv3).1;have h3:aK 10=3:=rfl;omega);obtain ⟨ka,na,sa⟩:=a;obtain ⟨kb,nb,sb⟩:=b;obtain ⟨kd,nd,sd⟩:=d;split at h
   ·rename_i hc
    obtain ⟨d1,d2⟩:=aAw hc.2;obtain ⟨g1,g2⟩:=vU h;injection (show Tm.mk kr nr sr = .mk 5 0 [.mk kp np sp,.mk kd nd sd] from g1) with q1 q2 q3;subst q1 q2 q3;exact wB C _ cc n A _ c fc ev _ _ _ w hvr (aD fun w' hw=>aFw C _ cc 12 n A c fc ev kp np sp t1 t2 ni ka na sa kb nb sb kd nd sd ty w' he hc.1 d2 d1 hvr (hT.below hw) (hr.below hw))
   ·cases h
 rw [if_neg (show ¬(Tm.mk k n ks).k=12 from e12)] at h;by_cases e13:k=13
 ·rw [if_pos (show (Tm.mk k n ks).k=13 from e13)] at h;subst e13;split at h
  ·cases h
  ·rename_i i hi
   split at h
   ·cases h
   ·rename_i j hj
    injection h with h;injection h with q1 q2 q3;subst q1 q2 q3;exact wY C _ cc n A _ c fc ev _ _ _ w hvr (aD fun w' hw=>qD C _ cc 13 n A c fc ev _ i j ty w' hi hj (hT.below hw))
 rw [if_neg (show ¬(Tm.mk k n ks).k=13 from e13)] at h;by_cases e14:k=14
 ·rw [if_pos (show (Tm.mk k n ks).k=14 from e14)] at h;subst e14;obtain ⟨p,a,t2,rfl⟩:=nR (l:=ks) (by have h3:aK 14=3:=rfl;omega);obtain ⟨kp,np,sp⟩:=p;obtain ⟨ka,na,sa⟩:=a;have hvp:=aL hv (t:=.mk kp np sp) (by simp);have hva:=aL hv (t:=.mk ka na sa) (by simp);split at h
  ·cases h
  ·rename_i l hl
   split at h
   ·cases h
   ·rename_i s hs
    have hs':nX (.mk kp np sp) 13=some s:=hs;obtain ⟨_,_,_,hk13,hvs⟩:=mA hs';obtain ⟨k3,n3,s3⟩:=s;obtain rfl:k3=13:=hk13;obtain ⟨d,e,rfl⟩:=mG (l:=s3) (by have:=(aX hvs).1;have h3:aK 13=2:=rfl;omega);obtain ⟨kd,nd,sd⟩:=d;obtain ⟨ke,ne,se⟩:=e;split at h
    ·rename_i hc
     obtain ⟨c1,c2⟩:=hc;have c1':iU (ty 1) (.mk kd nd sd)=true:=c1;have c2':aAx (ty 2) (eH 0 (.mk ka na sa) (.mk ke ne se))=true:=c2;injection h with h;injection (show Tm.mk kp np sp = .mk kr nr sr from h) with q1 q2 q3;subst q1 q2 q3;unfold aAx at c2'
     split at c2'
     ·rename_i z hz
      obtain ⟨kz,nz,sz⟩:=z;exact vI C _ cc n A _ c fc ev _ _ _ w hvr (aD fun w' hw=>aDm C _ cc 14 n A c fc ev kp np sp ka na sa t2 n3 kd nd sd ke ne se l kz nz sz ty w' hl hs' hva hz c1' c2' hvp (hT.below hw) (hr.below hw))
     ·cases c2'
    ·cases h
 rw [if_neg (show ¬(Tm.mk k n ks).k=14 from e14)] at h;by_cases e15:k=15
 ·rw [if_pos (show (Tm.mk k n ks).k=15 from e15)] at h;subst e15;split at h
  ·cases h
  ·rename_i s hs
   obtain ⟨n3,s3,rfl,hv3⟩:=fG hs;obtain ⟨d,e,rfl⟩:=mG (l:=s3) (by have:=(aX hv3).1;have h3:aK 13=2:=rfl;omega);obtain ⟨kd,nd,sd⟩:=d;obtain ⟨ke,ne,se⟩:=e;injection h with h;injection (show Tm.mk kd nd sd = .mk kr nr sr from h) with q1 q2 q3;subst q1 q2 q3;exact vK C _ cc n A _ c fc ev _ _ _ w hvr (aD fun w' hw=>uA C _ cc n A _ c fc ev n3 kd nd sd ke ne se ty w' hs (hT.below hw))
 rw [if_neg (show ¬(Tm.mk k n ks).k=15 from e15)] at h;by_cases e16:k=16
 ·rw [if_pos (show (Tm.mk k n ks).k=16 from e16)] at h;subst e16;obtain ⟨p,rfl⟩:=tT (l:=ks) (by have h3:aK 16=1:=rfl;omega);obtain ⟨kp,np,sp⟩:=p;split at h
  ·cases h
  ·rename_i s hs
   obtain ⟨n3,s3,rfl,hv3⟩:=fG hs;obtain ⟨d,e,rfl⟩:=mG (l:=s3) (by have:=(aX hv3).1;have h3:aK 13=2:=rfl;omega);obtain ⟨kd,nd,sd⟩:=d;obtain ⟨ke,ne,se⟩:=e;have hvx:aE (.mk 15 0 [.mk kp np sp])=true:=xI hv;exact wJ C _ cc n A _ c fc ev _ _ _ w hvr (aD fun w' hw=>aDv C _ cc n A c fc ev kp np sp n3 kd nd sd ke ne se kr nr sr ty w' hs hvx h (hT.below hw) (hr.below hw))
 rw [if_neg (show ¬(Tm.mk k n ks).k=16 from e16)] at h;cases h
theorem aIo {N:Nat}{ctx:List Tm}{k n:Int}{ks:List Tm}(hv:aE (.mk k n ks)=true)(i:Nat)(s:Tm)(h:tyS (nZ N) ctx (.mk k n ks) i=some s):aE s=true:=by
 have hi:=aLe h;have hk:aE (aI ks i)=true:=by
  rw [xE hi];have hm:=iP hi;obtain ⟨a,b,l,he⟩:∃a b l,ks[i] = .mk a b l:=by
   cases hh:ks[i] with|mk a b l=>exact ⟨a,b,l,rfl⟩
  rw [he] at hm⊢;exact aL hv hm
 unfold tyS at h
 split at h
 ·exact kQ h hk
 ·split at h
  ·cases h
  ·exact kQ h hk
theorem aEi {N:Nat}(ih:aFh N):aFh (N+1):=by
 intro ctx k n ks kr nr sr h hv hvc hm C cc A c w hrc hra;have hvr:=aD (kQ h hv);have hj:=aD (show aJl (nZ N ctx) ctx (.mk k n ks) (tyS (nZ N) ctx (.mk k n ks))=some (.mk kr nr sr) from h);have hvh:=aD hv;have hvch:=aD hvc;have hmh:=aD hm;have B3:∀o1 o2 o3,Below w.heap.size w (((w.alloc o1).alloc o2).alloc o3):=fun o1 o2 o3=>(((fJ _ _).alloc (pF _) _).alloc (by simp) _).alloc (by simp;omega) _
 have hJ:=aD (fun (wx:World) (hb:Below w.heap.size w wx) (hB2:Blk wx w.heap.size #[.slice C ctx.length cc]) (hB3:Blk wx (w.heap.size+1) #[.int .i64 k,.int .i64 n,.slice A ks.length c])=>aDy ih ctx C cc k n ks A c 81 #[.pointer (some ⟨w.heap.size,0,none⟩),.pointer (some ⟨w.heap.size+1,0,none⟩)] kr nr sr _ wx hj.out hv hvc hm (aDd ih ctx C cc k n ks A c w.heap.size (w.heap.size+1) wx hv hvc hm hB2 hB3 (hrc.below hb) (hra.below hb)) (aIo hv) (hrc.below hb) (hra.below hb));clear h hv hvc hm;go_enter Tryz.func59,Tryz.ntmps59;go_wp2_with (go_at_call 83;refine (hJ.out _ (B3 _ _ _) (((aC w 23 #[.slice C ctx.length cc] rfl).alloc _).alloc _) ((aC (n:=w.heap.size+1) (w.alloc (.cells #[.slice C ctx.length cc] 23)) 25 #[.int .i64 k,.int .i64 n,.slice A ks.length c] (by simp)).alloc _)).mono ?_;rintro e w1 ⟨A1,c1,rfl,hl1,r1,hb1⟩;have hZ1:Blk w1 (w.heap.size+1+1) #[.int .i64 0,.int .i64 0,.slice none 0 0]:=(aC _ 25 _ (by simp)).keep hb1;have g1:Below w.heap.size w w1:=(B3 _ _ _).trans (hb1.mono (by simp;omega));obtain ⟨d0,d1,d2⟩:=hZ1.three;have e0:=hZ1.frozen 0;have e1:=hZ1.frozen 1;have e2:=hZ1.frozen 2)
 refine bodyPost_ret (v:=.tuple #[.agg #[.int .i64 kr,.int .i64 nr,.slice A1 sr.length c1],.int .i64 0]) (by simp [results,Tryz.results59,go_sem,d0,d1,d2]) rfl ⟨A1,c1,rfl,hl1,aZ hZ1 hvr.out r1 _ _ _,?_⟩;exact (bV g1)
theorem vF:∀N,aFh N
 | 0=>fun _ _ _ _ _ _ _ h=>by cases h
 | N+1=>aEi (vF N)
namespace NT
def idx:NT→Option NT
 | .elim z s n=>some n
 | .mov x z=>some x
 | .app b a=>(idx b).map (fN a 0)
 | _=>none
inductive Gd:Nat→NT→Prop where
 | var {n i:Nat} (h:i<n):Gd n (.var i)
 | zero {n:Nat}:Gd n .zero
 | suc {n:Nat} {a:NT} (h:Gd n a):Gd n (.suc a)
 | app {n:Nat} {b a:NT} (h1:Gd (n+1) b) (h2:Gd n a) (h3:∀u,idx b=some u→Gd n (fN a 0 u)):Gd n (.app b a)
 | elim {n:Nat} {z s m:NT} (h1:Gd n z) (h2:Gd (n+2) s) (h3:Gd n m):Gd n (.elim z s m)
 | part {n:Nat} {q:Bool} {a b:NT} (h1:Gd n a) (h2:Gd n b):Gd n (.part q a b)
 | mov {n:Nat} {x z:NT} (h1:Gd n x) (h2:Gd n z):Gd n (.mov x z)
theorem aOq {n:Nat}{x u:NT}(h:Gd n x)(hu:idx x=some u):Gd n u:=by
 cases h with
 | var h=>cases hu
 | zero=>cases hu
 | suc h=>cases hu
 | app h1 h2 h3=>
  rename_i b a
  cases hb:idx b with
  | none=>rw [idx,hb] at hu;cases hu
  | some v=>rw [idx,hb] at hu;injection hu with hu;subst hu;exact h3 v hb
 | elim h1 h2 h3=>injection hu with hu;subst hu;exact h3
 | part h1 h2=>cases hu
 | mov h1 h2=>injection hu with hu;subst hu;exact h1
theorem aAb (x:NT):∀m c,idx (x.shift m c)=(idx x).map (shift m c):=by
 induction x with
 | var i=>intro m c;rw [shift];split<;>rfl
 | zero=>intros;rfl
 | suc a _=>intros;rfl
 | app b a h1 h2=>
  intro m c;rw [shift,idx,idx,h1];cases idx b with
  | none=>rfl
  | some u=>
   simp only [Option.map_some]
   rw [show c+1=c+0+1 by omega,← yX u a m c 0];rfl
 | elim z s n _ _ _=>intros;rfl
 | part q a b _ _=>intros;rfl
 | mov x z _ _=>intros;rfl
theorem aDt {n:Nat}{x:NT}(h:Gd n x):∀(m c:Nat),c≤n→Gd (n+m) (x.shift m c):=by
 induction h with
 | var h=>intro m c hc;rw [shift];split<;>exact .var (by omega)
 | zero=>intros;exact .zero
 | suc h ih=>intro m c hc;exact .suc (ih m c hc)
 | @app n b a h1 h2 h3 i1 i2 i3=>
  intro m c hc;refine .app (by have:=i1 m (c+1) (by omega);rwa [show n+1+m=n+m+1 by omega] at this) (i2 m c hc) ?_;intro u hu;rw [aAb] at hu;cases hb:idx b with
  | none=>rw [hb] at hu;cases hu
  | some v=>
   rw [hb] at hu;injection hu with hu;subst hu;have:=i3 v hb m c hc;rwa [show c=c+0 by omega,yX v a m c 0] at this
 | @elim n z s k h1 h2 h3 i1 i2 i3=>
  intro m c hc;exact .elim (i1 m c hc) (by have:=i2 m (c+2) (by omega);rwa [show n+2+m=n+m+2 by omega] at this) (i3 m c hc)
 | part h1 h2 i1 i2=>intro m c hc;exact .part (i1 m c hc) (i2 m c hc)
 | mov h1 h2 i1 i2=>intro m c hc;exact .mov (i1 m c hc) (i2 m c hc)
theorem aQx (x a:NT):∀(k:Nat) (v:NT),idx (fN a k x)=some v→(∃u,idx x=some u∧v=fN a k u)∨(∃w,idx a=some w∧v=w.shift k 0):=by
 induction x with
 | var i=>
  intro k v h;rw [fN] at h;split at h
  ·rw [aAb] at h;cases ha:idx a with
   | none=>rw [ha] at h;cases h
   | some w=>rw [ha] at h;injection h with h;exact .inr ⟨w,rfl,h.symm⟩
  ·split at h<;>cases h
 | zero=>intro k v h;cases h
 | suc b _=>intro k v h;cases h
 | app b c h1 h2=>
  intro k v h;rw [fN,idx] at h;cases hb:idx (fN a (k+1) b) with
  | none=>rw [hb] at h;cases h
  | some w=>
   rw [hb] at h;injection h with h;subst h;rcases h1 (k+1) w hb with ⟨u,hu,rfl⟩|⟨y,hy,rfl⟩
   ·refine .inl ⟨fN c 0 u,by rw [idx,hu];rfl,?_⟩;exact aGu u a c k 0
   ·refine .inr ⟨y,hy,?_⟩;exact vR y _ k 0 0 (by omega) (by omega)
 | elim z s n _ _ _=>intro k v h;injection h with h;exact .inl ⟨n,rfl,h.symm⟩
 | part q x y _ _=>intro k v h;cases h
 | mov x z _ _=>intro k v h;injection h with h;exact .inl ⟨x,rfl,h.symm⟩
theorem aUi {n:Nat}{x:NT}(h:Gd n x):∀(m k:Nat) (a:NT),n=m+1+k→Gd m a→Gd (m+k) (fN a k x):=by
 induction h with
 | @var n i h=>
  intro m k a hn ha;rw [fN];split
  ·exact aDt ha k 0 (by omega)
  ·split
   ·exact .var (by omega)
   ·exact .var (by omega)
 | zero=>intros;exact .zero
 | suc h ih=>intro m k a hn ha;exact .suc (ih m k a hn ha)
 | @app n b c h1 h2 h3 i1 i2 i3=>
  intro m k a hn ha;refine .app (by have:=i1 m (k+1) a (by omega) ha;rwa [show m+(k+1)=m+k+1 by omega] at this) (i2 m k a hn ha) ?_;intro v hv;rcases aQx b a (k+1) v hv with ⟨u,hu,rfl⟩|⟨w,hw,rfl⟩
  ·have:=i3 u hu m k a hn ha;rwa [show k=k+0 by omega,← aGu u a c k 0] at this
  ·rw [vR w _ k 0 0 (by omega) (by omega)];exact aDt (aOq ha hw) k 0 (by omega)
 | @elim n z s j h1 h2 h3 i1 i2 i3=>
  intro m k a hn ha;exact .elim (i1 m k a hn ha) (by have:=i2 m (k+2) a (by omega) ha;rwa [show m+(k+2)=m+k+2 by omega] at this) (i3 m k a hn ha)
 | part h1 h2 i1 i2=>intro m k a hn ha;exact .part (i1 m k a hn ha) (i2 m k a hn ha)
 | mov h1 h2 i1 i2=>intro m k a hn ha;exact .mov (i1 m k a hn ha) (i2 m k a hn ha)
theorem gd_any (x:NT):∀n,x.ok n→Gd n x:=by
 induction x with
 | var i=>intro n h;exact .var h
 | zero=>intros;exact .zero
 | suc a ih=>intro n h;exact .suc (ih n h)
 | app b a h1 h2=>
  intro n h;have g1:=h1 (n+1) h.1;have g2:=h2 n h.2;exact .app g1 g2 fun u hu=>aUi (aOq g1 hu) n 0 a (by omega) g2
 | elim z s m h1 h2 h3=>intro n h;exact .elim (h1 n h.1) (h2 (n+2) h.2.1) (h3 n h.2.2)
 | part q a b h1 h2=>intro n h;exact .part (h1 n h.1) (h2 n h.2)
 | mov a b h1 h2=>intro n h;exact .mov (h1 n h.1) (h2 n h.2)
theorem aOf (x:NT):∀(m c:Nat),eZ m c x.tm=(x.shift m c).tm:=by
 induction x with
 | var i=>
  intro m c;rw [tm,eZ,shift];by_cases h:c≤i
  ·rw [if_pos h,if_pos ⟨rfl,by omega⟩,tm,cP];congr 1
  ·rw [if_neg h,if_neg (by rintro ⟨-,h'⟩;omega),tm,cP]
 | zero=>intro m c;simp [tm,shift,eZ,cP]
 | suc a ih=>intro m c;simp [tm,shift,eZ,cP,aR,binds,ih]
 | app b a h1 h2=>intro m c;have:=h1 m (c+1);simp [tm,shift,eZ,cP,aR,binds,kN,h2] at this⊢;exact this
 | elim z s n h1 h2 h3=>intro m c;have:=h2 m (c+2);simp [tm,shift,eZ,cP,aR,binds,kN,h1,h3] at this⊢;rw [← this];congr 1
 | part q a b h1 h2=>intro m c;cases q<;>simp [tm,shift,eZ,cP,aR,binds,kN,h1,h2]
 | mov x z h1 h2=>intro m c;simp [tm,shift,eZ,cP,aR,binds,kN,h1,h2]
theorem tm_sub (x a:NT):∀(k:Nat),cZ a.tm k k x.tm=(fN a k x).tm:=by
 induction x with
 | var i=>
  intro k;rw [tm,cZ,fN];by_cases h:i=k
  ·rw [if_pos h,if_pos ⟨rfl,by omega⟩];have:=aOf a k 0;simpa using this
  ·rw [if_neg h,if_neg (by rintro ⟨-,h'⟩;omega),cO];by_cases h2:k<i
   ·rw [if_pos h2,if_pos ⟨rfl,by omega⟩,tm];congr 1;omega
   ·rw [if_neg h2,if_neg (by rintro ⟨-,h'⟩;omega),tm]
 | zero=>intro k;simp [tm,fN,cZ,cO]
 | suc a ih=>intro k;simp [tm,fN,cZ,cO,aR,binds,ih]
 | app b c h1 h2=>intro k;have:=h1 (k+1);simp [tm,fN,cZ,cO,aR,binds,kN,h2] at this⊢;exact this
 | elim z s n h1 h2 h3=>intro k;have:=h2 (k+2);simp [tm,fN,cZ,cO,aR,binds,kN,h1,h3] at this⊢;rw [← this];congr 1
 | part q a b h1 h2=>intro k;cases q<;>simp [tm,fN,cZ,cO,aR,binds,kN,h1,h2]
 | mov x z h1 h2=>intro k;simp [tm,fN,cZ,cO,aR,binds,kN,h1,h2]
end NT
theorem aBq {N:Nat}(ctx:List Tm)(C:Option Addr)(cc:Nat)(n:Int)(A:Option Addr)(c:Nat)(k:Int)(ks:List Tm)(r:Rs Tm)(w:World)(hn:0≤n∧n≤20)(hk:k=2∨k=6∨k=7)(hs:fP (bJ N) ctx (.mk k n ks)=some r) :
  Calls prog 125 #[.slice C ctx.length cc,.agg (Ro k n A ks.length c)] w (oJ w r):=by
 have kz:IntKind.i64.wrap (n+1)=n+1:=IntWalk.i64_in _ (by omega);have kz2:wrap64 (n+1)=n+1:=IntWalk.wrap64_in _ (by omega);rcases hk with rfl|rfl|rfl
 ·simp only [fP,Int.reduceEq,if_false,if_true,or_self,false_or,or_false] at hs
  by_cases h3:3≤n
  ·rw [if_pos h3] at hs;injection hs with hs;subst hs;have q3:decide (3≤n)=true:=decide_eq_true h3;go_enter func125,ntmps125;go_wp2_with fail
   have gB:Bw w ((w.alloc (.cells (Ro 2 n A ks.length c) 25)).alloc (.cells Zr 25)):=bw2;refine bodyPost_ret (v:=.tuple #[.agg Zr,.int .i64 1]) (by simp [results,results125,go_sem]) rfl ⟨0,0,none,0,0,rfl,?_⟩;first
    | exact gB
    | exact ((gB.setCell (by simp<;>omega) _).setCell (by simp<;>omega) _).setCell (by simp<;>omega) _
  ·rw [if_neg h3] at hs;injection hs with hs;subst hs;have q3:decide (3≤n)=false:=decide_eq_false h3;go_enter func125,ntmps125;go_wp2_with (go_at_call 23;refine (bB _ _ _).mono ?_;rintro e w1 ⟨rfl,hb1⟩;have hZ1:=bH hb1;have g1:Bw w w1:=bS bw2 hb1;obtain ⟨d0,d1,d2,e0,e1,e2,lz⟩:=dA hZ1)
   refine bodyPost_ret (v:=.tuple #[.agg (Ro 2 (n+1) none 0 0),.int .i64 0]) (by simp [results,results125,go_sem,d0,d1,d2]) rfl ⟨none,0,rfl,by simp,Rd.nil,?_⟩;exact bV g1
 ·simp only [fP,Int.reduceEq,if_false,if_true,or_self,false_or,or_false] at hs
  injection hs with hs;subst hs;go_enter func125,ntmps125;go_wp2_with (go_at_call 23;refine (bB _ _ _).mono ?_;rintro e w1 ⟨rfl,hb1⟩;have hZ1:=bH hb1;have g1:Bw w w1:=bS bw2 hb1;obtain ⟨d0,d1,d2,e0,e1,e2,lz⟩:=dA hZ1)
  refine bodyPost_ret (v:=.tuple #[.agg (Ro 2 0 none 0 0),.int .i64 0]) (by simp [results,results125,go_sem,d0,d1,d2]) rfl ⟨none,0,rfl,by simp,Rd.nil,?_⟩;exact bV g1
 ·simp only [fP,Int.reduceEq,if_false,if_true,or_self,false_or,or_false] at hs
  injection hs with hs;subst hs;go_enter func125,ntmps125;go_wp2_with (go_at_call 23;refine (bB _ _ _).mono ?_;rintro e w1 ⟨rfl,hb1⟩;have hZ1:=bH hb1;have g1:Bw w w1:=bS bw2 hb1;obtain ⟨d0,d1,d2,e0,e1,e2,lz⟩:=dA hZ1)
  refine bodyPost_ret (v:=.tuple #[.agg (Ro 6 0 none 0 0),.int .i64 0]) (by simp [results,results125,go_sem,d0,d1,d2]) rfl ⟨none,0,rfl,by simp,Rd.nil,?_⟩;exact bV g1
theorem aCh (ctx:List Tm)(C:Option Addr)(cc:Nat)(n:Int)(A:Option Addr)(c:Nat)(ks:List Tm)(r:Rs Tm)(w:World)(hn:0≤n∧n≤20)(hvc:∀u,u∈ctx→aE u=true)(hm:ctx.length≤20)(hs:aDq ctx n=some r)(hrc:Rd w C 0 ctx) :
  Calls prog 125 #[.slice C ctx.length cc,.agg (Ro 1 n A ks.length c)] w (oJ w r):=by
 unfold aDq at hs
 by_cases hx:(ctx.length:Int)≤n
 ·rw [if_pos hx] at hs;injection hs with hs;subst hs;have q:decide ((ctx.length:Int)≤n)=true:=decide_eq_true hx;go_enter func125,ntmps125;go_wp2_with fail
  have gB:Bw w ((w.alloc (.cells (Ro 1 n A ks.length c) 25)).alloc (.cells Zr 25)):=bw2;refine bodyPost_ret (v:=.tuple #[.agg Zr,.int .i64 1]) (by simp [results,results125,go_sem]) rfl ⟨0,0,none,0,0,rfl,?_⟩;first
   | exact gB
   | exact ((gB.setCell (by simp<;>omega) _).setCell (by simp<;>omega) _).setCell (by simp<;>omega) _
 ·rw [if_neg hx] at hs;injection hs with hs;have q:decide ((ctx.length:Int)≤n)=false:=decide_eq_false hx;obtain ⟨m,rfl⟩:∃m:Nat,n=(m:Int):=⟨n.toNat,by omega⟩;rw [Int.toNat_natCast] at hs;obtain ⟨j,hj⟩:∃j,ctx.length - 1 - m=j:=⟨_,rfl⟩;have hjl:j<ctx.length:=by omega
  rw [hj] at hs;obtain ⟨bx,ox,kx,nx,sx,Ax,cx,rfl,hkj,x1,x2,x3,hlx,rx⟩:=hrc.at_ hjl;have hvx:aE (.mk kx nx sx)=true:=by rw [← hkj];exact hvc _ (iP hjl)
  rw [show ctx.getD j default = .mk kx nx sx by rw [← hkj];simp [List.getD,nY hjl]] at hs;have hszx:=aJ hvx;obtain ⟨k5,n5,s5,h5⟩:=iT (eZ ((m:Int)+1) 0 (.mk kx nx sx));rw [h5] at hs;subst hs;have hS:=aD (show ∀(w:World) (hr:Rd w Ax 0 sx),Calls prog 142 #[.agg (Ro kx nx Ax sx.length cx),.int .i64 ((m:Int)+1),.int .i64 0] w (vM w k5 n5 s5) from fun w hr=>by
   have:=kJ _ kx nx sx Ax cx ((m:Int)+1) 0 30 w (qN _) (by omega) (aW hvx) (by omega) (by omega) (by omega) hr;rw [eZ] at h5;injection h5 with e1 e2 e3;subst e1;rw [e2,e3] at this;exact this)
  have k1:IntKind.i64.wrap ((ctx.length:Int) - 1)=(ctx.length:Int) - 1:=IntWalk.i64_in _ (by omega);have k2:IntKind.i64.wrap ((ctx.length:Int) - 1 - (m:Int))=(j:Int):=by rw [IntWalk.i64_in _ (by omega)];omega
  have k3:IntKind.i64.wrap ((m:Int)+1)=(m:Int)+1:=IntWalk.i64_in _ (by omega);have k4:wrap64 ((ctx.length:Int) - 1)=(ctx.length:Int) - 1:=IntWalk.wrap64_in _ (by omega);have k5':wrap64 ((ctx.length:Int) - 1 - (m:Int))=(j:Int):=by rw [IntWalk.wrap64_in _ (by omega)];omega
  have k6:wrap64 ((m:Int)+1)=(m:Int)+1:=IntWalk.wrap64_in _ (by omega);have q2:decide (ctx.length≤m)=false:=decide_eq_false (fun h=>hx (Int.ofNat_le.2 h));have hjc:(j:Int)<(ctx.length:Int):=by omega
  clear hj h5 hkj hvc hvx hx;go_enter func125,ntmps125;go_upto_region 5 with fail
  refine sX (show Blk _ w.heap.size (Ro 1 (m:Int) A ks.length c) from ((aC w 25 _ rfl).alloc _)) (show Blk _ (w.heap.size+1) Zr from (aC _ 25 _ (by simp))) bw2 ?_;intro wx hTwx hZwx kwwx;have v1:=aF hTwx.three.2.1;obtain ⟨ux1,ux2,ux3⟩:=iG kwwx x1 x2 x3;refine dY wx [13,14] [0,1,4,5,9,10,11] 15 8 (lT:=[_,_,_,_,_,_,_]) ?_;intro q0 bq0;refine bU (aD ?_);refine bG 2 ?_;go_wp2_with fail
  refine aP bq0 ?_;refine aBn [3,6,7,8] (f:=3) (l':=#[true,true,true,true,true,true,true,true,true,true,true,true,false,false,false]) (lT:=[_,_,_,_]) bq0 rfl (by kernel_rfl) (by kernel_rfl) (by kernel_rfl) rfl (fun _ _ d _ _ h=>by cases d<;>exact h) ?_;refine bU (aD ?_);refine bG 12 ?_;go_wp2_with (go_at_call 142;refine (hS.out _ ((rx.below kwwx).below bq0)).mono ?_;rintro e q1 ⟨A5,c5,rfl,hl5,hf5,hbq1⟩)
  have bq1:Bw wx q1:=bq0.trans (hbq1.mono bq0.size);refine aP bq1 ?_;refine cD [13,14] (lB:=[_,_]) ?_;refine gS (aD ?_);have hZ5:=hZwx.keep bq1;have g5:=kwwx.trans (bq1.mono kwwx.size);obtain ⟨d0,d1,d2,e0,e1,e2,lz⟩:=dA hZ5;have lz0:=hZwx.lt;have s0:=bq0.size;go_wp2_with fail
  refine bodyPost_ret (v:=.tuple #[.agg (Ro k5 n5 A5 s5.length c5),.int .i64 0]) (by simp [results,results125,go_sem,d0,d1,d2]) rfl ⟨A5,c5,rfl,hl5,?_,?_⟩
  ·exact (nM hf5).rd
  ·exact bV g5
theorem aBi {N:Nat}(ih:nE N)(ctx:List Tm)(C:Option Addr)(cc:Nat)(n:Int)(A:Option Addr)(c:Nat)(ka na:Int)(sa:List Tm)(r:Rs Tm)(w:World)(hs:aVd (bJ N) ctx (.mk ka na sa)=some r)(hva:aE (.mk ka na sa)=true)(hvc:∀u,u∈ctx→aE u=true)(hm:ctx.length≤20)(hrc:Rd w C 0 ctx)(hr:Rd w A 0 [.mk ka na sa]) :
  Calls prog 125 #[.slice C ctx.length cc,.agg (Ro 8 n A 1 c)] w (oJ w r):=by
 obtain ⟨bk,ok,Aa,ca,rfl,a1,a2,a3,hla,ra⟩:=kW hr;simp only [Nat.zero_mul,Nat.add_zero,Nat.one_mul,Nat.reduceMul] at a1 a2 a3
 have lbp:=lL _ _ a1;rcases aO hs with ⟨b,h1,rfl⟩|⟨u1,h1,hs⟩
 ·replace h1:iI (bJ N) ctx (.mk ka na sa) (.mk 6 0 [])=_:=h1;have hC:=aD (fun (A2:Option Addr) (c2:Nat) (w:World) (hrc:Rd w C 0 ctx) (hrt:Rd w Aa 0 sa) (hr2:Rd w A2 0 [])=>cC ih ctx C cc ka na sa Aa ca 6 0 [] A2 c2 _ w h1 hva hvc (by omega) hrc hrt (by simp [aH]) hr2);have qb:=iL b;clear hs h1 hva hvc ih;go_enter func125,ntmps125;go_upto_region 15 with fail
  refine sX (show Blk _ w.heap.size (Ro 8 n (some ⟨bk,ok,none⟩) 1 c) from ((aC w 25 _ rfl).alloc _)) (show Blk _ (w.heap.size+1) Zr from (aC _ 25 _ (by simp))) bw2 ?_;intro wx hTwx hZwx kwwx;have v2:=aF hTwx.three.2.2;obtain ⟨ua1,ua2,ua3⟩:=iG kwwx a1 a2 a3;refine dY wx [8,9] [1,2,3,4,5] 10 5 (lT:=[_,_,_,_,_]) ?_;intro q0 bq0;refine bU (aD ?_);refine bG 0 ?_
  ·go_wp2_with (go_at_call 23;refine (bB _ _ _).mono ?_;rintro e q1 ⟨rfl,hbq1⟩)
   refine aY bq0 hbq1 ?_;intro bq1 lq1;refine bG 6 ?_
   ·go_wp2_with (go_at_call 23;refine (bB _ _ _).mono ?_;rintro e q2 ⟨rfl,hbq2⟩)
    refine aY bq1 hbq2 ?_;intro bq2 lq2;refine bG 7 ?_
    ·go_wp2_with (go_at_call 46;refine (hC.out none 0 _ ((hrc.below kwwx).below bq2) ((ra.below kwwx).below bq2) Rd.nil).mono ?_;rintro e q3 ⟨he,hbq3⟩;obtain rfl:e = .returned (.int .i64 (dJ b)):=he)
     refine aY bq2 hbq3 ?_;intro bq3 lq3;refine cD [8,9] (lB:=[_,_]) ?_;refine gS (aD ?_);have hTq3:=hTwx.keep bq3;have hZq3:=hZwx.keep bq3;have kwq3:=kwwx.trans (bq3.mono kwwx.size);have kwxq3:=bq3;obtain ⟨d0,d1,d2,e0,e1,e2,lz⟩:=dA hZq3;go_wp2_with fail
     refine bodyPost_ret (v:=.tuple #[.agg (Ro 6 0 none 0 0),.int .i64 (dJ b)]) (by simp [results,results125,go_sem,d0,d1,d2]) rfl ⟨6,0,none,0,0,rfl,?_⟩;exact ((kwq3.setCell (by simp<;>omega) _).setCell (by simp<;>omega) _).setCell (by simp<;>omega) _
 ·replace h1:iI (bJ N) ctx (.mk ka na sa) (.mk 6 0 [])=_:=h1;have hC:=aD (fun (A2:Option Addr) (c2:Nat) (w:World) (hrc:Rd w C 0 ctx) (hrt:Rd w Aa 0 sa) (hr2:Rd w A2 0 [])=>cC ih ctx C cc ka na sa Aa ca 6 0 [] A2 c2 _ w h1 hva hvc (by omega) hrc hrt (by simp [aH]) hr2);injection hs with hs;subst hs;clear h1 hva hvc ih;go_enter func125,ntmps125;go_upto_region 15 with fail
  refine sX (show Blk _ w.heap.size (Ro 8 n (some ⟨bk,ok,none⟩) 1 c) from ((aC w 25 _ rfl).alloc _)) (show Blk _ (w.heap.size+1) Zr from (aC _ 25 _ (by simp))) bw2 ?_;intro wx hTwx hZwx kwwx;have v2:=aF hTwx.three.2.2;obtain ⟨ua1,ua2,ua3⟩:=iG kwwx a1 a2 a3;refine dY wx [8,9] [1,2,3,4,5] 10 5 (lT:=[_,_,_,_,_]) ?_;intro q0 bq0;refine bU (aD ?_);refine bG 0 ?_
  ·go_wp2_with (go_at_call 23;refine (bB _ _ _).mono ?_;rintro e q1 ⟨rfl,hbq1⟩)
   refine aY bq0 hbq1 ?_;intro bq1 lq1;refine bG 6 ?_
   ·go_wp2_with (go_at_call 23;refine (bB _ _ _).mono ?_;rintro e q2 ⟨rfl,hbq2⟩)
    refine aY bq1 hbq2 ?_;intro bq2 lq2;refine bG 7 ?_
    ·go_wp2_with (go_at_call 46;refine (hC.out none 0 _ ((hrc.below kwwx).below bq2) ((ra.below kwwx).below bq2) Rd.nil).mono ?_;rintro e q3 ⟨he,hbq3⟩;obtain rfl:e = .returned (.int .i64 0):=he)
     refine aY bq2 hbq3 ?_;intro bq3 lq3;refine cD [8,9] (lB:=[_,_]) ?_;refine gS (aD ?_);have hTq3:=hTwx.keep bq3;have hZq3:=hZwx.keep bq3;have kwq3:=kwwx.trans (bq3.mono kwwx.size);have kwxq3:=bq3;obtain ⟨d0,d1,d2,e0,e1,e2,lz⟩:=dA hZq3;go_wp2_with fail
     refine bodyPost_ret (v:=.tuple #[.agg (Ro 6 0 none 0 0),.int .i64 0]) (by simp [results,results125,go_sem,d0,d1,d2]) rfl ⟨none,0,rfl,by simp,Rd.nil,?_⟩;exact ((kwq3.setCell (by simp<;>omega) _).setCell (by simp<;>omega) _).setCell (by simp<;>omega) _
theorem aBr {N:Nat}(ih:nE N)(ctx:List Tm)(C:Option Addr)(cc:Nat)(n:Int)(A:Option Addr)(c:Nat)(ka na:Int)(sa:List Tm)(r:Rs Tm)(w:World)(hs:aVc (bJ N) ctx (.mk ka na sa)=some r)(hva:aE (.mk ka na sa)=true)(hvc:∀u,u∈ctx→aE u=true)(hm:ctx.length≤20)(hrc:Rd w C 0 ctx)(hr:Rd w A 0 [.mk ka na sa]) :
  Calls prog 125 #[.slice C ctx.length cc,.agg (Ro 11 n A 1 c)] w (oJ w r):=by
 obtain ⟨bk,ok,Aa,ca,rfl,a1,a2,a3,hla,ra⟩:=kW hr;simp only [Nat.zero_mul,Nat.add_zero,Nat.one_mul,Nat.reduceMul] at a1 a2 a3
 have lbp:=lL _ _ a1;rcases aO hs with ⟨b,h1,rfl⟩|⟨⟨k1,n1,s1⟩,h1,hs⟩
 ·have hI:=aD (fun (w:World) (hrc:Rd w C 0 ctx) (hra:Rd w Aa 0 sa)=>ih ctx ka na sa _ h1 hva hvc (by omega) C cc Aa ca w hrc hra);have qb:=iL b;clear hs h1 hva hvc ih;go_enter func125,ntmps125;go_upto_region 20 with (go_at_call 68;refine (hI.out _ ((hrc.alloc _).alloc _) ((ra.alloc _).alloc _)).mono ?_;rintro e w1 ⟨rfl,hb1⟩;have hTw1:=cU hb1;have hZw1:=bH hb1;have kww1:Bw w w1:=bS bw2 hb1;have hTw2:=hTw1.alloc (.cells Zr 25);have hZw2:=hZw1.alloc (.cells Zr 25);have hGw2:=aC w1 25 Zr rfl;have kww2:=kww1.alloc kww1.size (.cells Zr 25))
  refine aMc hTw2 hZw2 hGw2 kww2 ?_;intro wl hTwl hZwl hGwl kwwl;have lTz:=hTwl.lt;have lZz:=hZwl.lt;have lGz:=hGwl.lt;have nz0:bk≠(w.heap.size+1):=by omega
  have nz1:w.heap.size≠(w.heap.size+1):=by omega
  have nz2:w1.heap.size≠(w.heap.size+1):=by have:=hZw1.lt;omega
  have lv:=dV (z:=(w.heap.size+1)) hTwl.three.2.2 nz1;obtain ⟨lg0,lg1,lg2⟩:=rkB hGwl nz2;obtain ⟨la1,la2,la3⟩:=rk3 kwwl nz0 a1 a2 a3;refine gBk wl (w.heap.size+1) [13] [0,1,2,3,4,5,6,7,8,11] 14 4 (lT:=[_,_,_,_,_,_,_,_,_,_]) ?_;intro q0 bq0 keq0;refine bU (aD ?_);refine bG 9 ?_;go_wp2_with fail
  refine dM ?_;intro q1 hbq1 zq1 seq1;refine xQ bq0 hbq1 ?_;intro bq1 lq1 keq1;refine bG 10 ?_;go_wp2_with (go_at_call 31;refine (bO 10 (aS (k:=0) (n:=0) (ks:=[]) (by simp) (Rd.nil (w:=q1)).rdp (aS hla ((ra.below kwwl).below bq1).rdp (aS hla ((ra.below kwwl).below bq1).rdp cB))) 3 rfl (by omega) _ _ zq1).mono ?_;rintro e q2 ⟨A7,c7,rfl,r7,hbq2⟩)
  refine xQ bq1 hbq2 ?_;intro bq2 lq2 keq2;refine bG 12 ?_;have hZz:=hZwl.keep bq2;obtain ⟨d0,d1,d2,e0,e1,e2,lz⟩:=dA hZz;go_wp2_with fail
  refine cK ?_;intro q3 hn;have hZq3:Blk q3 (w.heap.size+1) (Ro 10 0 A7 3 c7):=by rw [hn];exact ((hZz.set_ 0 _).set_ 1 _).set_ 2 _
  have kwq3:Bw w q3:=by rw [hn];exact (bV (kwwl.trans (bq2.mono kwwl.size)))
  have keq3:KE wl (w.heap.size+1) q3:=by rw [hn];exact ((keq2.set _ _).set _ _).set _ _
  clear hn d0 d1 d2 e0 e1 e2 lz;refine aP keq3 ?_;refine cD [13] (lB:=[_]) ?_;refine gS (aD ?_);obtain ⟨d0,d1,d2,e0,e1,e2,lz⟩:=dA hZq3;go_wp2_with fail
  refine bodyPost_ret (v:=.tuple #[.agg (Ro 10 0 A7 3 c7),.int .i64 (dJ b)]) (by simp [results,results125,go_sem,d0,d1,d2]) rfl ⟨10,0,A7,3,c7,rfl,kwq3⟩
 ·have hI:=aD (fun (w:World) (hrc:Rd w C 0 ctx) (hra:Rd w Aa 0 sa)=>ih ctx ka na sa _ h1 hva hvc (by omega) C cc Aa ca w hrc hra);have hvl:=aD (show ∀t,t∈[.mk k1 n1 s1,.mk ka na sa,.mk ka na sa]→aE t=true from fun t ht=>by
   have hd:=dO h1;rcases List.mem_cons.1 ht with rfl|ht
   ·exact hd
   ·rcases List.mem_cons.1 ht with rfl|ht
    ·exact hva
    ·rw [List.mem_singleton.1 ht];exact hva)
  rcases aO hs with ⟨b,h2,rfl⟩|⟨l5,h2,hs⟩
  ·have hS:=aD (fun (A:Option Addr) (c:Nat) (w:World) (hrc:Rd w C 0 ctx) (hr:Rd w A 0 s1)=>dZ ih ctx C cc k1 n1 s1 A c _ w h2 (dO h1) hvc (by omega) hrc hr);have qb:=iL b;clear hs h1 h2 hva hvc ih;go_enter func125,ntmps125;go_upto_region 20 with (first
    | (go_at_call 67;have _t:=tok;refine (hS.out _ _ _ (hrc.below kww2) r1w2).mono ?_;rintro e w3 ⟨l5,rfl,hb3⟩;have hTw3:=hTw2.keep hb3;have hZw3:=hZw2.keep hb3;have hGw3:=hGw2.keep hb3;have kww3:=kww2.trans (hb3.mono kww2.size);have r1q:=r1w2.below hb3)
    | (go_at_call 68;refine (hI.out _ ((hrc.alloc _).alloc _) ((ra.alloc _).alloc _)).mono ?_;rintro e w1 ⟨A1,c1,rfl,hl1,r1,hb1⟩;have hTw1:=cU hb1;have hZw1:=bH hb1;have kww1:Bw w w1:=bS bw2 hb1;have hTw2:=hTw1.alloc (.cells (Ro k1 n1 A1 s1.length c1) 25);have hZw2:=hZw1.alloc (.cells (Ro k1 n1 A1 s1.length c1) 25);have hGw2:=aC w1 25 (Ro k1 n1 A1 s1.length c1) rfl;have kww2:=kww1.alloc kww1.size (.cells (Ro k1 n1 A1 s1.length c1) 25);have r1w2:=r1.alloc (.cells (Ro k1 n1 A1 s1.length c1) 25);obtain ⟨y0,y1,y2⟩:=hGw2.three;have tok:=trivial))
   refine qK hTw3 hZw3 hGw3 kww3 ?_;intro wl hTwl hZwl hGwl kwwl hwwl;have rGl:Rd wl A1 0 s1:=by rw [hwwl];exact r1q
   clear hwwl;have lTz:=hTwl.lt;have lZz:=hZwl.lt;have lGz:=hGwl.lt;have nz0:bk≠(w.heap.size+1):=by omega
   have nz1:w.heap.size≠(w.heap.size+1):=by omega
   have nz2:w1.heap.size≠(w.heap.size+1):=by have:=hZw1.lt;omega
   have lv:=dV (z:=(w.heap.size+1)) hTwl.three.2.2 nz1;obtain ⟨lg0,lg1,lg2⟩:=rkB hGwl nz2;obtain ⟨la1,la2,la3⟩:=rk3 kwwl nz0 a1 a2 a3;refine gBk wl (w.heap.size+1) [13] [0,1,2,3,4,5,6,7,8,11] 14 4 (lT:=[_,_,_,_,_,_,_,_,_,_]) ?_;intro q0 bq0 keq0;refine bU (aD ?_);refine bG 9 ?_;go_wp2_with fail
   refine dM ?_;intro q1 hbq1 zq1 seq1;refine xQ bq0 hbq1 ?_;intro bq1 lq1 keq1;refine bG 10 ?_;go_wp2_with (go_at_call 31;refine (bO 10 (aS hl1 (rGl.below bq1).rdp (aS hla ((ra.below kwwl).below bq1).rdp (aS hla ((ra.below kwwl).below bq1).rdp cB))) 3 rfl (by omega) _ _ zq1).mono ?_;rintro e q2 ⟨A7,c7,rfl,r7,hbq2⟩)
   refine xQ bq1 hbq2 ?_;intro bq2 lq2 keq2;refine bG 12 ?_;have hZz:=hZwl.keep bq2;obtain ⟨d0,d1,d2,e0,e1,e2,lz⟩:=dA hZz;go_wp2_with fail
   refine cK ?_;intro q3 hn;have hZq3:Blk q3 (w.heap.size+1) (Ro 10 0 A7 3 c7):=by rw [hn];exact ((hZz.set_ 0 _).set_ 1 _).set_ 2 _
   have kwq3:Bw w q3:=by rw [hn];exact (bV (kwwl.trans (bq2.mono kwwl.size)))
   have keq3:KE wl (w.heap.size+1) q3:=by rw [hn];exact ((keq2.set _ _).set _ _).set _ _
   clear hn d0 d1 d2 e0 e1 e2 lz;refine aP keq3 ?_;refine cD [13] (lB:=[_]) ?_;refine gS (aD ?_);obtain ⟨d0,d1,d2,e0,e1,e2,lz⟩:=dA hZq3;go_wp2_with fail
   refine bodyPost_ret (v:=.tuple #[.agg (Ro 10 0 A7 3 c7),.int .i64 (dJ b)]) (by simp [results,results125,go_sem,d0,d1,d2]) rfl ⟨10,0,A7,3,c7,rfl,kwq3⟩
  ·have hS:=aD (fun (A:Option Addr) (c:Nat) (w:World) (hrc:Rd w C 0 ctx) (hr:Rd w A 0 s1)=>dZ ih ctx C cc k1 n1 s1 A c _ w h2 (dO h1) hvc (by omega) hrc hr);injection hs with hs;subst hs;clear h1 h2 hva hvc ih;go_enter func125,ntmps125;go_upto_region 20 with (first
    | (go_at_call 67;have _t:=tok;refine (hS.out _ _ _ (hrc.below kww2) r1w2).mono ?_;rintro e w3 ⟨rfl,hb3⟩;have hTw3:=hTw2.keep hb3;have hZw3:=hZw2.keep hb3;have hGw3:=hGw2.keep hb3;have kww3:=kww2.trans (hb3.mono kww2.size);have r1q:=r1w2.below hb3)
    | (go_at_call 68;refine (hI.out _ ((hrc.alloc _).alloc _) ((ra.alloc _).alloc _)).mono ?_;rintro e w1 ⟨A1,c1,rfl,hl1,r1,hb1⟩;have hTw1:=cU hb1;have hZw1:=bH hb1;have kww1:Bw w w1:=bS bw2 hb1;have hTw2:=hTw1.alloc (.cells (Ro k1 n1 A1 s1.length c1) 25);have hZw2:=hZw1.alloc (.cells (Ro k1 n1 A1 s1.length c1) 25);have hGw2:=aC w1 25 (Ro k1 n1 A1 s1.length c1) rfl;have kww2:=kww1.alloc kww1.size (.cells (Ro k1 n1 A1 s1.length c1) 25);have r1w2:=r1.alloc (.cells (Ro k1 n1 A1 s1.length c1) 25);obtain ⟨y0,y1,y2⟩:=hGw2.three;have tok:=trivial))
   refine qK hTw3 hZw3 hGw3 kww3 ?_;intro wl hTwl hZwl hGwl kwwl hwwl;have rGl:Rd wl A1 0 s1:=by rw [hwwl];exact r1q
   clear hwwl;have lTz:=hTwl.lt;have lZz:=hZwl.lt;have lGz:=hGwl.lt;have nz0:bk≠(w.heap.size+1):=by omega
   have nz1:w.heap.size≠(w.heap.size+1):=by omega
   have nz2:w1.heap.size≠(w.heap.size+1):=by have:=hZw1.lt;omega
   have lv:=dV (z:=(w.heap.size+1)) hTwl.three.2.2 nz1;obtain ⟨lg0,lg1,lg2⟩:=rkB hGwl nz2;obtain ⟨la1,la2,la3⟩:=rk3 kwwl nz0 a1 a2 a3;refine gBk wl (w.heap.size+1) [13] [0,1,2,3,4,5,6,7,8,11] 14 4 (lT:=[_,_,_,_,_,_,_,_,_,_]) ?_;intro q0 bq0 keq0;refine bU (aD ?_);refine bG 9 ?_;go_wp2_with fail
   refine dM ?_;intro q1 hbq1 zq1 seq1;refine xQ bq0 hbq1 ?_;intro bq1 lq1 keq1;refine bG 10 ?_;go_wp2_with (go_at_call 31;refine (bO 10 (aS hl1 (rGl.below bq1).rdp (aS hla ((ra.below kwwl).below bq1).rdp (aS hla ((ra.below kwwl).below bq1).rdp cB))) 3 rfl (by omega) _ _ zq1).mono ?_;rintro e q2 ⟨A7,c7,rfl,r7,hbq2⟩)
   refine xQ bq1 hbq2 ?_;intro bq2 lq2 keq2;refine bG 12 ?_;have hZz:=hZwl.keep bq2;obtain ⟨d0,d1,d2,e0,e1,e2,lz⟩:=dA hZz;go_wp2_with fail
   refine cK ?_;intro q3 hn;have hZq3:Blk q3 (w.heap.size+1) (Ro 10 0 A7 3 c7):=by rw [hn];exact ((hZz.set_ 0 _).set_ 1 _).set_ 2 _
   have rq3:Rd q3 A7 0 [.mk k1 n1 s1,.mk ka na sa,.mk ka na sa]:=by rw [hn];exact eF hZz hvl.out r7 _ _ _
   have kwq3:Bw w q3:=by rw [hn];exact (bV (kwwl.trans (bq2.mono kwwl.size)))
   have keq3:KE wl (w.heap.size+1) q3:=by rw [hn];exact ((keq2.set _ _).set _ _).set _ _
   clear hn d0 d1 d2 e0 e1 e2 lz;refine aP keq3 ?_;refine cD [13] (lB:=[_]) ?_;refine gS (aD ?_);obtain ⟨d0,d1,d2,e0,e1,e2,lz⟩:=dA hZq3;go_wp2_with fail
   refine bodyPost_ret (v:=.tuple #[.agg (Ro 10 0 A7 3 c7),.int .i64 0]) (by simp [results,results125,go_sem,d0,d1,d2]) rfl ⟨A7,c7,rfl,by simp,rq3,kwq3⟩
theorem aUp (u:Tm)(hu:oE u=true):(∀(t:Tm) (x d:Int),oE t=true→oE (cZ u x d t)=true)∧∀(ts:List Tm) (k x d:Int) (i:Nat),yU ts=true→yU (cO u k x d i ts)=true:=by
 refine bP (fun k n ks ih x d h=>?_) (fun k x d i _=>rfl) (fun t ts h1 h2 k x d i h=>?_)
 ·rw [oE,Bool.and_eq_true] at h;rw [cZ];split
  ·rw [(aBo d).1];exact hu
  ·rw [oE,h.1,ih k x d 0 h.2];rfl
 ·rw [yU,Bool.and_eq_true] at h;rw [cO,yU,h1 _ _ h.1,h2 k x d (i+1) h.2];rfl
theorem iN {t:Tm}(h:aE t=true):oE t=true:=shape_nz.1 _ _ (aW h)
def NzR (o:Tm):Prop:=oE o=true∧o.size≤200000
theorem zJ {t:Tm}(h:aE t=true):NzR t:=⟨iN h,by have:=eJ h;omega⟩
theorem aMm {u t:Tm}(hu:oE u=true)(huz:u.size≤401)(ht:aE t=true):NzR (cZ u 0 0 t):=by
 refine ⟨(aUp u hu).1 t 0 0 (iN ht),?_⟩;have h1:=wP u huz (by omega) t 0 0;have h2:=eJ ht;have h3:t.size*401≤400*401:=Nat.mul_le_mul_right _ h2;omega
theorem vZ {k:Int}(hk:(k != 0)=true){a b:Tm}(ha:aE a=true)(hb:aE b=true):NzR (.mk k 0 [a,b]):=by
 have h1:=eJ ha;have h2:=eJ hb;refine ⟨?_,by simp only [Tm.size,aH];omega⟩;simp only [oE,yU,hk,iN ha,iN hb];rfl
theorem bM {α β:Type}{o:Option (Rs α)}{f:α→Option (Rs β)}{x:β}(h:bd o f=some (.ok x)):∃a,o=some (.ok a)∧f a=some (.ok x):=by
 rcases aO h with ⟨b,_,hb⟩|h
 ·cases hb
 ·exact h
theorem cM {α:Type}{a b:α}(h:(some (.ok a):Option (Rs α))=some (.ok b)):a=b:=by injection h with h;injection h
theorem aHv {d:Nat}{k n:Int}{ks:List Tm}(h:shape d (.mk k n ks)=true)(hn:¬(k=3∨k=13)∧¬k=4∧¬k=5∧¬k=9∧¬k=10∧¬k=12∧¬k=14∧¬k=1∧¬k=2∧¬k=6∧¬k=7∧¬k=8∧¬k=11):k=15∨k=16:=by
 obtain ⟨q,_,ha,_,_,_⟩:=bX h;unfold aK at ha
 repeat' split at ha
 all_goals omega
theorem aAy {N:Nat}{ctx:List Tm}{k n:Int}{ks:List Tm}{o:Tm}(hv:aE (.mk k n ks)=true)(hvc:∀u,u∈ctx→aE u=true)(h:fP (bJ N) ctx (.mk k n ks)=some (.ok o)):NzR o:=by
 have leaf:∀(k' n':Int),(k' != 0)=true→NzR (.mk k' n' []):=fun k' n' hk=>⟨by simp [oE,yU,hk],by simp [Tm.size,aH]⟩
 have hkv:∀i,i<ks.length→aE (aI ks i)=true:=fun i hi=>aV hv hi
 have hlen:=eT hv;rw [fP] at h;by_cases h3:k=3∨k=13
 ·rw [if_pos h3] at h;obtain ⟨i,_,h⟩:=bM h;obtain ⟨j,_,h⟩:=bM h;have:=cM h;subst this;exact leaf _ _ rfl
 rw [if_neg h3] at h;by_cases h4:k=4
 ·rw [if_pos h4] at h;subst h4;have h0:aK 4=2:=rfl;obtain ⟨i,_,h⟩:=bM h;obtain ⟨u,hu,h⟩:=bM h;obtain ⟨_,_,h⟩:=bM h;have:=cM h;subst this;exact vZ rfl (hkv 0 (by omega)) (dO hu)
 rw [if_neg h4] at h;by_cases h5:k=5
 ·rw [if_pos h5] at h;subst h5;have h0:aK 5=2:=rfl;obtain ⟨hh,h1,h⟩:=bM h;obtain ⟨_,_,h⟩:=bM h;obtain ⟨hk,hvh⟩:=mT h1;obtain ⟨kh,nh,sh⟩:=hh;obtain rfl:kh=3:=hk;obtain ⟨_,_,_,_,_,_,rfl⟩:=aAe (k:=3) rfl hvh;have:=cM h;subst this;have hu:=hkv 1 (by omega);exact aMm (iN hu) (by have:=eJ hu;omega) (aV (i:=1) hvh (by show 1<2;omega))
 rw [if_neg h5] at h;by_cases h9:k=9
 ·rw [if_pos h9] at h;subst h9;have h0:aK 9=4:=rfl;obtain ⟨_,_,h⟩:=bM h;obtain ⟨_,_,h⟩:=bM h;obtain ⟨_,_,h⟩:=bM h;obtain ⟨_,_,h⟩:=bM h;have:=cM h;subst this;exact vZ rfl (hkv 0 (by omega)) (hkv 3 (by omega))
 rw [if_neg h9] at h;by_cases h10:k=10
 ·rw [if_pos h10] at h;obtain ⟨_,_,h⟩:=bM h;obtain ⟨_,_,h⟩:=bM h;obtain ⟨_,_,h⟩:=bM h;have:=cM h;subst this;exact leaf _ _ rfl
 rw [if_neg h10] at h;by_cases h12:k=12
 ·rw [if_pos h12] at h;subst h12;have h0:aK 12=3:=rfl;obtain ⟨hh,h1,h⟩:=bM h;obtain ⟨_,_,h⟩:=bM h;obtain ⟨_,_,h⟩:=bM h;obtain ⟨hk,hvh⟩:=mT h1;obtain ⟨kh,nh,sh⟩:=hh;obtain rfl:kh=10:=hk;obtain ⟨_,_,_,_,_,_,_,_,_,rfl⟩:=aSr (k:=10) rfl hvh;have:=cM h;subst this;exact vZ rfl (hkv 0 (by omega)) (aV (i:=2) hvh (by show 2<3;omega))
 rw [if_neg h12] at h;by_cases h14:k=14
 ·rw [if_pos h14] at h;subst h14;have h0:aK 14=3:=rfl;obtain ⟨_,_,h⟩:=bM h;obtain ⟨_,_,h⟩:=bM h;obtain ⟨_,_,h⟩:=bM h;obtain ⟨_,_,h⟩:=bM h;obtain ⟨_,_,h⟩:=bM h;have:=cM h;subst this;exact zJ (hkv 0 (by omega))
 rw [if_neg h14] at h;by_cases h1:k=1
 ·rw [if_pos h1] at h;unfold aDq at h
  split at h
  ·injection h with h;cases h
  ·rename_i hl
   have:=cM h;subst this;obtain ⟨q,_,_,hn0,_,_⟩:=bX (aW hv);have hj:ctx.length - 1 - n.toNat<ctx.length:=by omega
   have hvx:=hvc _ (iP hj);rw [show ctx.getD (ctx.length - 1 - n.toNat) default=ctx[ctx.length - 1 - n.toNat] by simp [List.getD,nY hj]];refine ⟨by rw [(aBo (n+1)).1];exact iN hvx,by rw [sI];have:=eJ hvx;omega⟩
 rw [if_neg h1] at h;by_cases h2:k=2
 ·rw [if_pos h2] at h;split at h
  ·injection h with h;cases h
  ·have:=cM h;subst this;exact leaf _ _ rfl
 rw [if_neg h2] at h;by_cases h6:k=6
 ·rw [if_pos h6] at h;have:=cM h;subst this;exact leaf _ _ rfl
 rw [if_neg h6] at h;by_cases h7:k=7
 ·rw [if_pos h7] at h;have:=cM h;subst this;exact leaf _ _ rfl
 rw [if_neg h7] at h;by_cases h8:k=8
 ·rw [if_pos h8] at h;obtain ⟨_,_,h⟩:=bM h;have:=cM h;subst this;exact leaf _ _ rfl
 rw [if_neg h8] at h;by_cases h11:k=11
 ·rw [if_pos h11] at h;subst h11;have h0:aK 11=1:=rfl;obtain ⟨s,hs,h⟩:=bM h;obtain ⟨_,_,h⟩:=bM h;have:=cM h;subst this;have hva:=hkv 0 (by omega);have hvs:=dO hs;have z1:=eJ hva;have z2:=eJ hvs;exact ⟨by simp only [oE,yU,iN hva,iN hvs];rfl,by simp only [Tm.size,aH];omega⟩
 rw [if_neg h11] at h;obtain ⟨hh,hsx,h⟩:=bM h;obtain ⟨hk,hvh⟩:=mT hsx;obtain ⟨kh,nh,sh⟩:=hh;obtain rfl:kh=13:=hk;obtain ⟨_,_,_,_,_,_,rfl⟩:=aAe (k:=13) rfl hvh;have hks:0<ks.length:=by
  have ha:=hlen;have hm:k=15∨k=16:=aHv (aW hv) ⟨h3,h4,h5,h9,h10,h12,h14,h1,h2,h6,h7,h8,h11⟩;rcases hm with rfl|rfl
  ·have h0:aK 15=1:=rfl;omega
  ·have h0:aK 16=1:=rfl;omega
 split at h
 ·have:=cM h;subst this;exact zJ (aV (i:=0) hvh (by show 0<2;omega))
 ·have:=cM h;subst this;have hu:=hkv 0 hks;have hz:=eJ hu;exact aMm (by simp only [oE,yU,iN hu];rfl) (by simp only [Tm.size,aH];omega) (aV (i:=1) hvh (by show 1<2;omega))
theorem jF {w:World}{z:Nat}{k n:Int}{ks:List Tm}{A:Option Addr}(hZ:Blk w z Zr)(hv:oE (.mk k n ks)=true)(hr:Rd w A 0 ks)(x y v:Value) :
  Rd (((w.setCell ⟨z,0,none⟩ x).setCell ⟨z,1,none⟩ y).setCell ⟨z,2,none⟩ v) A 0 ks:=by
 rw [oE,Bool.and_eq_true] at hv;exact (((((aLz hZ).2 ks A 0 hv.2 hr).setCell (a:=⟨z,0,none⟩) (fun h=>h rfl) x).setCell (a:=⟨z,1,none⟩) (fun h=>h rfl) y).setCell (a:=⟨z,2,none⟩) (fun h=>h rfl) v).rd
theorem aAn (ctx:List Tm)(C:Option Addr)(cc:Nat)(k n:Int)(ks:List Tm)(A:Option Addr)(c:Nat)(r:Rs Tm)(w:World)(q1:(k==1)=false)(q2:(k==2)=false)(q6:(k==6)=false)(q7:(k==7)=false)(q8:(k==8)=false)(q11:(k==11)=false)(hX:Hid (∀(w:World),Rd w C 0 ctx→Rd w A 0 ks→Calls prog 143 #[.slice C ctx.length cc,.agg (Ro k n A ks.length c)] w (oJ w r)))(hnz:∀o,r = .ok o→oE o=true)(hrc:Rd w C 0 ctx)(hra:Rd w A 0 ks) :
  Calls prog 125 #[.slice C ctx.length cc,.agg (Ro k n A ks.length c)] w (oJ w r):=by
 cases r with
 | ok o=>
  obtain ⟨k1,n1,s1⟩:=o;replace hnz:=hnz _ rfl;go_enter func125,ntmps125;go_wp2_with (go_at_call 143;refine (hX.out _ ((hrc.alloc _).alloc _) ((hra.alloc _).alloc _)).mono ?_;rintro e w1 ⟨A1,c1,rfl,hl1,r1,hb1⟩;have hZ1:=bH hb1;have g1:Bw w w1:=bS bw2 hb1;obtain ⟨d0,d1,d2,e0,e1,e2,lz⟩:=dA hZ1)
  refine bodyPost_ret (v:=.tuple #[.agg (Ro k1 n1 A1 s1.length c1),.int .i64 0]) (by simp [results,results125,go_sem,d0,d1,d2]) rfl ⟨A1,c1,rfl,hl1,jF hZ1 hnz r1 _ _ _,?_⟩;exact bV g1
 | no b=>
  clear hnz;go_enter func125,ntmps125;go_wp2_with (go_at_call 143;refine (hX.out _ ((hrc.alloc _).alloc _) ((hra.alloc _).alloc _)).mono ?_;rintro e w1 ⟨k1,n1,A1,l1,c1,rfl,hb1⟩;have hZ1:=bH hb1;have g1:Bw w w1:=bS bw2 hb1;obtain ⟨d0,d1,d2,e0,e1,e2,lz⟩:=dA hZ1)
  refine bodyPost_ret (v:=.tuple #[.agg (Ro k1 n1 A1 l1 c1),.int .i64 (dJ b)]) (by simp [results,results125,go_sem,d0,d1,d2]) rfl ⟨k1,n1,A1,l1,c1,rfl,?_⟩;exact bV g1
theorem aRp (ctx:List Tm)(C:Option Addr)(cc:Nat)(k n:Int)(ks:List Tm)(A:Option Addr)(c:Nat)(r:Rs Tm)(w:World)(hk:((k==3)=true)∨((k==3)=false∧(k==13)=true))(hX:Hid (∀(w:World),Rd w C 0 ctx→Rd w A 0 ks→Calls prog 118 #[.slice C ctx.length cc,.agg (Ro k n A ks.length c)] w (oJ w r)))(hnz:∀o,r = .ok o→oE o=true)(hrc:Rd w C 0 ctx)(hra:Rd w A 0 ks) :
  Calls prog 89 #[.slice C ctx.length cc,.agg (Ro k n A ks.length c)] w (oJ w r):=by
 rcases hk with q3|⟨q3,q13⟩
 ·cases r with
   | ok o=>
    obtain ⟨k1,n1,s1⟩:=o;replace hnz:=hnz _ rfl;go_enter func89,ntmps89;go_wp2_with (go_at_call 118;refine (hX.out _ ((hrc.alloc _).alloc _) ((hra.alloc _).alloc _)).mono ?_;rintro e w1 ⟨A1,c1,rfl,hl1,r1,hb1⟩;have hZ1:=bH hb1;have g1:Bw w w1:=bS bw2 hb1;obtain ⟨d0,d1,d2,e0,e1,e2,lz⟩:=dA hZ1)
    refine bodyPost_ret (v:=.tuple #[.agg (Ro k1 n1 A1 s1.length c1),.int .i64 0]) (by simp [results,results89,go_sem,d0,d1,d2]) rfl ⟨A1,c1,rfl,hl1,jF hZ1 hnz r1 _ _ _,?_⟩;exact bV g1
   | no b=>
    clear hnz;go_enter func89,ntmps89;go_wp2_with (go_at_call 118;refine (hX.out _ ((hrc.alloc _).alloc _) ((hra.alloc _).alloc _)).mono ?_;rintro e w1 ⟨k1,n1,A1,l1,c1,rfl,hb1⟩;have hZ1:=bH hb1;have g1:Bw w w1:=bS bw2 hb1;obtain ⟨d0,d1,d2,e0,e1,e2,lz⟩:=dA hZ1)
    refine bodyPost_ret (v:=.tuple #[.agg (Ro k1 n1 A1 l1 c1),.int .i64 (dJ b)]) (by simp [results,results89,go_sem,d0,d1,d2]) rfl ⟨k1,n1,A1,l1,c1,rfl,?_⟩;exact bV g1
 ·cases r with
   | ok o=>
    obtain ⟨k1,n1,s1⟩:=o;replace hnz:=hnz _ rfl;go_enter func89,ntmps89;go_wp2_with (go_at_call 118;refine (hX.out _ ((hrc.alloc _).alloc _) ((hra.alloc _).alloc _)).mono ?_;rintro e w1 ⟨A1,c1,rfl,hl1,r1,hb1⟩;have hZ1:=bH hb1;have g1:Bw w w1:=bS bw2 hb1;obtain ⟨d0,d1,d2,e0,e1,e2,lz⟩:=dA hZ1)
    refine bodyPost_ret (v:=.tuple #[.agg (Ro k1 n1 A1 s1.length c1),.int .i64 0]) (by simp [results,results89,go_sem,d0,d1,d2]) rfl ⟨A1,c1,rfl,hl1,jF hZ1 hnz r1 _ _ _,?_⟩;exact bV g1
   | no b=>
    clear hnz;go_enter func89,ntmps89;go_wp2_with (go_at_call 118;refine (hX.out _ ((hrc.alloc _).alloc _) ((hra.alloc _).alloc _)).mono ?_;rintro e w1 ⟨k1,n1,A1,l1,c1,rfl,hb1⟩;have hZ1:=bH hb1;have g1:Bw w w1:=bS bw2 hb1;obtain ⟨d0,d1,d2,e0,e1,e2,lz⟩:=dA hZ1)
    refine bodyPost_ret (v:=.tuple #[.agg (Ro k1 n1 A1 l1 c1),.int .i64 (dJ b)]) (by simp [results,results89,go_sem,d0,d1,d2]) rfl ⟨k1,n1,A1,l1,c1,rfl,?_⟩;exact bV g1
theorem aQz (ctx:List Tm)(C:Option Addr)(cc:Nat)(k n:Int)(ks:List Tm)(A:Option Addr)(c:Nat)(r:Rs Tm)(w:World)(q3:(k==3)=false)(q13:(k==13)=false)(qk:(k==4)=true)(hX:Hid (∀(w:World),Rd w C 0 ctx→Rd w A 0 ks→Calls prog 119 #[.slice C ctx.length cc,.agg (Ro k n A ks.length c)] w (oJ w r)))(hnz:∀o,r = .ok o→oE o=true)(hrc:Rd w C 0 ctx)(hra:Rd w A 0 ks) :
  Calls prog 89 #[.slice C ctx.length cc,.agg (Ro k n A ks.length c)] w (oJ w r):=by
 cases r with
 | ok o=>
  obtain ⟨k1,n1,s1⟩:=o;replace hnz:=hnz _ rfl;go_enter func89,ntmps89;go_wp2_with (go_at_call 119;refine (hX.out _ ((hrc.alloc _).alloc _) ((hra.alloc _).alloc _)).mono ?_;rintro e w1 ⟨A1,c1,rfl,hl1,r1,hb1⟩;have hZ1:=bH hb1;have g1:Bw w w1:=bS bw2 hb1;obtain ⟨d0,d1,d2,e0,e1,e2,lz⟩:=dA hZ1)
  refine bodyPost_ret (v:=.tuple #[.agg (Ro k1 n1 A1 s1.length c1),.int .i64 0]) (by simp [results,results89,go_sem,d0,d1,d2]) rfl ⟨A1,c1,rfl,hl1,jF hZ1 hnz r1 _ _ _,?_⟩;exact bV g1
 | no b=>
  clear hnz;go_enter func89,ntmps89;go_wp2_with (go_at_call 119;refine (hX.out _ ((hrc.alloc _).alloc _) ((hra.alloc _).alloc _)).mono ?_;rintro e w1 ⟨k1,n1,A1,l1,c1,rfl,hb1⟩;have hZ1:=bH hb1;have g1:Bw w w1:=bS bw2 hb1;obtain ⟨d0,d1,d2,e0,e1,e2,lz⟩:=dA hZ1)
  refine bodyPost_ret (v:=.tuple #[.agg (Ro k1 n1 A1 l1 c1),.int .i64 (dJ b)]) (by simp [results,results89,go_sem,d0,d1,d2]) rfl ⟨k1,n1,A1,l1,c1,rfl,?_⟩;exact bV g1
theorem aQl (ctx:List Tm)(C:Option Addr)(cc:Nat)(k n:Int)(ks:List Tm)(A:Option Addr)(c:Nat)(r:Rs Tm)(w:World)(q3:(k==3)=false)(q13:(k==13)=false)(q4:(k==4)=false)(qk:(k==5)=true)(hX:Hid (∀(w:World),Rd w C 0 ctx→Rd w A 0 ks→Calls prog 120 #[.slice C ctx.length cc,.agg (Ro k n A ks.length c)] w (oJ w r)))(hnz:∀o,r = .ok o→oE o=true)(hrc:Rd w C 0 ctx)(hra:Rd w A 0 ks) :
  Calls prog 89 #[.slice C ctx.length cc,.agg (Ro k n A ks.length c)] w (oJ w r):=by
 cases r with
 | ok o=>
  obtain ⟨k1,n1,s1⟩:=o;replace hnz:=hnz _ rfl;go_enter func89,ntmps89;go_wp2_with (go_at_call 120;refine (hX.out _ ((hrc.alloc _).alloc _) ((hra.alloc _).alloc _)).mono ?_;rintro e w1 ⟨A1,c1,rfl,hl1,r1,hb1⟩;have hZ1:=bH hb1;have g1:Bw w w1:=bS bw2 hb1;obtain ⟨d0,d1,d2,e0,e1,e2,lz⟩:=dA hZ1)
  refine bodyPost_ret (v:=.tuple #[.agg (Ro k1 n1 A1 s1.length c1),.int .i64 0]) (by simp [results,results89,go_sem,d0,d1,d2]) rfl ⟨A1,c1,rfl,hl1,jF hZ1 hnz r1 _ _ _,?_⟩;exact bV g1
 | no b=>
  clear hnz;go_enter func89,ntmps89;go_wp2_with (go_at_call 120;refine (hX.out _ ((hrc.alloc _).alloc _) ((hra.alloc _).alloc _)).mono ?_;rintro e w1 ⟨k1,n1,A1,l1,c1,rfl,hb1⟩;have hZ1:=bH hb1;have g1:Bw w w1:=bS bw2 hb1;obtain ⟨d0,d1,d2,e0,e1,e2,lz⟩:=dA hZ1)
  refine bodyPost_ret (v:=.tuple #[.agg (Ro k1 n1 A1 l1 c1),.int .i64 (dJ b)]) (by simp [results,results89,go_sem,d0,d1,d2]) rfl ⟨k1,n1,A1,l1,c1,rfl,?_⟩;exact bV g1
theorem aRd (ctx:List Tm)(C:Option Addr)(cc:Nat)(k n:Int)(ks:List Tm)(A:Option Addr)(c:Nat)(r:Rs Tm)(w:World)(q3:(k==3)=false)(q13:(k==13)=false)(q4:(k==4)=false)(q5:(k==5)=false)(qk:(k==9)=true)(hX:Hid (∀(w:World),Rd w C 0 ctx→Rd w A 0 ks→Calls prog 121 #[.slice C ctx.length cc,.agg (Ro k n A ks.length c)] w (oJ w r)))(hnz:∀o,r = .ok o→oE o=true)(hrc:Rd w C 0 ctx)(hra:Rd w A 0 ks) :
  Calls prog 89 #[.slice C ctx.length cc,.agg (Ro k n A ks.length c)] w (oJ w r):=by
 cases r with
 | ok o=>
  obtain ⟨k1,n1,s1⟩:=o;replace hnz:=hnz _ rfl;go_enter func89,ntmps89;go_wp2_with (go_at_call 121;refine (hX.out _ ((hrc.alloc _).alloc _) ((hra.alloc _).alloc _)).mono ?_;rintro e w1 ⟨A1,c1,rfl,hl1,r1,hb1⟩;have hZ1:=bH hb1;have g1:Bw w w1:=bS bw2 hb1;obtain ⟨d0,d1,d2,e0,e1,e2,lz⟩:=dA hZ1)
  refine bodyPost_ret (v:=.tuple #[.agg (Ro k1 n1 A1 s1.length c1),.int .i64 0]) (by simp [results,results89,go_sem,d0,d1,d2]) rfl ⟨A1,c1,rfl,hl1,jF hZ1 hnz r1 _ _ _,?_⟩;exact bV g1
 | no b=>
  clear hnz;go_enter func89,ntmps89;go_wp2_with (go_at_call 121;refine (hX.out _ ((hrc.alloc _).alloc _) ((hra.alloc _).alloc _)).mono ?_;rintro e w1 ⟨k1,n1,A1,l1,c1,rfl,hb1⟩;have hZ1:=bH hb1;have g1:Bw w w1:=bS bw2 hb1;obtain ⟨d0,d1,d2,e0,e1,e2,lz⟩:=dA hZ1)
  refine bodyPost_ret (v:=.tuple #[.agg (Ro k1 n1 A1 l1 c1),.int .i64 (dJ b)]) (by simp [results,results89,go_sem,d0,d1,d2]) rfl ⟨k1,n1,A1,l1,c1,rfl,?_⟩;exact bV g1
theorem aRr (ctx:List Tm)(C:Option Addr)(cc:Nat)(k n:Int)(ks:List Tm)(A:Option Addr)(c:Nat)(r:Rs Tm)(w:World)(q3:(k==3)=false)(q13:(k==13)=false)(q4:(k==4)=false)(q5:(k==5)=false)(q9:(k==9)=false)(qk:(k==10)=true)(hX:Hid (∀(w:World),Rd w C 0 ctx→Rd w A 0 ks→Calls prog 122 #[.slice C ctx.length cc,.agg (Ro k n A ks.length c)] w (oJ w r)))(hnz:∀o,r = .ok o→oE o=true)(hrc:Rd w C 0 ctx)(hra:Rd w A 0 ks) :
  Calls prog 89 #[.slice C ctx.length cc,.agg (Ro k n A ks.length c)] w (oJ w r):=by
 cases r with
 | ok o=>
  obtain ⟨k1,n1,s1⟩:=o;replace hnz:=hnz _ rfl;go_enter func89,ntmps89;go_wp2_with (go_at_call 122;refine (hX.out _ ((hrc.alloc _).alloc _) ((hra.alloc _).alloc _)).mono ?_;rintro e w1 ⟨A1,c1,rfl,hl1,r1,hb1⟩;have hZ1:=bH hb1;have g1:Bw w w1:=bS bw2 hb1;obtain ⟨d0,d1,d2,e0,e1,e2,lz⟩:=dA hZ1)
  refine bodyPost_ret (v:=.tuple #[.agg (Ro k1 n1 A1 s1.length c1),.int .i64 0]) (by simp [results,results89,go_sem,d0,d1,d2]) rfl ⟨A1,c1,rfl,hl1,jF hZ1 hnz r1 _ _ _,?_⟩;exact bV g1
 | no b=>
  clear hnz;go_enter func89,ntmps89;go_wp2_with (go_at_call 122;refine (hX.out _ ((hrc.alloc _).alloc _) ((hra.alloc _).alloc _)).mono ?_;rintro e w1 ⟨k1,n1,A1,l1,c1,rfl,hb1⟩;have hZ1:=bH hb1;have g1:Bw w w1:=bS bw2 hb1;obtain ⟨d0,d1,d2,e0,e1,e2,lz⟩:=dA hZ1)
  refine bodyPost_ret (v:=.tuple #[.agg (Ro k1 n1 A1 l1 c1),.int .i64 (dJ b)]) (by simp [results,results89,go_sem,d0,d1,d2]) rfl ⟨k1,n1,A1,l1,c1,rfl,?_⟩;exact bV g1
theorem aQm (ctx:List Tm)(C:Option Addr)(cc:Nat)(k n:Int)(ks:List Tm)(A:Option Addr)(c:Nat)(r:Rs Tm)(w:World)(q3:(k==3)=false)(q13:(k==13)=false)(q4:(k==4)=false)(q5:(k==5)=false)(q9:(k==9)=false)(q10:(k==10)=false)(qk:(k==12)=true)(hX:Hid (∀(w:World),Rd w C 0 ctx→Rd w A 0 ks→Calls prog 123 #[.slice C ctx.length cc,.agg (Ro k n A ks.length c)] w (oJ w r)))(hnz:∀o,r = .ok o→oE o=true)(hrc:Rd w C 0 ctx)(hra:Rd w A 0 ks) :
  Calls prog 89 #[.slice C ctx.length cc,.agg (Ro k n A ks.length c)] w (oJ w r):=by
 cases r with
 | ok o=>
  obtain ⟨k1,n1,s1⟩:=o;replace hnz:=hnz _ rfl;go_enter func89,ntmps89;go_wp2_with (go_at_call 123;refine (hX.out _ ((hrc.alloc _).alloc _) ((hra.alloc _).alloc _)).mono ?_;rintro e w1 ⟨A1,c1,rfl,hl1,r1,hb1⟩;have hZ1:=bH hb1;have g1:Bw w w1:=bS bw2 hb1;obtain ⟨d0,d1,d2,e0,e1,e2,lz⟩:=dA hZ1)
  refine bodyPost_ret (v:=.tuple #[.agg (Ro k1 n1 A1 s1.length c1),.int .i64 0]) (by simp [results,results89,go_sem,d0,d1,d2]) rfl ⟨A1,c1,rfl,hl1,jF hZ1 hnz r1 _ _ _,?_⟩;exact bV g1
 | no b=>
  clear hnz;go_enter func89,ntmps89;go_wp2_with (go_at_call 123;refine (hX.out _ ((hrc.alloc _).alloc _) ((hra.alloc _).alloc _)).mono ?_;rintro e w1 ⟨k1,n1,A1,l1,c1,rfl,hb1⟩;have hZ1:=bH hb1;have g1:Bw w w1:=bS bw2 hb1;obtain ⟨d0,d1,d2,e0,e1,e2,lz⟩:=dA hZ1)
  refine bodyPost_ret (v:=.tuple #[.agg (Ro k1 n1 A1 l1 c1),.int .i64 (dJ b)]) (by simp [results,results89,go_sem,d0,d1,d2]) rfl ⟨k1,n1,A1,l1,c1,rfl,?_⟩;exact bV g1
theorem aRm (ctx:List Tm)(C:Option Addr)(cc:Nat)(k n:Int)(ks:List Tm)(A:Option Addr)(c:Nat)(r:Rs Tm)(w:World)(q3:(k==3)=false)(q13:(k==13)=false)(q4:(k==4)=false)(q5:(k==5)=false)(q9:(k==9)=false)(q10:(k==10)=false)(q12:(k==12)=false)(qk:(k==14)=true)(hX:Hid (∀(w:World),Rd w C 0 ctx→Rd w A 0 ks→Calls prog 124 #[.slice C ctx.length cc,.agg (Ro k n A ks.length c)] w (oJ w r)))(hnz:∀o,r = .ok o→oE o=true)(hrc:Rd w C 0 ctx)(hra:Rd w A 0 ks) :
  Calls prog 89 #[.slice C ctx.length cc,.agg (Ro k n A ks.length c)] w (oJ w r):=by
 cases r with
 | ok o=>
  obtain ⟨k1,n1,s1⟩:=o;replace hnz:=hnz _ rfl;go_enter func89,ntmps89;go_wp2_with (go_at_call 124;refine (hX.out _ ((hrc.alloc _).alloc _) ((hra.alloc _).alloc _)).mono ?_;rintro e w1 ⟨A1,c1,rfl,hl1,r1,hb1⟩;have hZ1:=bH hb1;have g1:Bw w w1:=bS bw2 hb1;obtain ⟨d0,d1,d2,e0,e1,e2,lz⟩:=dA hZ1)
  refine bodyPost_ret (v:=.tuple #[.agg (Ro k1 n1 A1 s1.length c1),.int .i64 0]) (by simp [results,results89,go_sem,d0,d1,d2]) rfl ⟨A1,c1,rfl,hl1,jF hZ1 hnz r1 _ _ _,?_⟩;exact bV g1
 | no b=>
  clear hnz;go_enter func89,ntmps89;go_wp2_with (go_at_call 124;refine (hX.out _ ((hrc.alloc _).alloc _) ((hra.alloc _).alloc _)).mono ?_;rintro e w1 ⟨k1,n1,A1,l1,c1,rfl,hb1⟩;have hZ1:=bH hb1;have g1:Bw w w1:=bS bw2 hb1;obtain ⟨d0,d1,d2,e0,e1,e2,lz⟩:=dA hZ1)
  refine bodyPost_ret (v:=.tuple #[.agg (Ro k1 n1 A1 l1 c1),.int .i64 (dJ b)]) (by simp [results,results89,go_sem,d0,d1,d2]) rfl ⟨k1,n1,A1,l1,c1,rfl,?_⟩;exact bV g1
theorem aQe (ctx:List Tm)(C:Option Addr)(cc:Nat)(k n:Int)(ks:List Tm)(A:Option Addr)(c:Nat)(r:Rs Tm)(w:World)(q3:(k==3)=false)(q13:(k==13)=false)(q4:(k==4)=false)(q5:(k==5)=false)(q9:(k==9)=false)(q10:(k==10)=false)(q12:(k==12)=false)(q14:(k==14)=false)(hX:Hid (∀(w:World),Rd w C 0 ctx→Rd w A 0 ks→Calls prog 125 #[.slice C ctx.length cc,.agg (Ro k n A ks.length c)] w (oJ w r)))(hnz:∀o,r = .ok o→oE o=true)(hrc:Rd w C 0 ctx)(hra:Rd w A 0 ks) :
  Calls prog 89 #[.slice C ctx.length cc,.agg (Ro k n A ks.length c)] w (oJ w r):=by
 cases r with
 | ok o=>
  obtain ⟨k1,n1,s1⟩:=o;replace hnz:=hnz _ rfl;go_enter func89,ntmps89;go_wp2_with (go_at_call 125;refine (hX.out _ ((hrc.alloc _).alloc _) ((hra.alloc _).alloc _)).mono ?_;rintro e w1 ⟨A1,c1,rfl,hl1,r1,hb1⟩;have hZ1:=bH hb1;have g1:Bw w w1:=bS bw2 hb1;obtain ⟨d0,d1,d2,e0,e1,e2,lz⟩:=dA hZ1)
  refine bodyPost_ret (v:=.tuple #[.agg (Ro k1 n1 A1 s1.length c1),.int .i64 0]) (by simp [results,results89,go_sem,d0,d1,d2]) rfl ⟨A1,c1,rfl,hl1,jF hZ1 hnz r1 _ _ _,?_⟩;exact bV g1
 | no b=>
  clear hnz;go_enter func89,ntmps89;go_wp2_with (go_at_call 125;refine (hX.out _ ((hrc.alloc _).alloc _) ((hra.alloc _).alloc _)).mono ?_;rintro e w1 ⟨k1,n1,A1,l1,c1,rfl,hb1⟩;have hZ1:=bH hb1;have g1:Bw w w1:=bS bw2 hb1;obtain ⟨d0,d1,d2,e0,e1,e2,lz⟩:=dA hZ1)
  refine bodyPost_ret (v:=.tuple #[.agg (Ro k1 n1 A1 l1 c1),.int .i64 (dJ b)]) (by simp [results,results89,go_sem,d0,d1,d2]) rfl ⟨k1,n1,A1,l1,c1,rfl,?_⟩;exact bV g1
theorem kq {k x:Int}(h:¬k=x):(k==x)=false:=by simpa using h
theorem aDa {N:Nat}(ih:nE N)(ctx:List Tm)(C:Option Addr)(cc:Nat)(k n:Int)(ks:List Tm)(A:Option Addr)(c:Nat)(r:Rs Tm)(w:World)(hv:aE (.mk k n ks)=true)(hk:¬(k=3∨k=13)∧¬k=4∧¬k=5∧¬k=9∧¬k=10∧¬k=12∧¬k=14)(hs:fP (bJ N) ctx (.mk k n ks)=some r)(hvc:∀u,u∈ctx→aE u=true)(hm:ctx.length≤20)(hrc:Rd w C 0 ctx)(hr:Rd w A 0 ks) :
  Calls prog 125 #[.slice C ctx.length cc,.agg (Ro k n A ks.length c)] w (oJ w r):=by
 obtain ⟨hk3,hk4,hk5,hk9,hk10,hk12,hk14⟩:=hk;have hlen:=eT hv;have hnz:∀o,r = .ok o→oE o=true:=fun o ho=>(aAy hv hvc (by rw [hs,ho])).1
 obtain ⟨q,_,_,hn0,hn1,_⟩:=bX (aW hv);have hs0:=hs;rw [fP,if_neg hk3,if_neg hk4,if_neg hk5,if_neg hk9,if_neg hk10,if_neg hk12,if_neg hk14] at hs;by_cases h1:k=1
 ·subst h1;rw [if_pos rfl] at hs;have hn20:n≤20:=hn1;exact aCh ctx C cc n A c ks r w ⟨hn0,hn20⟩ hvc hm hs hrc
 rw [if_neg h1] at hs;by_cases h267:k=2∨k=6∨k=7
 ·have hn20:n≤20:=by
   rcases h267 with rfl|rfl|rfl
   ·have:n≤3:=hn1;omega
   ·have:n≤0:=hn1;omega
   ·have:n≤0:=hn1;omega
  exact aBq (N:=N) ctx C cc n A c k ks r w ⟨hn0,hn20⟩ h267 hs0
 rw [if_neg (fun h=>h267 (.inl h)),if_neg (fun h=>h267 (.inr (.inl h))),if_neg (fun h=>h267 (.inr (.inr h)))] at hs;by_cases h8:k=8
 ·subst h8;rw [if_pos rfl] at hs;have h0:aK 8=1:=rfl;obtain ⟨⟨ka,na,sa⟩,rfl⟩:=aJo (ks:=ks) (by omega);exact aBi ih ctx C cc n A c ka na sa r w hs (aV (i:=0) hv (by simp)) hvc hm hrc hr
 rw [if_neg h8] at hs;by_cases h11:k=11
 ·subst h11;rw [if_pos rfl] at hs;have h0:aK 11=1:=rfl;obtain ⟨⟨ka,na,sa⟩,rfl⟩:=aJo (ks:=ks) (by omega);exact aBr ih ctx C cc n A c ka na sa r w hs (aV (i:=0) hv (by simp)) hvc hm hrc hr
 rw [if_neg h11] at hs;have hk15:=aHv (aW hv) ⟨hk3,hk4,hk5,hk9,hk10,hk12,hk14,h1,fun h=>h267 (.inl h),fun h=>h267 (.inr (.inl h)),fun h=>h267 (.inr (.inr h)),h8,h11⟩;have h0:aK k=1:=by rcases hk15 with rfl|rfl<;>rfl
 obtain ⟨⟨ka,na,sa⟩,rfl⟩:=aJo (ks:=ks) (by omega);exact aAn ctx C cc k n [.mk ka na sa] A c r w (kq h1) (kq (fun h=>h267 (.inl h))) (kq (fun h=>h267 (.inr (.inl h)))) (kq (fun h=>h267 (.inr (.inr h)))) (kq h8) (kq h11) (aD (fun w hrc hr=>aKh ih ctx C cc k n A c ka na sa r w hs (aV (i:=0) hv (by simp)) hvc hm hrc hr)) hnz hrc hr
theorem yO {N:Nat}(ih:nE N)(ctx:List Tm)(C:Option Addr)(cc:Nat)(k n:Int)(ks:List Tm)(A:Option Addr)(c:Nat)(r:Rs Tm)(w:World)(hv:aE (.mk k n ks)=true)(hs:fP (bJ N) ctx (.mk k n ks)=some r)(hvc:∀u,u∈ctx→aE u=true)(hm:ctx.length≤20)(hrc:Rd w C 0 ctx)(hr:Rd w A 0 ks) :
  Calls prog 89 #[.slice C ctx.length cc,.agg (Ro k n A ks.length c)] w (oJ w r):=by
 have hlen:=eT hv;have hnz:∀o,r = .ok o→oE o=true:=fun o ho=>(aAy hv hvc (by rw [hs,ho])).1
 have hs0:=hs;rw [fP] at hs;by_cases h3:k=3∨k=13
 ·rw [if_pos h3] at hs;have h0:aK k=2:=by rcases h3 with rfl|rfl<;>rfl
  obtain ⟨⟨ka,na,sa⟩,⟨kb,nb,sb⟩,rfl⟩:=aJr (ks:=ks) (by omega);exact aRp ctx C cc k n _ A c r w (by rcases h3 with rfl|rfl<;>decide) (aD (fun w hrc hr=>qG ih ctx C cc k n A c ka na sa kb nb sb r w hs (aV (i:=0) hv (by simp)) (aV (i:=1) hv (by simp)) hvc hm hrc hr)) hnz hrc hr
 rw [if_neg h3] at hs;have q3:(k==3)=false:=kq (fun h=>h3 (.inl h));have q13:(k==13)=false:=kq (fun h=>h3 (.inr h));by_cases h4:k=4
 ·rw [if_pos h4] at hs;have h0:aK k=2:=by rw [h4];rfl
  obtain ⟨⟨ka,na,sa⟩,⟨kb,nb,sb⟩,rfl⟩:=aJr (ks:=ks) (by omega);exact aQz ctx C cc k n _ A c r w q3 q13 (by simpa using h4) (aD (fun w hrc hr=>aNh ih ctx C cc k n A c ka na sa kb nb sb r w hs (aV (i:=0) hv (by simp)) (aV (i:=1) hv (by simp)) hvc hm hrc hr)) hnz hrc hr
 rw [if_neg h4] at hs;by_cases h5:k=5
 ·rw [if_pos h5] at hs;have h0:aK k=2:=by rw [h5];rfl
  obtain ⟨⟨ka,na,sa⟩,⟨kb,nb,sb⟩,rfl⟩:=aJr (ks:=ks) (by omega);exact aQl ctx C cc k n _ A c r w q3 q13 (kq h4) (by simpa using h5) (aD (fun w hrc hr=>aOs ih ctx C cc k n A c ka na sa kb nb sb r w hs (aV (i:=0) hv (by simp)) (aV (i:=1) hv (by simp)) hvc hm hrc hr)) hnz hrc hr
 rw [if_neg h5] at hs;by_cases h9:k=9
 ·rw [if_pos h9] at hs;have h0:aK k=4:=by rw [h9];rfl
  obtain ⟨⟨ka,na,sa⟩,⟨kb,nb,sb⟩,⟨kd,nd,sd⟩,⟨ke,ne,se⟩,rfl⟩:=aVv (ks:=ks) (by omega);exact aRd ctx C cc k n _ A c r w q3 q13 (kq h4) (kq h5) (by simpa using h9) (aD (fun w hrc hr=>aJz ih ctx C cc k n A c ka na sa kb nb sb kd nd sd ke ne se r w hs (aV (i:=0) hv (by simp)) (aV (i:=1) hv (by simp)) (aV (i:=2) hv (by simp)) (aV (i:=3) hv (by simp)) hvc hm hrc hr)) hnz hrc hr
 rw [if_neg h9] at hs;by_cases h10:k=10
 ·rw [if_pos h10] at hs;have h0:aK k=3:=by rw [h10];rfl
  obtain ⟨⟨ka,na,sa⟩,⟨kb,nb,sb⟩,⟨kd,nd,sd⟩,rfl⟩:=aFm (ks:=ks) (by omega);exact aRr ctx C cc k n _ A c r w q3 q13 (kq h4) (kq h5) (kq h9) (by simpa using h10) (aD (fun w hrc hr=>aRi ih ctx C cc k n A c ka na sa kb nb sb kd nd sd r w hs (aV (i:=0) hv (by simp)) (aV (i:=1) hv (by simp)) (aV (i:=2) hv (by simp)) hvc hm hrc hr)) hnz hrc hr
 rw [if_neg h10] at hs;by_cases h12:k=12
 ·rw [if_pos h12] at hs;have h0:aK k=3:=by rw [h12];rfl
  obtain ⟨⟨ka,na,sa⟩,⟨kb,nb,sb⟩,⟨kd,nd,sd⟩,rfl⟩:=aFm (ks:=ks) (by omega);exact aQm ctx C cc k n _ A c r w q3 q13 (kq h4) (kq h5) (kq h9) (kq h10) (by simpa using h12) (aD (fun w hrc hr=>aIf ih ctx C cc k n A c ka na sa kb nb sb kd nd sd r w hs (aV (i:=0) hv (by simp)) (aV (i:=1) hv (by simp)) (aV (i:=2) hv (by simp)) hvc hm hrc hr)) hnz hrc hr
 rw [if_neg h12] at hs;by_cases h14:k=14
 ·rw [if_pos h14] at hs;have h0:aK k=3:=by rw [h14];rfl
  obtain ⟨⟨ka,na,sa⟩,⟨kb,nb,sb⟩,⟨kd,nd,sd⟩,rfl⟩:=aFm (ks:=ks) (by omega);exact aRm ctx C cc k n _ A c r w q3 q13 (kq h4) (kq h5) (kq h9) (kq h10) (kq h12) (by simpa using h14) (aD (fun w hrc hr=>aIk ih ctx C cc k n A c ka na sa kb nb sb kd nd sd r w hs (aV (i:=0) hv (by simp)) (aV (i:=1) hv (by simp)) (aV (i:=2) hv (by simp)) hvc hm hrc hr)) hnz hrc hr
 exact aQe ctx C cc k n ks A c r w q3 q13 (kq h4) (kq h5) (kq h9) (kq h10) (kq h12) (kq h14) (aD (fun w hrc hr=>aDa ih ctx C cc k n ks A c r w hv ⟨h3,h4,h5,h9,h10,h12,h14⟩ hs0 hvc hm hrc hr)) hnz hrc hr
theorem aJm {N:Nat}(ih:nE N):nE (N+1):=by
 intro ctx k n ks r hs hv hvc hm C cc A c w hrc hr;have hM:=aJ hv;have hv':=aD hv;rw [bJ] at hs;by_cases hl:ctx.length≤20
 ·rw [if_pos ⟨hv,hl⟩] at hs;have ql:decide ((20:Int)<(ctx.length:Int))=false:=decide_eq_false (by omega);have ql2:decide (20<ctx.length)=false:=decide_eq_false (by omega);rcases aO hs with ⟨b,h1,rfl⟩|⟨⟨k3,n3,s3⟩,h1,hs⟩
  ·have hK:=aD (fun (w:World) (hrc:Rd w C 0 ctx) (hr:Rd w A 0 ks)=>yO ih ctx C cc k n ks A c _ w hv h1 hvc hl hrc hr);have qb:=fA b;clear hs h1 hv hvc ih;go_enter func68,ntmps68;go_wp2_with (first
    | (go_at_call 89;have _t:=tok;refine (hK.out _ (hrc.below g1) (hr.below g1)).mono ?_;rintro e w2 ⟨k3,n3,A3,l3,c3,rfl,hb2⟩;have hZ2:=(hZ1.keep hb2).alloc (.cells (Ro k3 n3 A3 l3 c3) 25);have g2:=(g1.trans (hb2.mono g1.size)).alloc (by have:=g1.size;have:=hb2.size;omega) (.cells (Ro k3 n3 A3 l3 c3) 25);clear d0 d1 d2 e0 e1 e2 lz;obtain ⟨d0,d1,d2,e0,e1,e2,lz⟩:=dA hZ2;clear tok;have tok2:=trivial)
    | (go_at_call 21;refine (aU k n ks A c _ (by omega) ((hr.alloc _).alloc _)).mono ?_;rw [hv'.out];rintro e w1 ⟨rfl,hb1⟩;have hT1:=cU hb1;have hZ1:=bH hb1;have g1:Bw w w1:=bS bw2 hb1;obtain ⟨x0,x1,x2⟩:=hT1.three;obtain ⟨d0,d1,d2,e0,e1,e2,lz⟩:=dA hZ1;have tok:=trivial))
   refine bodyPost_ret (v:=.tuple #[.agg Zr,.int .i64 (dJ b)]) (by simp [results,results68,go_sem,d0,d1,d2]) rfl ⟨rfl,?_⟩;exact bV g2
  ·have hK:=aD (fun (w:World) (hrc:Rd w C 0 ctx) (hr:Rd w A 0 ks)=>yO ih ctx C cc k n ks A c _ w hv h1 hvc hl hrc hr);have hnz:=aAy hv hvc h1;have hz3:aH s3≤1000000:=by have:=hnz.2;rw [Tm.size] at this;omega
   unfold eC at hs
   cases hvv:aE (.mk k3 n3 s3) with
   | false=>
    rw [if_neg (by rw [hvv];decide)] at hs;injection hs with hs;subst hs;have hvo:=aD hvv;clear h1 hv hvc ih hvv hnz;go_enter func68,ntmps68;go_wp2_with (first
     | (go_at_call 21;have _t:=tok2;refine (aU k3 n3 s3 A3 c3 _ (by omega) r4).mono ?_;rw [hvo.out];rintro e w3 ⟨rfl,hb3⟩;have hZ3:=hZ2.keep hb3;have hG3:=hG2.keep hb3;have g3:=g2.trans (hb3.mono g2.size);have r5:=r4.below hb3;clear y0 y1 y2 d0 d1 d2 e0 e1 e2 lz;obtain ⟨y0,y1,y2⟩:=hG3.three;obtain ⟨d0,d1,d2,e0,e1,e2,lz⟩:=dA hZ3)
     | (go_at_call 89;have _t:=tok;refine (hK.out _ (hrc.below g1) (hr.below g1)).mono ?_;rintro e w2 ⟨A3,c3,rfl,hl3,r3,hb2⟩;have hZ2:=(hZ1.keep hb2).alloc (.cells (Ro k3 n3 A3 s3.length c3) 25);have g2:=(g1.trans (hb2.mono g1.size)).alloc (by have:=g1.size;have:=hb2.size;omega) (.cells (Ro k3 n3 A3 s3.length c3) 25);have r4:=r3.alloc (.cells (Ro k3 n3 A3 s3.length c3) 25);have hG2:=aC w2 25 (Ro k3 n3 A3 s3.length c3) rfl;obtain ⟨y0,y1,y2⟩:=hG2.three;clear d0 d1 d2 e0 e1 e2 lz;obtain ⟨d0,d1,d2,e0,e1,e2,lz⟩:=dA hZ2;clear tok;have tok2:=trivial)
     | (go_at_call 21;refine (aU k n ks A c _ (by omega) ((hr.alloc _).alloc _)).mono ?_;rw [hv'.out];rintro e w1 ⟨rfl,hb1⟩;have hT1:=cU hb1;have hZ1:=bH hb1;have g1:Bw w w1:=bS bw2 hb1;obtain ⟨x0,x1,x2⟩:=hT1.three;obtain ⟨d0,d1,d2,e0,e1,e2,lz⟩:=dA hZ1;have tok:=trivial))
    refine bodyPost_ret (v:=.tuple #[.agg Zr,.int .i64 2]) (by simp [results,results68,go_sem,d0,d1,d2]) rfl ⟨rfl,?_⟩;exact bV g3
   | true=>
    rw [if_pos hvv] at hs;injection hs with hs;subst hs;have hvo:=aD hvv;clear h1 hv hvc ih hvv hnz;go_enter func68,ntmps68;go_wp2_with (first
     | (go_at_call 21;have _t:=tok2;refine (aU k3 n3 s3 A3 c3 _ (by omega) r4).mono ?_;rw [hvo.out];rintro e w3 ⟨rfl,hb3⟩;have hZ3:=hZ2.keep hb3;have hG3:=hG2.keep hb3;have g3:=g2.trans (hb3.mono g2.size);have r5:=r4.below hb3;clear y0 y1 y2 d0 d1 d2 e0 e1 e2 lz;obtain ⟨y0,y1,y2⟩:=hG3.three;obtain ⟨d0,d1,d2,e0,e1,e2,lz⟩:=dA hZ3)
     | (go_at_call 89;have _t:=tok;refine (hK.out _ (hrc.below g1) (hr.below g1)).mono ?_;rintro e w2 ⟨A3,c3,rfl,hl3,r3,hb2⟩;have hZ2:=(hZ1.keep hb2).alloc (.cells (Ro k3 n3 A3 s3.length c3) 25);have g2:=(g1.trans (hb2.mono g1.size)).alloc (by have:=g1.size;have:=hb2.size;omega) (.cells (Ro k3 n3 A3 s3.length c3) 25);have r4:=r3.alloc (.cells (Ro k3 n3 A3 s3.length c3) 25);have hG2:=aC w2 25 (Ro k3 n3 A3 s3.length c3) rfl;obtain ⟨y0,y1,y2⟩:=hG2.three;clear d0 d1 d2 e0 e1 e2 lz;obtain ⟨d0,d1,d2,e0,e1,e2,lz⟩:=dA hZ2;clear tok;have tok2:=trivial)
     | (go_at_call 21;refine (aU k n ks A c _ (by omega) ((hr.alloc _).alloc _)).mono ?_;rw [hv'.out];rintro e w1 ⟨rfl,hb1⟩;have hT1:=cU hb1;have hZ1:=bH hb1;have g1:Bw w w1:=bS bw2 hb1;obtain ⟨x0,x1,x2⟩:=hT1.three;obtain ⟨d0,d1,d2,e0,e1,e2,lz⟩:=dA hZ1;have tok:=trivial))
    refine bodyPost_ret (v:=.tuple #[.agg (Ro k3 n3 A3 s3.length c3),.int .i64 0]) (by simp [results,results68,go_sem,d0,d1,d2]) rfl ⟨A3,c3,rfl,hl3,iD hZ3 hvo.out r5 _ _ _,?_⟩;exact bV g3
 ·rw [if_neg (fun h=>hl h.2)] at hs;injection hs with hs;subst hs;have ql:decide ((20:Int)<(ctx.length:Int))=true:=decide_eq_true (by omega);have ql2:decide (20<ctx.length)=true:=decide_eq_true (by omega);clear hv hvc ih;go_enter func68,ntmps68;go_wp2_with (go_at_call 21;refine (aU k n ks A c _ (by omega) ((hr.alloc _).alloc _)).mono ?_;rw [hv'.out];rintro e w1 ⟨rfl,hb1⟩;have hT1:=cU hb1;have hZ1:=bH hb1;have g1:Bw w w1:=bS bw2 hb1;obtain ⟨x0,x1,x2⟩:=hT1.three;obtain ⟨d0,d1,d2,e0,e1,e2,lz⟩:=dA hZ1;have tok:=trivial)
  refine bodyPost_ret (v:=.tuple #[.agg Zr,.int .i64 2]) (by simp [results,results68,go_sem,d0,d1,d2]) rfl ⟨rfl,?_⟩;exact bV g1
theorem rY:∀N,nE N
 | 0=>fun _ _ _ _ _ h=>by cases h
 | N+1=>aJm (rY N)
def yN (ctx:List Tm):Bool:=ctx.all (fun t=>aE t) && decide (ctx.length≤8)
def ccG (N:Nat)(ctx:List Tm):Nat→Option Int
 | 0=>some 0
 | m+1=>match iS (bJ N) (ctx.take (ctx.length - (m+1))) (ctx.getD (ctx.length - (m+1)) default) with
  | none=>none
  | some (.no b)=>some (dJ b)
  | some (.ok _)=>ccG N ctx m
def ccR (N:Nat)(ctx:List Tm):Option Int:=if yN ctx=true then ccG N ctx ctx.length else some 3
theorem aPa {ctx:List Tm}(h:yN ctx=true):(∀u,u∈ctx→aE u=true)∧ctx.length≤8:=by
 simp only [yN,Bool.and_eq_true,List.all_eq_true,decide_eq_true_eq] at h
 exact h
theorem Rd.take {w:World}{A:Option Addr}:∀{ts:List Tm} {i:Nat} (n:Nat),Rd w A i ts→Rd w A i (ts.take n)
 | [],i,n,h=>by simpa using h
 | t::ts,i,0,h=>Rd.nil
 | t::ts,i,n+1,h=>by
  rw [List.take_succ_cons];exact Rd.cons_iff.2 ⟨(Rd.cons_iff.1 h).1,Rd.take n (Rd.cons_iff.1 h).2⟩
theorem tL (ctx:List Tm)(C:Option Addr)(cc:Nat)(w:World)(hsz:aH ctx≤1000000)(hrc:Rd w C 0 ctx) :
  Calls prog 44 #[.slice C ctx.length cc] w fun e w'=>e = .returned (.bool (yN ctx))∧Bw w w':=by
 have hlen:=aQ ctx;obtain ⟨bb,hbb⟩:∃b,yN ctx=b:=⟨_,rfl⟩;rw [hbb];replace hbb:=aD hbb;go_enter func44,ntmps44;go_wp2_with fail
 go_loopw [3] (fun jv wr=>∃j:Nat,j≤ctx.length∧jv = .int .i64 j∧Hid (∀i (hi:i<ctx.length),i<j→aE ctx[i]=true)∧Bw w wr) (fun jv _=>ctx.length - (intOf jv).toNat)
 case atStart=>exact ⟨0,Nat.zero_le _,rfl,aD (fun i hi h=>absurd h (by omega)),fJ _ _⟩
 case round=>
  obtain ⟨j,hj,rfl,hval,hb⟩:=hrel;by_cases hlt:j<ctx.length
  ·obtain ⟨b,off,k',n',ks',A',c',rfl,hkj,hc1,hc2,hc3,hl',hr'⟩:=(hrc.below hb).at_ hlt;have hsz2:=cQ (iP hlt);rw [hkj] at hsz2;simp only [Tm.size] at hsz2
   have H5:=aD hkj;have hlk:(j:Int)<(ctx.length:Int):=by omega
   cases hvv:aE (.mk k' n' ks') with
   | false=>
    have hv':=aD hvv;obtain rfl:bb=false:=by
     rw [← hbb.out];unfold yN
     rw [Bool.and_eq_false_iff];left
     rw [List.all_eq_false];exact ⟨ctx[j],iP hlt,by rw [hkj,hvv];decide⟩
    clear hkj hvv;go_wp2_with (go_at_call 21;refine (aU k' n' ks' A' c' _ (by omega) hr').mono ?_;rw [hv'.out];rintro e w2 ⟨rfl,hb2⟩)
    go_ret
    exact ⟨rfl,hb.trans (hb2.mono hb.size)⟩
   | true=>
    have hv':=aD hvv;clear hkj hvv;go_wp2_with (go_at_call 21;refine (aU k' n' ks' A' c' _ (by omega) hr').mono ?_;rw [hv'.out];rintro e w2 ⟨rfl,hb2⟩)
    refine ⟨⟨j+1,by omega,by go_num,aD (fun i hi hij=>?_),hb.trans (hb2.mono hb.size)⟩,by simp [intOf];omega⟩;by_cases hij2:i=j
    ·subst hij2;rw [H5.out];exact hv'.out
    ·exact hval.out i hi (by omega)
  ·have hje:j=ctx.length:=by omega
   subst hje;have hall:ctx.all (fun t=>aE t)=true:=by
    rw [List.all_eq_true];intro u hu;obtain ⟨i,hi,rfl⟩:=List.mem_iff_getElem.1 hu;exact hval.out i hi hi
   have hq:decide ((ctx.length:Int)≤8)=bb:=by
    rw [← hbb.out];unfold yN
    rw [hall,Bool.true_and];rw [decide_eq_decide];omega
   have hq2:decide (ctx.length≤8)=bb:=by
    rw [← hbb.out];unfold yN
    rw [hall,Bool.true_and]
   go_wp2_with fail
   go_ret
   exact ⟨rfl,hb⟩
theorem yC (N:Nat)(ctx:List Tm)(C:Option Addr)(cc:Nat)(co:Int)(w:World)(hs:ccR N ctx=some co)(hcc:ctx.length≤cc)(hsz:aH ctx≤1000000)(hrc:Rd w C 0 ctx) :
  Calls prog 66 #[.slice C ctx.length cc] w fun e w'=>e = .returned (.int .i64 co)∧Bw w w':=by
 have hlen:=aQ ctx;have hF:=aD (fun (w:World) (hrc:Rd w C 0 ctx)=>tL ctx C cc w hsz hrc);unfold ccR at hs
 cases hf:yN ctx with
 | false=>
  rw [hf,if_neg (by decide)] at hs;injection hs with hs;subst hs;rw [hf] at hF;clear hf;go_enter func66,ntmps66;go_wp2_with (go_at_call 44;refine (hF.out _ hrc).mono ?_;rintro e w1 ⟨rfl,hb1⟩)
  go_ret
  exact ⟨rfl,hb1⟩
 | true=>
  rw [hf,if_pos rfl] at hs;rw [hf] at hF;have hi:=aPa hf;have hl8:=hi.2;have hvc:=aD hi.1;replace hs:=aD hs;clear hf hi;go_enter func66,ntmps66;go_wp2_with (go_at_call 44;refine (hF.out _ hrc).mono ?_;rintro e w1 ⟨rfl,hb1⟩)
  go_loopw [3] (fun jv wr=>∃j:Nat,j≤ctx.length∧jv = .int .i64 j∧Hid (ccG N ctx (ctx.length - j)=some co)∧Bw w wr) (fun jv _=>ctx.length - (intOf jv).toNat)
  case atStart=>exact ⟨0,Nat.zero_le _,rfl,hs,hb1⟩
  case round=>
   obtain ⟨j,hj,rfl,hinv,hb⟩:=hrel;by_cases hlt:j<ctx.length
   ·obtain ⟨b,off,k',n',ks',A',c',rfl,hkj,hc1,hc2,hc3,hl',hr'⟩:=(hrc.below hb).at_ hlt;have hvk:=hvc.out _ (iP hlt);rw [hkj] at hvk;have hlk:(j:Int)<(ctx.length:Int):=by omega
    have hst:=hinv.out;rw [show ctx.length - j=(ctx.length - j - 1)+1 by omega,ccG,show ctx.length - (ctx.length - j - 1+1)=j by omega,show ctx.getD j default = .mk k' n' ks' by rw [← hkj];simp [List.getD,nY hlt]] at hst;obtain ⟨cx,hcx⟩:∃cx,ctx.take j=cx:=⟨_,rfl⟩;have hcl:cx.length=j:=by rw [← hcx];simp;omega
    have hcv:∀u,u∈cx→aE u=true:=by rw [← hcx];exact fun u hu=>hvc.out u (List.mem_of_mem_take hu)
    have hrx:=fun (w':World) (h:Rd w' (some ⟨b,off,none⟩) 0 ctx)=>show Rd w' (some ⟨b,off,none⟩) 0 cx by rw [← hcx];exact h.take j
    replace hrx:=aD hrx;rw [hcx] at hst;clear hcx;cases hr0:iS (bJ N) cx (.mk k' n' ks') with
    | none=>rw [hr0] at hst;cases hst
    | some rr=>
     have hS:=aD (fun (w:World) (hrc:Rd w (some ⟨b,off,none⟩) 0 cx) (hra:Rd w A' 0 ks')=>dZ (rY N) cx (some ⟨b,off,none⟩) cc k' n' ks' A' c' rr w hr0 hvk hcv (by omega) hrc hra);rw [hcl] at hS;rw [hr0] at hst;have hjc:j≤cc:=by omega
     have hjc2:(j:Int)≤(cc:Int):=by omega
     cases rr with
     | no b2=>
      injection hst with hst;subst hst;have qb:=fA b2;clear hr0 hvk hcv hkj;go_upto_region 6 with fail
      obtain ⟨y1,y2,y3⟩:=rI hc1 hc2 hc3;clear hc1 hc2 hc3;have kwwr:=hb;refine dY wr [8,9,10,11,12] [0,1,2,3,4,5,6] 13 6 (lT:=[_,_,_,_,_,_,_]) ?_;intro q0 bq0;refine bU (aD ?_);refine bG 7 ?_
      ·go_wp2_with (go_at_call 67;refine (hS.out _ (hrx.out _ ((hrc.below kwwr).below bq0)) (hr'.below bq0)).mono ?_;rintro e q1 ⟨l3,rfl,hbq1⟩)
       refine aY bq0 hbq1 ?_;intro bq1 lq1;refine eV [8,9,10] 2 (lT:=[_,_,_]) ?_;refine bU (aD ?_);refine cD [11,12] (lB:=[_,_]) ?_;refine gS (aD ?_);have kwq1:=kwwr.trans (bq1.mono kwwr.size);have kwrq1:=bq1;go_wp2_with fail
       go_ret
       exact ⟨rfl,kwq1⟩
     | ok l2=>
      have hst':=aD (show ccG N ctx (ctx.length - (j+1))=some co from hst);clear hr0 hvk hcv hkj hst;go_upto_region 6 with fail
      obtain ⟨y1,y2,y3⟩:=rI hc1 hc2 hc3;clear hc1 hc2 hc3;have kwwr:=hb;refine dY wr [8,9,10,11,12] [0,1,2,3,4,5,6] 13 6 (lT:=[_,_,_,_,_,_,_]) ?_;intro q0 bq0;refine bU (aD ?_);refine bG 7 ?_
      ·go_wp2_with (go_at_call 67;refine (hS.out _ (hrx.out _ ((hrc.below kwwr).below bq0)) (hr'.below bq0)).mono ?_;rintro e q1 ⟨rfl,hbq1⟩)
       refine aY bq0 hbq1 ?_;intro bq1 lq1;refine eV [8,9,10] 2 (lT:=[_,_,_]) ?_;refine bU (aD ?_);refine cD [11,12] (lB:=[_,_]) ?_;refine gS (aD ?_);have kwq1:=kwwr.trans (bq1.mono kwwr.size);have kwrq1:=bq1;go_wp2_with fail
       exact ⟨⟨j+1,by omega,by go_num,hst',kwq1⟩,by simp [intOf];omega⟩
   ·have hje:j=ctx.length:=by omega
    subst hje;obtain rfl:co=0:=by have:=hinv.out;rw [Nat.sub_self,ccG] at this;injection this with this;exact this.symm
    go_wp2_with fail
    go_ret
    exact ⟨rfl,hb⟩
end Go.Proofs.YtajjhldcjikkpaaGreat
