/- Parts of the proof. No condition. -/
import Derived.Test.YtddkehjdjfmhmaaGreatK28
import Derived.Test.YtddkehjdjfmhmaaGreatK29
open Go.Proofs.Tryz
namespace Go.Proofs.YtddkehjdjfmhmaaGreat
open Go.RowKit
set_option maxHeartbeats 16000000
set_option maxRecDepth 100000
set_option linter.unusedSimpArgs false
set_option linter.unusedVariables false
mutual
def tK:Tm→Int
 | .mk k _ ks=>yH k 0 ks
def yH:Int→Nat→List Tm→Int
 | _,_,[]=>0
 | k,i,t::ts=>max (tK t+aO k i) (yH k (i+1) ts)
end
theorem aBz (k:Int):∀(ts:List Tm) (i:Nat),0≤yH k i ts
 | [],i=>by rw [yH];omega
 | t::ts,i=>by have:=aBz k ts (i+1);rw [yH];omega
theorem aIa (k:Int):∀{ts:List Tm} {i j:Nat} (hj:j<ts.length),tK ts[j]+aO k ((i+j:Nat):Int)≤yH k i ts
 | t::ts,i,0,hj=>by rw [yH];simp only [List.getElem_cons_zero,Nat.add_zero];omega
 | t::ts,i,j+1,hj=>by
  have:=aIa k (ts:=ts) (i:=i+1) (j:=j) (by simpa using hj);rw [show i+1+j=i+(j+1) by omega] at this;rw [yH];simp only [List.getElem_cons_succ]
  omega
theorem aJr {x:Tm}:∀(xs:List Int) (t:Tm),eP t xs=some x→((kY t xs).length:Int)≤tK t
 | [],t,h=>by
  obtain ⟨k,n,ks⟩:=t;rw [kY,tK];have:=aBz k ks 0;simpa using this
 | i::is,t,h=>by
  obtain ⟨k,n,ks⟩:=t;rw [eP] at h;split at h
  ·rename_i hi
   simp only [Tm.kids] at hi h
   obtain ⟨m,rfl⟩:∃m:Nat,(m:Int)=i:=⟨i.toNat,by omega⟩;have hm:m<ks.length:=by omega
   rw [Int.toNat_natCast] at h;have hgd:ks.getD m default=ks[m]:=by simp [List.getD,iG hm]
   rw [hgd] at h;have h1:=aJr is ks[m] h;have h2:=aIa k (ts:=ks) (i:=0) hm;rw [Nat.zero_add] at h2;rw [kY,tK];simp only [Tm.kids,Int.toNat_natCast,hgd,List.length_append,Int.natCast_add]
   have h3:((pF (.mk k n ks) (m:Int)).length:Int)≤aO k (m:Int):=by
    by_cases hu:aO k (m:Int)=1
    ·rw [rK hu,hu];simp
    ·have hu0:aO k (m:Int)=0:=by have:=eA k (m:Int);omega
     rw [vN hu0,hu0];simp
   omega
  ·cases h
theorem aSp (x:NT):tK x.tm≤(x.dp:Int):=by
 have u4:aO 4 1=1:=rfl;have u40:aO 4 0=0:=rfl;have u13:aO 13 1=1:=rfl;have u130:aO 13 0=0:=rfl;have hn:∀(k:Int) (i:Int),k=5∨k=8∨k=9∨k=11∨k=12∨k=14∨k=15∨k=16→aO k i=0:=fun k i h=>by
  unfold aO binds
  split
  ·rename_i hh
   simp only [Bool.or_eq_true,beq_iff_eq] at hh
   omega
  ·rfl
 have hN:tK kN=0:=rfl;induction x with
 | var i=>simp [NT.tm,NT.dp,tK,yH]
 | zero=>simp [NT.tm,NT.dp,tK,yH]
 | suc a ih=>
  simp only [NT.tm,NT.dp,tK,yH,hn 8 _ (by omega)]
  have:=aBz 8 [a.tm] 0;omega
 | app b a ih1 ih2=>
  simp only [NT.tm,NT.dp,tK,yH,hN,u4,u40,hn 5 _ (by omega),Int.natCast_zero,Nat.zero_add,Int.natCast_one]
  simp only [kN,tK,yH] at *
  omega
 | elim z s n ih1 ih2 ih3=>
  simp only [NT.tm,NT.dp,tK,yH,hN,u4,u40,hn 9 _ (by omega),Int.natCast_zero,Nat.zero_add,Int.natCast_one]
  simp only [kN,tK,yH] at *
  omega
 | part q a b ih1 ih2=>
  have hq:(if q=true then (16:Int) else 15)=15∨(if q=true then (16:Int) else 15)=16:=by cases q<;>simp
  simp only [NT.tm,NT.dp,tK,yH,hN,u13,u130,hn 14 _ (by omega),hn (if q=true then 16 else 15) _ (by omega),Int.natCast_zero,Nat.zero_add,Int.natCast_one]
  simp only [kN,tK,yH] at *
  omega
 | mov x z ih1 ih2=>
  simp only [NT.tm,NT.dp,tK,yH,hN,u4,u40,hn 12 _ (by omega),hn 11 _ (by omega),Int.natCast_zero,Nat.zero_add,Int.natCast_one]
  simp only [kN,tK,yH] at *
  omega
theorem aIt:(prs0.all fun t=>decide (tK t≤8))=true∧(prs1.all fun t=>decide (tK t≤8))=true∧(prs2.all fun t=>decide (tK t≤8))=true∧(prs3.all fun t=>decide (tK t≤8))=true:=⟨by kernel_rfl,by kernel_rfl,by kernel_rfl,by kernel_rfl⟩
theorem aJb {ctx:List Tm}{t:Tm}(h:mQ ctx t):tK t≤8:=by
 rcases h with ⟨m,hm,rfl,x,hx,hd,rfl⟩|⟨us,hp,hu⟩
 ·have:=aSp x;omega
 ·obtain ⟨p0,p1,p2,p3⟩:=aIt;have key:∀{l:List Tm},(l.all fun t=>decide (tK t≤8))=true→t∈l→tK t≤8:=fun h ht=>by
   have:=List.all_eq_true.1 h _ ht;simpa using this
  rcases hp with ⟨rfl,rfl⟩|⟨rfl,rfl⟩|⟨rfl,rfl⟩|⟨rfl,rfl⟩
  ·exact key p0 hu
  ·exact key p1 hu
  ·exact key p2 hu
  ·exact key p3 hu
theorem tG (N:Nat)(G:List Tm)(k n:Int)(ks ns:List Tm)(C:Option Addr)(c0:Nat)(A:Option Addr)(c:Nat)(B:Option Addr)(cb:Nat)(w:World)(hnote:eN N G (.mk k n ks)=some (.ok ns))(hc:dA 0 (.mk k n ks)=true)(hv:aE (.mk k n ks)=true)(hvn:∀u,u∈ns→aE u=true)(hcb:ns.length≤cb)(hra:Rd w A 0 ks)(hrn:Rd w B 0 ns) :
  Calls prog 9 #[.slice C 0 c0,.agg (Ro k n A ks.length c),.slice B ns.length cb] w fun e w'=>e = .returned (.int .i64 0)∧Bw w w':=by
 have hz:=aI hv;have hv':=aD hv;have hnl:=((fK N).1 _ _ _ hnote).1;simp only [Tm.size] at hnl
 have hnl2:ns.length=aG ks+1:=by omega
 have hN:=aD (fun (w:World) (hra:Rd w A 0 ks) (hrn:Rd w B 0 ns)=>by
  have h:=aCx N G (aG ks+1) [] k n ks ns C c0 A c B cb w (by omega) (by simpa using hnote) (fun i hi=>absurd hi (Nat.not_lt_zero _)) hc hv hcb Rd.nil hra hrn;rw [hnl2] at h;exact h)
 have hF:=aD (fun (w:World) (hrn:Rd w B 0 ns)=>by
  have h:=aLj ns B cb w (by omega) hvn hrn;rw [hnl2] at h;exact h)
 have hX:=aD (fun (w:World)=>aBp 0 [] C c0 w (by simp) (by simp) (fun u hu=>by cases hu) (fun j hj=>absurd hj (Nat.not_lt_zero _)) Rd.nil);rw [hnl2];clear hnote hc hv hvn hcb hnl;go_enter func9,ntmps9;go_wp2_with (first
  | (go_at_call 37;have _t:=tok5;refine (hN.out _ (hra.below g5) (hrn.below g5)).mono ?_;rintro e w6 ⟨rfl,hb6⟩)
  | (go_at_call 36;have _t:=tok4;refine (hX.out _).mono ?_;rintro e w5 ⟨rfl,hb5⟩;have g5:=g4.trans (hb5.mono g4.size);obtain ⟨y0,y1,y2⟩:=(hX1.keep (hb45.trans (hb5.mono hb45.size))).three;clear tok4 _t;have tok5:=trivial)
  | (go_at_call 34;have _t:=tok3;refine (hF.out _ (hrn.below g3)).mono ?_;rintro e w4 ⟨rfl,hb4⟩;have g4:=g3.trans (hb4.mono g3.size);have hb45:=hb13.trans (hb4.mono hb13.size);clear tok3 _t;have tok4:=trivial)
  | (go_at_call 20;have _t:=tok2;refine (kD (aG ks+1) k n ks A c _ (by omega) (by omega) (hra.below g2)).mono ?_;rintro e w3 ⟨rfl,hb3⟩;have g3:=g2.trans (hb3.mono g2.size);have hb13:=hb12.trans (hb3.mono hb12.size);clear tok2 _t x0 x1 x2;have tok3:=trivial)
  | (go_at_call 19;have _t:=tok1;refine (aQ k n ks A c _ (by omega) (hra.below g1)).mono ?_;rw [hv'.out];rintro e w2 ⟨rfl,hb2⟩;have g2:=g1.trans (hb2.mono g1.size);have hb12:=hb2;obtain ⟨x0,x1,x2⟩:=(hX1.keep hb2).three;clear tok1 _t z0 z1 z2;have tok2:=trivial)
  | (go_at_call 33;refine (rX C c0 _).mono ?_;rintro e w1 ⟨rfl,hb1⟩;have hX1:=(aC w 25 (Ro k n A ks.length c) rfl).keep hb1;have g1:Bw w w1:=bW bw1 hb1;obtain ⟨z0,z1,z2⟩:=hX1.three;have tok1:=trivial))
 go_ret
 exact ⟨rfl,g5.trans (hb6.mono g5.size)⟩
theorem mx_ge:(∀(t:Tm) (d a:Int),a≤mxT d a t)∧(∀(ts:List Tm) (k d:Int) (i:Nat) (a:Int),a≤tJ k d i a ts):=by
 refine bM (fun k n ks ih d a=>?_) (fun k d i a=>by rw [tJ];exact Int.le_refl _) (fun t ts h1 h2 k d i a=>?_)
 ·rw [mxT];refine Int.le_trans ?_ (ih k d 0 _);split<;>omega
 ·rw [tJ];exact Int.le_trans (h1 _ a) (h2 k d (i+1) _)
theorem mx_cls:(∀(t:Tm) (d a:Int),0≤a→mxT d a t≤0→dA d t=true)∧(∀(ts:List Tm) (k d:Int) (i:Nat) (a:Int),0≤a→tJ k d i a ts≤0→gX d k i ts=true):=by
 refine bM (fun k n ks ih d a ha h=>?_) (fun k d i a ha h=>rfl) (fun t ts h1 h2 k d i a ha h=>?_)
 ·rw [mxT] at h;have h3:=mx_ge.2 ks k d 0 (if k=1∧d≤n then max a (n - d+1) else a);refine jA (fun hk=>?_) (ih k d 0 _ (by split<;>omega) h);by_cases hd:d≤n
  ·rw [if_pos ⟨hk,hd⟩] at h3 h;omega
  ·omega
 ·rw [tJ] at h;have h3:=mx_ge.1 t (d+aO k i) a;have h4:=mx_ge.2 ts k d (i+1) (mxT (d+aO k i) a t);rw [gX,Bool.and_eq_true];exact ⟨h1 _ a ha (by omega),h2 k d (i+1) _ (by omega) h⟩
theorem aRu {t:Tm}(h:mfT t≤0):dA 0 t=true:=mx_cls.1 t 0 0 (by omega) h
theorem aAa {ctx:List Tm}{t u x:Tm}{N:Nat}{R:Int × List Tm}{ns:List Tm}{xs:List Int}(hd:mQ ctx t)(ha:anR N ctx t=some R)(hns:ns=R.2∨ns=R.2.tail)(hv:aE t=true)(hcl:dA 0 t=true)(hno:fC t ns xs=some u)(hx:eP t xs=some x) :
  eN N ctx t=some (.ok ns)∧(kY t xs).length≤8∧aE u=true∧eG (2*N) (kY t xs) x=some u∧(∀a,a∈kY t xs→aE a=true)∧∀j (hj:j<(kY t xs).length),∃l,jX (eG (2*N) ((kY t xs).take j) (kY t xs)[j])=some l:=by
 have hlen:ns.length=t.size∧ns.getD (gV t xs) default=u∧aE u=true:=by
  unfold fC at hno
  split at hno
  ·rename_i h1
   split at hno
   ·rename_i h2
    injection hno with h;exact ⟨h1.2,h,h▸h2⟩
   ·cases hno
  ·cases hno
 obtain ⟨hl,hu,hvu⟩:=hlen;have hts:0<t.size:=by obtain ⟨_,_,_⟩:=t;rw [Tm.size];omega
 have hR:eN N ctx t=some (.ok R.2):=by
  unfold anR at ha
  split at ha
  ·cases ha
  ·injection ha with ha;subst ha;rcases hns with h|h<;>(rw [h] at hl;simp at hl;omega)
  ·split at ha
   ·cases ha
   ·injection ha with ha;subst ha;rcases hns with h|h<;>(rw [h] at hl;simp at hl;omega)
   ·rename_i r hr
    injection ha with ha;subst ha;exact hr
 have hRl:=((fK N).1 _ _ _ hR).1;have hnR:ns=R.2:=by
  rcases hns with h|h
  ·exact h
  ·rw [h,List.length_tail] at hl;omega
 subst hnR;obtain ⟨h1,h2,h3,h4⟩:=xJ N ctx xs t [] R.2 x (by simpa using hR) (fun i hi=>absurd hi (Nat.not_lt_zero _)) hcl hv hx;rw [List.nil_append] at h1 h2 h3;refine ⟨hR,?_,hvu,by rw [h1,hu],fun a ha=>?_,fun j hj=>by simpa using h4 j hj⟩
 ·have:=aJr xs t hx;have:=aJb hd;omega
 ·obtain ⟨i,hi,rfl⟩:=List.getElem_of_mem ha;exact (h2 i hi).2
theorem aHt (u:Tm):lU 200 u u=1:=by unfold lU;rw [if_pos (kC u)]
theorem wC (bs:List Int)(A:Option Addr)(c:Nat)(w:World)(hl:bs.length≤9223372036854775807)(hc:bs.length≤c)(hr:RdY w A bs) :
  Calls prog 3 #[.slice A bs.length c] w fun e w'=>e = .returned (.bool true)∧Bw w w':=by
 by_cases hbig:1048576<bs.length
 ·go_enter func3,ntmps3;go_wp2_with fail
  go_ret
  exact ⟨rfl,dV _ _⟩
 ·go_enter func3,ntmps3;go_wp2_with (go_at_call 4;refine (yN bs A c _ hl hc hr).mono ?_;rintro e w1 ⟨k,n,ks,At,ct,ns,D,dc,xs,P,cp,rfl,hvt,hall,hnl,hxl,hpi,rt,rn,hb1,hdc,hor⟩)
  refine dK ?_;intro w2 hw2;have X:Blk w2 w1.heap.size (Ro k n At ks.length ct):=by rw [hw2];exact aC w1 25 (Ro k n At ks.length ct) rfl
  have g:Bw w w2:=by rw [hw2];exact hb1.alloc hb1.size _
  replace rt:Rd w2 At 0 ks:=by rw [hw2];exact rt.alloc _
  replace rn:Rd w2 D 0 ns:=by rw [hw2];exact rn.alloc _
  have ri:RdI w2 P xs:=by rw [hw2];exact hpi.alloc _
  clear hw2 hpi;obtain ⟨x0,x1,x2⟩:=X.three;have lX:=X.lt;have hzt4:aG ks≤400:=aI hvt;have hzt:aG ks≤1048576:=by omega
  have hzn:aG ns≤1048576:=by have:=mN hall.out;omega
  have hlk:ks.length≤400:=by have:=aI hvt;have:=aJ ks;omega
  have hvt':=aD hvt;have hmf:=aQv hvt;clear hvt;obtain ⟨ko,no,so,hoo⟩:=iF ((fC (.mk k n ks) ns xs).getD (.mk 0 0 []));have tokA:=True.intro;cases ho:fC (.mk k n ks) ns xs with
  | none=>
   rw [ho] at hoo;have hS:=aD (show (fC (.mk k n ks) ns xs).getD (.mk 0 0 []) = .mk ko no so by rw [ho];exact hoo);have hB:=aD (show (fC (.mk k n ks) ns xs).isSome=false by rw [ho];rfl);clear ho hoo
   go_wp2_with (first|(go_at_call 7;have _t:=tokD;refine (eI ko no so A3 c3 ko no so A4 c4 _ hl3 hl4 r3 r4).mono ?_;rw [kR];rintro e w6 ⟨rfl,hb6⟩;replace g:=g.trans (hb6.mono g.size);clear tokD _t)|(go_at_call 7;have _t:=tokC;refine dK ?_;intro wc hwc;have bc:Bw w4 wc:=(by rw [hwc];exact bE (cW _) _);have H0:Blk wc w4.heap.size (Ro ko no A4 so.length c4):=(by rw [hwc];exact aC w4 25 (Ro ko no A4 so.length c4) rfl);clear hwc;replace X:=X.keep bc;replace rt:=rt.below bc;replace rn:=rn.below bc;replace ri:=ri.below bc;replace G:=G.keep bc;replace r3:=r3.below bc;replace r4:=r4.below bc;replace g:=g.trans (bc.mono g.size);refine (eI ko no so A3 c3 ko no so A4 c4 _ hl3 hl4 r3 r4).mono ?_;rw [kR];rintro e w5 ⟨rfl,hb5⟩;have H:=H0.keep hb5;replace X:=X.keep hb5;replace rt:=rt.below hb5;replace rn:=rn.below hb5;replace ri:=ri.below hb5;replace G:=G.keep hb5;replace r3:=r3.below hb5;replace r4:=r4.below hb5;replace g:=g.trans (hb5.mono g.size);clear x0 x1 x2 y0 y1 y2;obtain ⟨x0,x1,x2⟩:=X.three;obtain ⟨y0,y1,y2⟩:=G.three;obtain ⟨z0,z1,z2⟩:=H.three;have lX5:=X.lt;have lG5:=G.lt;have lH5:=H.lt;clear tokC _t;have tokD:=trivial)|(go_at_call 6;have _t:=tokB;refine dK ?_;intro wb hwb;have bb:Bw w3 wb:=(by rw [hwb];exact bE (cW _) _);have G0:Blk wb w3.heap.size (Ro ko no A3 so.length c3):=(by rw [hwb];exact aC w3 25 (Ro ko no A3 so.length c3) rfl);clear hwb;replace X:=X.keep bb;replace rt:=rt.below bb;replace rn:=rn.below bb;replace ri:=ri.below bb;replace r3:=r3.below bb;replace g:=g.trans (bb.mono g.size);refine (nO k n ks At ct ns D dc xs P cp _ hzt hzn (by omega) rt rn ri).mono ?_;intro e w4 hgo;obtain ⟨A4,c4,rfl,hl4,r4,hb4⟩:=iW hgo hS.out hB.out;clear hgo;have G:=G0.keep hb4;replace X:=X.keep hb4;replace rt:=rt.below hb4;replace rn:=rn.below hb4;replace ri:=ri.below hb4;replace r3:=r3.below hb4;replace g:=g.trans (hb4.mono g.size);clear x0 x1 x2;obtain ⟨x0,x1,x2⟩:=X.three;have lX4:=X.lt;have lG4:=G.lt;obtain ⟨y0,y1,y2⟩:=G.three;clear tokB _t;have tokC:=trivial)|(go_at_call 5;have _t:=tokA;refine (nR k n ks At ct ns D dc xs P cp _ hzt hzn (by omega) rt rn ri).mono ?_;intro e w3 hgo;obtain ⟨A3,c3,rfl,hl3,r3,hb3⟩:=iW hgo hS.out hB.out;clear hgo;replace X:=X.keep hb3;replace rt:=rt.below hb3;replace rn:=rn.below hb3;replace ri:=ri.below hb3;replace g:=g.trans (hb3.mono g.size);clear x0 x1 x2;obtain ⟨x0,x1,x2⟩:=X.three;have lX3:=X.lt;clear tokA _t;have tokB:=trivial))
   go_ret
   exact ⟨rfl,g⟩
  | some u=>
   rw [ho] at hoo;have hS:=aD (show (fC (.mk k n ks) ns xs).getD (.mk 0 0 []) = .mk ko no so by rw [ho];exact hoo);have hB:=aD (show (fC (.mk k n ks) ns xs).isSome=true by rw [ho];rfl);have hu:u = .mk ko no so:=hoo;subst hu;by_cases hm:mfT (.mk k n ks)≤0
   ·have hcl:=aRu hm;obtain ⟨ctx,N,R,d1,d2,d3⟩:=hor.out;obtain ⟨x,hx⟩:∃x,eP (.mk k n ks) xs=some x:=by
     unfold fC at ho
     split at ho
     ·rename_i h1
      have h2:=h1.1;unfold gK at h2
      rw [if_pos hvt'.out] at h2;exact Option.isSome_iff_exists.1 h2
     ·cases ho
    obtain ⟨q1,har,q3,q4,q5,q6⟩:=aAa d1 d2 d3 hvt'.out hcl ho hx;have hvx0:=gU hx hvt'.out;obtain ⟨kx,nx,sx⟩:=x;replace hx:=aD hx;have hvx:=aD hvx0;have hcls:=aD hcl;have hnote:=aD q1;have hvu:=aD q3;have hinf:=aD q4;have hva:=aD q5;have hlv:=aD q6;have hmg:decide (mfT (.mk k n ks) > 0)=false:=by simp;omega
    have hmg2:decide (0<mfT (.mk k n ks))=false:=by simp;omega
    clear ho hoo hcl d1 d2 d3 q1 q3 q4 q5 q6 hvx0
    go_wp2_with (first|(go_at_call 13;have _t:=tokI;refine dK ?_;intro wd hwd;have bd:Bw w10 wd:=(by rw [hwd];exact bE (cW _) _);clear hwd;replace r3:=r3.below bd;replace r10:=r10.below bd;replace g:=g.trans (bd.mono g.size);refine (xP ko no so A10 c10 ko no so A3 c3 200 _ (by omega) hvu.out hvu.out r10 r3).mono ?_;rw [aHt];rintro e w11 ⟨rfl,hb11⟩;replace g:=g.trans (hb11.mono g.size);clear tokI _t)|(go_at_call 12;have _t:=tokH;refine dK ?_;intro wd hwd;have bd:Bw w9 wd:=(by rw [hwd];exact bE (cW _) _);clear hwd;replace G:=G.keep bd;replace r3:=r3.below bd;replace r8:=r8.below bd;replace r9:=r9.below bd;replace g:=g.trans (bd.mono g.size);refine (uN (2*N) (kY (.mk k n ks) xs) C8 c8 kx nx sx A9 c9 ko no so _ hinf.out hvx.out hc8 har hva.out hlv.out r8 r9).mono ?_;rintro e w10 ⟨A10,c10,rfl,hl10,r10,hb10⟩;replace G:=G.keep hb10;replace r3:=r3.below hb10;replace g:=g.trans (hb10.mono g.size);clear y0 y1 y2;obtain ⟨y0,y1,y2⟩:=G.three;have lG10:=G.lt;clear tokH _t;have tokI:=trivial)|(go_at_call 11;have _t:=tokG;refine (aAv k n ks At ct xs P cp _ kx nx sx hx.out hvt'.out (by omega) rt ri).mono ?_;rintro e w9 ⟨A9,c9,rfl,hl9,r9,hb9⟩;replace X:=X.keep hb9;replace rt:=rt.below hb9;replace rn:=rn.below hb9;replace ri:=ri.below hb9;replace G:=G.keep hb9;replace r3:=r3.below hb9;replace r8:=r8.below hb9;replace g:=g.trans (hb9.mono g.size);clear x0 x1 x2 y0 y1 y2;obtain ⟨y0,y1,y2⟩:=G.three;have lG9:=G.lt;clear tokG _t;have tokH:=trivial)|(go_at_call 10;have _t:=tokF;refine dK ?_;intro wd hwd;have bd:Bw w7 wd:=(by rw [hwd];exact bE (cW _) _);clear hwd;replace X:=X.keep bd;replace rt:=rt.below bd;replace rn:=rn.below bd;replace ri:=ri.below bd;replace G:=G.keep bd;replace r3:=r3.below bd;replace g:=g.trans (bd.mono g.size);refine (aDy k n ks At ct xs P cp _ 0 _ kx nx sx hx.out hvt'.out (by have:=mN hva.out;omega) (by omega) rt ri).mono ?_;rintro e w8 ⟨hb8,⟨h8,_⟩|⟨_,C8,c8,rfl,hc8,r8⟩⟩;(exact absurd h8 (by omega));replace X:=X.keep hb8;replace rt:=rt.below hb8;replace rn:=rn.below hb8;replace ri:=ri.below hb8;replace G:=G.keep hb8;replace r3:=r3.below hb8;replace g:=g.trans (hb8.mono g.size);clear x0 x1 x2 y0 y1 y2;obtain ⟨x0,x1,x2⟩:=X.three;obtain ⟨y0,y1,y2⟩:=G.three;have lX8:=X.lt;have lG8:=G.lt;clear tokF _t;have tokG:=trivial)|(go_at_call 9;have _t:=tokE;refine dK ?_;intro wd hwd;have bd:Bw w6 wd:=(by rw [hwd];exact bE (cW _) _);clear hwd;replace X:=X.keep bd;replace rt:=rt.below bd;replace rn:=rn.below bd;replace ri:=ri.below bd;replace G:=G.keep bd;replace r3:=r3.below bd;replace g:=g.trans (bd.mono g.size);refine (tG N ctx k n ks ns _ 0 At ct D dc _ hnote.out hcls.out hvt'.out hall.out hdc rt rn).mono ?_;rintro e w7 ⟨rfl,hb7⟩;replace X:=X.keep hb7;replace rt:=rt.below hb7;replace rn:=rn.below hb7;replace ri:=ri.below hb7;replace G:=G.keep hb7;replace r3:=r3.below hb7;replace g:=g.trans (hb7.mono g.size);clear x0 x1 x2 y0 y1 y2 z0 z1 z2;obtain ⟨x0,x1,x2⟩:=X.three;obtain ⟨y0,y1,y2⟩:=G.three;have lX7:=X.lt;have lG7:=G.lt;clear tokE _t;have tokF:=trivial)|(go_at_call 8;have _t:=tokD;refine (qT k n ks At ct _ (by omega) rt).mono ?_;rw [if_pos hvt'.out];rintro e w6 ⟨rfl,hb6⟩;replace H:=H.keep hb6;replace X:=X.keep hb6;replace rt:=rt.below hb6;replace rn:=rn.below hb6;replace ri:=ri.below hb6;replace G:=G.keep hb6;replace r3:=r3.below hb6;replace r4:=r4.below hb6;replace g:=g.trans (hb6.mono g.size);clear x0 x1 x2 y0 y1 y2 z0 z1 z2;obtain ⟨x0,x1,x2⟩:=X.three;obtain ⟨y0,y1,y2⟩:=G.three;obtain ⟨z0,z1,z2⟩:=H.three;have lX6:=X.lt;have lG6:=G.lt;have lH6:=H.lt;clear tokD _t;have tokE:=trivial)|(go_at_call 7;have _t:=tokC;refine dK ?_;intro wc hwc;have bc:Bw w4 wc:=(by rw [hwc];exact bE (cW _) _);have H0:Blk wc w4.heap.size (Ro ko no A4 so.length c4):=(by rw [hwc];exact aC w4 25 (Ro ko no A4 so.length c4) rfl);clear hwc;replace X:=X.keep bc;replace rt:=rt.below bc;replace rn:=rn.below bc;replace ri:=ri.below bc;replace G:=G.keep bc;replace r3:=r3.below bc;replace r4:=r4.below bc;replace g:=g.trans (bc.mono g.size);refine (eI ko no so A3 c3 ko no so A4 c4 _ hl3 hl4 r3 r4).mono ?_;rw [kR];rintro e w5 ⟨rfl,hb5⟩;have H:=H0.keep hb5;replace X:=X.keep hb5;replace rt:=rt.below hb5;replace rn:=rn.below hb5;replace ri:=ri.below hb5;replace G:=G.keep hb5;replace r3:=r3.below hb5;replace r4:=r4.below hb5;replace g:=g.trans (hb5.mono g.size);clear x0 x1 x2 y0 y1 y2;obtain ⟨x0,x1,x2⟩:=X.three;obtain ⟨y0,y1,y2⟩:=G.three;obtain ⟨z0,z1,z2⟩:=H.three;have lX5:=X.lt;have lG5:=G.lt;have lH5:=H.lt;clear tokC _t;have tokD:=trivial)|(go_at_call 6;have _t:=tokB;refine dK ?_;intro wb hwb;have bb:Bw w3 wb:=(by rw [hwb];exact bE (cW _) _);have G0:Blk wb w3.heap.size (Ro ko no A3 so.length c3):=(by rw [hwb];exact aC w3 25 (Ro ko no A3 so.length c3) rfl);clear hwb;replace X:=X.keep bb;replace rt:=rt.below bb;replace rn:=rn.below bb;replace ri:=ri.below bb;replace r3:=r3.below bb;replace g:=g.trans (bb.mono g.size);refine (nO k n ks At ct ns D dc xs P cp _ hzt hzn (by omega) rt rn ri).mono ?_;intro e w4 hgo;obtain ⟨A4,c4,rfl,hl4,r4,hb4⟩:=iW hgo hS.out hB.out;clear hgo;have G:=G0.keep hb4;replace X:=X.keep hb4;replace rt:=rt.below hb4;replace rn:=rn.below hb4;replace ri:=ri.below hb4;replace r3:=r3.below hb4;replace g:=g.trans (hb4.mono g.size);clear x0 x1 x2;obtain ⟨x0,x1,x2⟩:=X.three;have lX4:=X.lt;have lG4:=G.lt;obtain ⟨y0,y1,y2⟩:=G.three;clear tokB _t;have tokC:=trivial)|(go_at_call 5;have _t:=tokA;refine (nR k n ks At ct ns D dc xs P cp _ hzt hzn (by omega) rt rn ri).mono ?_;intro e w3 hgo;obtain ⟨A3,c3,rfl,hl3,r3,hb3⟩:=iW hgo hS.out hB.out;clear hgo;replace X:=X.keep hb3;replace rt:=rt.below hb3;replace rn:=rn.below hb3;replace ri:=ri.below hb3;replace g:=g.trans (hb3.mono g.size);clear x0 x1 x2;obtain ⟨x0,x1,x2⟩:=X.three;have lX3:=X.lt;clear tokA _t;have tokB:=trivial))
    go_ret
    exact ⟨rfl,g⟩
   ·have hmg:decide (mfT (.mk k n ks) > 0)=true:=by simp;omega
    have hmg2:decide (0<mfT (.mk k n ks))=true:=by simp;omega
    clear ho hoo
    go_wp2_with (first|(go_at_call 7;have _t:=tokE;refine (eI ko no so A3 c3 ko no so A4 c4 _ hl3 hl4 r3 r4).mono ?_;rw [kR];rintro e w7 ⟨rfl,hb7⟩;replace g:=g.trans (hb7.mono g.size);clear tokE _t)|(go_at_call 8;have _t:=tokD;refine (qT k n ks At ct _ (by omega) rt).mono ?_;rw [if_pos hvt'.out];rintro e w6 ⟨rfl,hb6⟩;replace H:=H.keep hb6;replace X:=X.keep hb6;replace rt:=rt.below hb6;replace rn:=rn.below hb6;replace ri:=ri.below hb6;replace G:=G.keep hb6;replace r3:=r3.below hb6;replace r4:=r4.below hb6;replace g:=g.trans (hb6.mono g.size);clear x0 x1 x2 y0 y1 y2 z0 z1 z2;obtain ⟨x0,x1,x2⟩:=X.three;obtain ⟨y0,y1,y2⟩:=G.three;obtain ⟨z0,z1,z2⟩:=H.three;have lX6:=X.lt;have lG6:=G.lt;have lH6:=H.lt;clear tokD _t;have tokE:=trivial)|(go_at_call 7;have _t:=tokC;refine dK ?_;intro wc hwc;have bc:Bw w4 wc:=(by rw [hwc];exact bE (cW _) _);have H0:Blk wc w4.heap.size (Ro ko no A4 so.length c4):=(by rw [hwc];exact aC w4 25 (Ro ko no A4 so.length c4) rfl);clear hwc;replace X:=X.keep bc;replace rt:=rt.below bc;replace rn:=rn.below bc;replace ri:=ri.below bc;replace G:=G.keep bc;replace r3:=r3.below bc;replace r4:=r4.below bc;replace g:=g.trans (bc.mono g.size);refine (eI ko no so A3 c3 ko no so A4 c4 _ hl3 hl4 r3 r4).mono ?_;rw [kR];rintro e w5 ⟨rfl,hb5⟩;have H:=H0.keep hb5;replace X:=X.keep hb5;replace rt:=rt.below hb5;replace rn:=rn.below hb5;replace ri:=ri.below hb5;replace G:=G.keep hb5;replace r3:=r3.below hb5;replace r4:=r4.below hb5;replace g:=g.trans (hb5.mono g.size);clear x0 x1 x2 y0 y1 y2;obtain ⟨x0,x1,x2⟩:=X.three;obtain ⟨y0,y1,y2⟩:=G.three;obtain ⟨z0,z1,z2⟩:=H.three;have lX5:=X.lt;have lG5:=G.lt;have lH5:=H.lt;clear tokC _t;have tokD:=trivial)|(go_at_call 6;have _t:=tokB;refine dK ?_;intro wb hwb;have bb:Bw w3 wb:=(by rw [hwb];exact bE (cW _) _);have G0:Blk wb w3.heap.size (Ro ko no A3 so.length c3):=(by rw [hwb];exact aC w3 25 (Ro ko no A3 so.length c3) rfl);clear hwb;replace X:=X.keep bb;replace rt:=rt.below bb;replace rn:=rn.below bb;replace ri:=ri.below bb;replace r3:=r3.below bb;replace g:=g.trans (bb.mono g.size);refine (nO k n ks At ct ns D dc xs P cp _ hzt hzn (by omega) rt rn ri).mono ?_;intro e w4 hgo;obtain ⟨A4,c4,rfl,hl4,r4,hb4⟩:=iW hgo hS.out hB.out;clear hgo;have G:=G0.keep hb4;replace X:=X.keep hb4;replace rt:=rt.below hb4;replace rn:=rn.below hb4;replace ri:=ri.below hb4;replace r3:=r3.below hb4;replace g:=g.trans (hb4.mono g.size);clear x0 x1 x2;obtain ⟨x0,x1,x2⟩:=X.three;have lX4:=X.lt;have lG4:=G.lt;obtain ⟨y0,y1,y2⟩:=G.three;clear tokB _t;have tokC:=trivial)|(go_at_call 5;have _t:=tokA;refine (nR k n ks At ct ns D dc xs P cp _ hzt hzn (by omega) rt rn ri).mono ?_;intro e w3 hgo;obtain ⟨A3,c3,rfl,hl3,r3,hb3⟩:=iW hgo hS.out hB.out;clear hgo;replace X:=X.keep hb3;replace rt:=rt.below hb3;replace rn:=rn.below hb3;replace ri:=ri.below hb3;replace g:=g.trans (hb3.mono g.size);clear x0 x1 x2;obtain ⟨x0,x1,x2⟩:=X.three;have lX3:=X.lt;clear tokA _t;have tokB:=trivial))
    go_ret
    exact ⟨rfl,g⟩
end Go.Proofs.YtddkehjdjfmhmaaGreat
