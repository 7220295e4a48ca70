/- Parts of the proof. No condition. -/
import Derived.Test.YtjlaenhcemacdaaGreatK5
import Derived.Test.YtjlaenhcemacdaaGreatK6
open Go.Proofs.Tryz
namespace Go.Proofs.YtjlaenhcemacdaaGreat
open Go.RowKit
set_option maxHeartbeats 2000000
set_option maxRecDepth 100000
set_option linter.unusedSimpArgs false
set_option linter.unusedVariables false
theorem nC (by_:Int)(t:Tm):∀d,(bR by_ d t).size=t.size:=by
 refine Tm.rec (motive_1:=λt=>∀d,(bR by_ d t).size=t.size) (motive_2:=λts=>∀k d i,aG (bK by_ k d i ts)=aG ts) ?_ ?_ ?_ t
 ·intro k n ks ih d;rw [bR,Tm.size,Tm.size,ih]
 ·intro k d i;rfl
 ·intro t ts h1 h2 k d i;rw [bK,aG,aG,h1,h2]
theorem cD {q:Nat}{k n:Int}{ks:List Tm}(h:shape q (.mk k n ks)=true):∃q',q=q'+1/\aX k=(ks.length:Int)/\0<=n/\n<=dL k/\∀t,t∈ks->shape q' t=true:=by
 cases q with
 | zero=>simp [shape] at h
 | succ q=>exact ⟨q,rfl,(bH q k n ks).1 h⟩
theorem tK {ks:List Tm}(h:aX 1=(ks.length:Int)):ks=[]:=by
 have h0:aX 1=0:=rfl;rw [h0] at h;exact lEn Ac
theorem aCm (by_ cut:Int)(t:Tm):∀(q:Nat) (e:Int),shape q t=true->vI (shF by_ cut) e t=bR by_ (cut+e) t:=by
 refine Tm.rec (motive_1:=λt=>∀(q:Nat) (e:Int),shape q t=true->vI (shF by_ cut) e t=bR by_ (cut+e) t)
  (motive_2 := λts => ∀ (q : Nat) (k e : Int) (i : Nat), (∀ t, t ∈ ts -> shape q t = true) -> iE (shF by_ cut) k e i ts = bK by_ k (cut + e) i ts) ?_ ?_ ?_ t
 ·intro k n ks ih q e h;obtain ⟨q',rfl,ha,h0,h1,hk⟩:=cD h;rw [vI,bR];by_cases h1:k=1
  ·subst h1;have:=tK ha;subst this;rw [Av rfl,shF,bK];congr 1;by_cases hc:cut<=n - e
   ·rw [Av hc,Av ⟨rfl,by omega⟩]
   ·rw [Aw hc,Aw (by rintro ⟨-,h⟩;omega)]
  ·rw [Aw h1,Aw (by rintro ⟨h,-⟩;exact h1 h),ih q' k e 0 hk]
 ·intro q k e i _;rfl
 ·intro t ts h1 h2 q k e i hk;rw [iE,bK,h1 q _ (hk t List.mem_cons_self),h2 q k e (i+1) (λt ht=>hk t (List.mem_cons_of_mem _ ht)),show cut+(e+aN k i)=cut+e+aN k i by omega]
theorem yL (by_ cut:Int)(hb:0<=by_)(t:Tm):∀(q p:Nat) (e:Int),shape q t=true->shape p (bR by_ (cut+e) t)=true->eW (qU by_ cut) e t=true:=by
 refine Tm.rec (motive_1:=λt=>∀(q p:Nat) (e:Int),shape q t=true->shape p (bR by_ (cut+e) t)=true->eW (qU by_ cut) e t=true)
  (motive_2 := λts => ∀ (q p : Nat) (k e : Int) (i : Nat), (∀ t, t ∈ ts -> shape q t = true) -> (∀ t, t ∈ bK by_ k (cut + e) i ts -> shape p t = true) -> dR (qU by_ cut) k e i ts = true) ?_ ?_ ?_ t
 ·intro k n ks ih q p e h hp;obtain ⟨q',rfl,ha,h0,h1,hk⟩:=cD h;rw [bR] at hp;obtain ⟨p',rfl,hpa,hp0,hp1,hpk⟩:=cD hp;rw [eW];by_cases h1:k=1
  ·subst h1;have h20:dL 1=20:=rfl;rw [Av rfl,qU];by_cases hc:cut<=n - e
   ·rw [Av ⟨rfl,by omega⟩] at hp1;rw [Av hc,decide_eq_true Ac,decide_eq_true Ac];rfl
   ·rw [Aw hc]
  ·rw [Aw h1];exact ih q' p' k e 0 hk hpk
 ·intro q p k e i _ _;rfl
 ·intro t ts h1 h2 q p k e i hk hp;rw [bK] at hp;rw [dR,h1 q p _ (hk t List.mem_cons_self) (by rw [show cut+(e+aN k i)=cut+e+aN k i by omega];exact hp _ List.mem_cons_self),h2 q p k e (i+1) (λt ht=>hk t (List.mem_cons_of_mem _ ht)) (λt ht=>hp t (List.mem_cons_of_mem _ ht))];rfl
theorem sH {p q:Nat}(h:p<=q)(t:Tm):shape p t=true->shape q t=true:=by
 induction p generalizing q t with
 | zero=>intro hp;simp [shape] at hp
 | succ p ih=>
  intro hp;obtain ⟨k,n,ks⟩:=t;obtain ⟨q',rfl⟩:∃q',q=q'+1:=⟨q - 1,by omega⟩;obtain ⟨a,b,c,d⟩:=(bH p k n ks).1 hp;exact (bH q' k n ks).2 ⟨a,b,c,λt ht=>ih Ac t (d t ht)⟩
theorem gE {d:Int}{a:Tm}(hs:shape 30 a=true)(h:(bJ d 0 a).isSome=true):(bJ d 0 a).getD (.mk 0 0 [])=bR d 0 a:=by
 unfold bJ at h⊢;split
 ·rename_i h1;rw [Av h1] at h;split
  ·rw [Option.getD_some,aCm d 0 a 30 0 hs,Int.zero_add]
  ·rename_i h2;rw [Aw h2] at h;cases h
 ·rename_i h1;rw [Aw h1] at h;cases h
theorem aAp {d:Int}{a:Tm}(hd:0<=d)(hs:shape 30 a=true)(h:aE (bR d 0 a)=true):(bJ d 0 a).isSome=true:=by
 have hsh:shape 30 (bR d 0 a)=true:=by simp only [aE,Bool.and_eq_true] at h;exact h.1
 have h1:eW (qU d 0) 0 a=true:=yL d 0 hd a 30 30 0 hs (by rw [Int.zero_add];exact hsh);unfold bJ;rw [Av h1,aCm d 0 a 30 0 hs,Int.zero_add,Av h];rfl
section
variable {args:List Tm}(hsa:∀t,t∈args->shape 30 t=true)
include hsa
theorem aXw (t:Tm):∀(q:Nat) (d:Int),0<=d->shape q t=true->eW (aIs args) d t=true->vI (aRs args) d t=flS args d t:=by
 refine Tm.rec (motive_1:=λt=>∀(q:Nat) (d:Int),0<=d->shape q t=true->eW (aIs args) d t=true->vI (aRs args) d t=flS args d t)
  (motive_2 := λts => ∀ (q : Nat) (k d : Int) (i : Nat), 0 <= d -> (∀ t, t ∈ ts -> shape q t = true) -> dR (aIs args) k d i ts = true -> iE (aRs args) k d i ts = aPr args k d i ts) ?_ ?_ ?_ t
 ·intro k n ks ih q d hd h hok;obtain ⟨q',rfl,ha,h0,h1,hk⟩:=cD h;rw [eW] at hok;rw [vI,flS];by_cases h1:k=1
  ·subst h1;have:=tK ha;subst this;rw [Av rfl] at hok⊢;unfold aIs at hok;unfold aRs;by_cases h2:n - d<0
   ·rw [Av h2,Aw (by rintro ⟨-,h⟩;omega),aPr]
   ·rw [Aw h2] at hok⊢;rw [Av (show (1:Int)=1/\d<=n from ⟨rfl,by omega⟩)];by_cases h3:(args.length:Int)<=n - d
    ·rw [Av h3,Aw (show ¬n<d+(args.length:Int) by omega)]
    ·rw [Aw h3] at hok⊢;rw [Av (show n<d+(args.length:Int) by omega)];have hlt:(n - d).toNat<args.length:=by omega
     have hsx:shape 30 (args.getD (n - d).toNat default)=true:=by
      rw [List.getD_eq_getElem?_getD,sE hlt,Option.getD_some];exact hsa _ (gM hlt)
     exact gE hsx hok
  ·rw [Aw h1] at hok⊢;rw [Aw (by rintro ⟨h,-⟩;exact h1 h),ih q' k d 0 hd hk hok]
 ·intro q k d i _ _ _;rfl
 ·intro t ts h1 h2 q k d i hd hk hok;rw [dR,Bool.and_eq_true] at hok;rw [iE,aPr,h1 q _ (by have:=dA k i;omega) (hk t List.mem_cons_self) hok.1,h2 q k d (i+1) hd (λt ht=>hk t (List.mem_cons_of_mem _ ht)) hok.2]
end
mutual
def kpS (by_:Int):Int->Tm->Bool|d,.mk k n ks=>if k=1/\d<=n/\n<d+by_ then false else yW by_ k d 0 ks
def yW (by_:Int):Int->Int->Nat->List Tm->Bool|_,_,_,[]=>true|k,d,i,t::ts=>kpS by_ (d+aN k i) t && yW by_ k d (i+1) ts
end
theorem aWt {dp:Int}(h0:0<=dp)(t:Tm):∀(q:Nat) (d:Int),0<=d->shape q t=true->eW (qU (-dp) 0) d t=kpS dp d t:=by
 refine Tm.rec (motive_1:=λt=>∀(q:Nat) (d:Int),0<=d->shape q t=true->eW (qU (-dp) 0) d t=kpS dp d t)
  (motive_2 := λts => ∀ (q : Nat) (k d : Int) (i : Nat), 0 <= d -> (∀ t, t ∈ ts -> shape q t = true) -> dR (qU (-dp) 0) k d i ts = yW dp k d i ts) ?_ ?_ ?_ t
 ·intro k n ks ih q d hd h;obtain ⟨q',rfl,ha,h0,h1,hk⟩:=cD h;rw [eW,kpS];by_cases h1:k=1
  ·subst h1;have h20:n<=20:=by simpa [dL] using h1
   have:=tK ha;subst this;rw [Av rfl,qU,yW];by_cases h2:d<=n
   ·rw [Av Ac,decide_eq_true (show n + -dp<=20 by omega),Bool.and_true];by_cases h3:n<d+dp
    ·rw [Av ⟨rfl,h2,h3⟩,decide_eq_false Ac]
    ·rw [Aw (by rintro ⟨-,-,h⟩;exact h3 h),decide_eq_true Ac]
   ·rw [Aw Ac,Aw (by rintro ⟨-,h,-⟩;exact h2 h)]
  ·rw [Aw h1,Aw (by rintro ⟨h,-⟩;exact h1 h),ih q' k d 0 hd hk]
 ·intro q k d i _ _;rfl
 ·intro t ts h1 h2 q k d i hd hk;rw [dR,yW,h1 q _ (by have:=dA k i;omega) (hk t List.mem_cons_self),h2 q k d (i+1) hd (λt ht=>hk t (List.mem_cons_of_mem _ ht))]
theorem aLv {dp:Int}(h0:0<=dp)(t:Tm):∀(q:Nat) (d:Int),0<=d->shape q t=true->kpS dp d t=true->shape q (bR (-dp) d t)=true:=by
 refine Tm.rec (motive_1:=λt=>∀(q:Nat) (d:Int),0<=d->shape q t=true->kpS dp d t=true->shape q (bR (-dp) d t)=true)
  (motive_2 := λts => ∀ (q : Nat) (k d : Int) (i : Nat), 0 <= d -> (∀ t, t ∈ ts -> shape q t = true) -> yW dp k d i ts = true -> ∀ t, t ∈ bK (-dp) k d i ts -> shape q t = true) ?_ ?_ ?_ t
 ·intro k n ks ih q d hd h hkp;obtain ⟨q',rfl,ha,hn0,hn1,hk⟩:=cD h;rw [kpS] at hkp;rw [bR];by_cases h1:k=1/\d<=n/\n<d+dp
  ·rw [Av h1] at hkp;cases hkp
  ·rw [Aw h1] at hkp;refine (bH _ _ _ _).2 ⟨by rw [cT];exact ha,?_,?_,ih q' k d 0 hd hk hkp⟩
   ·split
    ·rename_i h2;have:¬n<d+dp:=λh=>h1 ⟨h2.1,h2.2,h⟩
     omega
    ·exact hn0
   ·split
    ·omega
    ·exact hn1
 ·intro q k d i _ _ _ t ht;rw [bK] at ht;cases ht
 ·intro t ts h1 h2 q k d i hd hk hkp u hu;rw [yW,Bool.and_eq_true] at hkp;rw [bK] at hu;rcases List.mem_cons.1 hu with rfl|hu
  ·exact h1 q _ (by have:=dA k i;omega) (hk t List.mem_cons_self) hkp.1
  ·exact h2 q k d (i+1) hd (λt ht=>hk t (List.mem_cons_of_mem _ ht)) hkp.2 u hu
theorem aFe {dp:Int}(h0:0<=dp){u:Tm}(hv:aE u=true):bJ (-dp) 0 u=if kpS dp 0 u=true then some (bR (-dp) 0 u) else none:=by
 have hs:shape 30 u=true:=by simp only [aE,Bool.and_eq_true] at hv;exact hv.1
 unfold bJ;rw [aWt h0 u 30 0 (Int.le_refl 0) hs];split
 ·rename_i hk;rw [aCm (-dp) 0 u 30 0 hs,Int.zero_add,Av];rw [aE,aLv h0 u 30 0 (Int.le_refl 0) hs hk,nC,decide_eq_true (cL hv)];rfl
 ·rfl
theorem dF (N:Nat):∀(k n:Int) (ks:List Tm) (A:Ba) (c:Nat) (w:Bb),aG ks<N->aG ks<=1000000000->Rd w A 0 ks->
  Calls prog 35 #[.agg (Ro k n A ks.length c)] w (rQ w k n ks):=by
 induction N with
 | zero=>intro k n ks A c w hN;exact absurd hN (Nat.not_lt_zero _)
 | succ N ih=>
 intro k n ks A c w hN hM hr;have hlen:=aJ ks;go_enter func35,ntmps35;go_wp2_with fail;go_loopw [4] (λi wr=>∃(j:Nat) (v:Value),j<=ks.length/\i = .int .i64 j/\Part (w.heap.size+3) wr v (ks.take j)/\Blk wr (w.heap.size+1+1) #[.int .i64 k,.int .i64 n,v]/\Blk wr (w.heap.size+1) Zr/\Blk wr w.heap.size (Ro k n A ks.length c)/\Bw w wr)
  (λi _ => ks.length - (intOf i).toNat)
 case atStart=>exact ⟨0,_,Nat.zero_le _,rfl,Part.nil,aC _ _ _ Ag,(aC _ _ _ Ag).alloc _,((aC _ _ _ rfl).alloc _).alloc _,bw3⟩
 case round=>
  obtain ⟨j,v,hj,rfl,hp,hB3,hB2,hB1,hb⟩:=hrel;have c12:=hB1.at_ (i:=2) rfl;by_cases hlt:j<ks.length
  ·obtain ⟨b,off,k',n',ks',A',c',rfl,hkj,hc1,hc2,hc3,hl',hr'⟩:=(hr.below hb).at_ hlt;have hsz:=cG (gM hlt);rw [hkj] at hsz;simp only [Tm.size] at hsz;have H3:=aD hkj;clear hkj;have hz:=hB3.lt;go_wp2_with fail;have x2:=hB3.rule (i:=2) rfl;have b2:=hB1.rule (i:=2) rfl;obtain ⟨y0,y1,y2⟩:=pG hc1 hc2 hc3;refine bQ (λw'=>Bw wr w') [0,1,2,3,4,5,6] [7,8] [9,10,11] [_,_,_,_,_,_,_] [_,_] [_,_,_] (by kernel_rfl) (by kernel_rfl) rfl rfl rfl (λ_ _ d _ _ h=>by cases d<;>exact h) (eI _ _).drew ?_;refine bU (aD ?_);refine bO ?_;go_wp2_with (go_at_call 35;refine (ih k' n' ks' A' c' _ Ac Ac hr'.drew).mono ?_;rintro e w1 ⟨A1,c1,rfl,hl1,hf1,hb1⟩);have hx1:Bw wr w1:=(eI _ _).drew.trans hb1;refine aS hx1 (bO ?_);go_wp2_with fail;refine aS (hx1.alloc hx1.size _) (eB ?_);refine cZ (B:=w.heap.size+3) (m:=j) hp.drew hb1 Ai hf1 hl1 (by rw [List.length_take];omega) Ac rfl (.tmp 18) (.tmp 25) rfl rfl rfl ?_;intro A2 c2 w2 hp2 hb2 hg2;have q3:Blk w2 (w.heap.size+1+1) #[.int .i64 k,.int .i64 n,v]:=(hB3.below hx1 Ac).below hb2 Ac;have q2:Blk w2 (w.heap.size+1) Zr:=(hB2.below hx1 Ac).below hb2 Ac;have q1':Blk w2 w.heap.size (Ro k n (some ⟨b,off,none⟩) ks.length c):=(hB1.below hx1 Ac).below hb2 Ac;have c3:w2.cell? ⟨w.heap.size+1+1,2,none⟩=some v:=q3.at_ rfl;have z3:=q3.frozen 2;have hbf:Bw w w2:=(hb.trans (hx1.mono Ac)).trans (hb2.mono Ac);clear x2 y0 y1 y2 b2;go_wp2_with fail;go_roundw
   case rel=>exact ⟨j+1,_,by omega,by go_num,by rw [tM hlt,H3.out];exact hp2.setCell Ag _,q3.set_ 2 _,q2.far Ag _,q1'.far Ai _,hbf.setCell Ai _⟩
   case measure=>simp [intOf];omega
  ·have hjl:j=ks.length:=by omega
   subst hjl;rw [List.take_length] at hp;obtain ⟨Ar,cr,rfl,hfr⟩:=hp.fresh;have c0:wr.cell? ⟨w.heap.size+1+1,0,none⟩=some (.int .i64 k):=hB3.at_ rfl;have c1:wr.cell? ⟨w.heap.size+1+1,1,none⟩=some (.int .i64 n):=hB3.at_ rfl;have c2:wr.cell? ⟨w.heap.size+1+1,2,none⟩=some (.slice Ar ks.length cr):=hB3.at_ rfl;have d0:wr.cell? ⟨w.heap.size+1,0,none⟩=some (.int .i64 0):=hB2.at_ rfl;have d1:wr.cell? ⟨w.heap.size+1,1,none⟩=some (.int .i64 0):=hB2.at_ rfl;have d2:wr.cell? ⟨w.heap.size+1,2,none⟩=some (.slice none 0 0):=hB2.at_ rfl;obtain ⟨e0,e1,e2⟩:=bkf hB2;go_wp2_with fail;refine bodyPost_ret (v:=.agg (Ro k n Ar ks.length cr)) (by simp [results,results35,go_sem,d0,d1,d2]) rfl ⟨Ar,cr,rfl,by omega,?_,?_⟩
   ·exact (vF hfr).mono Ac
   ·exact bV hb
variable {w w' w0:Bb}{lo g:Nat}{G:List Tm}
abbrev St:=List Tm × List Bool
def aWx:Tm:=.mk 0 0 []
def Tm.kids:Tm->List Tm | .mk _ _ ks=>ks
mutual
def mt (m:Nat)(add:Int):Int->Tm->Tm->St->Bool × St
 | d,.mk k n ks,u,st=>
  if k=1/\d<=n then
   (if n<d+m then
    (match bJ (-d) 0 u with
     | none=>(false,st)
     | some low=>if st.2.getD (n - d).toNat false=true then (gL (st.1.getD (n - d).toNat aWx) low,st) else (true,(st.1.set (n - d).toNat low,st.2.set (n - d).toNat true)))
   else (u.k==1 && u.n==n - m+add,st))
  else if u.k=k/\u.n=n/\u.kids.length=ks.length then mtL m add k d 0 ks u.kids st else (false,st)
def mtL (m:Nat)(add:Int):Int->Int->Nat->List Tm->List Tm->St->Bool × St
 | k,d,i,t::ts,u::us,st=>if (mt m add (d+aN k i) t u st).1=true then mtL m add k d (i+1) ts us (mt m add (d+aN k i) t u st).2 else (false,(mt m add (d+aN k i) t u st).2)
 | _,_,_,_,_,st=>(true,st)
end
theorem aP {k n:Int}{ks:List Tm}(h:aE (.mk k n ks)=true){t:Tm}(ht:t∈ks):aE t=true:=by
 simp only [aE,Bool.and_eq_true,decide_eq_true_eq] at h⊢;obtain ⟨q,hq,_,_,_,hk⟩:=cD h.1;refine ⟨sH Ac t (hk t ht),?_⟩;have:=cG ht;rw [Tm.size] at h;omega
def RdI (w:Bb)(A:Ba)(xs:List Int):Prop:=∀j (hj:j<xs.length),∃b off,A=some ⟨b,off,none⟩/\w.cell? ⟨b,off+j,none⟩=some (.int .i64 xs[j])
theorem RdI.keeps {w w':Bb}{A:Ba}{xs:List Int}(h:RdI w A xs)(hk:Keeps w w'):RdI w' A xs:=λj hj=>by
 obtain ⟨b,off,hA,hc⟩:=h j hj;exact ⟨b,off,hA,hk _ _ hc⟩
theorem RdI.below {w w':Bb}{A:Ba}{xs:List Int}(h:RdI w A xs)(hb:Bw w w'):RdI w' A xs:=h.keeps (.of_below hb)
theorem RdI.alloc {w:Bb}{A:Ba}{xs:List Int}(h:RdI w A xs)(o:Obj):RdI (w.alloc o) A xs:=h.keeps (.alloc w o)
def nN:Tm->List Int->Option Tm
 | t,[]=>some t
 | t,i::is=>if 0<=i/\i<t.kids.length then nN (t.kids.getD i.toNat default) is else none
theorem rV:∀(xs ys:List Int) (t:Tm),nN t (xs++ys)=(nN t xs).bind (nN · ys)
 | [],ys,t=>rfl
 | i::is,ys,t=>by
  rw [List.cons_append,nN,nN];split
  ·exact rV is ys _
  ·rfl
theorem aOo {t u:Tm}{xs:List Int}{j:Nat}(hj:j<xs.length)(h:nN t (xs.take j)=some u):nN t (xs.take (j+1))=if 0<=xs[j]/\xs[j]<u.kids.length then some (u.kids.getD xs[j].toNat default) else none:=by
 rw [tM hj,rV,h,Option.bind_some,nN];split<;>rfl
theorem aQk {t:Tm}{xs:List Int}{j:Nat}(h:nN t (xs.take j)=none):nN t xs=none:=by
 rw [<- List.take_append_drop j xs,rV,h];rfl
theorem qE {u:Tm}:∀{xs:List Int} {t:Tm},nN t xs=some u->aE t=true->aE u=true
 | [],t,h,hv=>by cases h;exact hv
 | i::is,t,h,hv=>by
  rw [nN] at h;split at h
  ·rename_i hh;obtain ⟨k,n,ks⟩:=t;refine qE h ?_;have hlt:i.toNat<ks.length:=by have:=hh.2;simp only [Tm.kids] at this;omega
   rw [show (Tm.mk k n ks).kids=ks from rfl,List.getD_eq_getElem?_getD,sE hlt,Option.getD_some];exact aP hv (gM _)
  ·cases h
mutual
def eT:Tm->Option (List Int)
 | .mk k n ks=>if rdx k ks=0 then jJ 0 ks else some []
def jJ:Int->List Tm->Option (List Int)
 | _,[]=>none
 | i,t::ts=>match eT t with|some p=>some (i::p)|none=>jJ (i+1) ts
end
def bF (k:Int):Int:=if k=5\/k=15\/k=16 then 0 else if k=9 then 3 else if k=12 then 1 else -1
mutual
def cA:Tm->Option (List Int)
 | .mk k n ks=>if rdx k ks=0 then (if bF k<0 then none else (mF (bF k).toNat ks).map (bF k::·)) else some []
def mF:Nat->List Tm->Option (List Int)
 | _,[]=>none
 | 0,t::_=>cA t
 | i+1,_::ts=>mF i ts
end
def kR:Tm->List Int->Tm->Tm
 | _,[],u=>u
 | .mk k n ks,i::is,u=>.mk k n (ks.set i.toNat (kR (ks.getD i.toNat default) is u))
def vO (t:Tm):Option Tm:=if aE t=true then some t else none
def aI (ks:List Tm)(i:Nat):Tm:=ks.getD i default
def vH:Tm->Option Tm
 | .mk k n ks=>
  if rdx k ks=1 then fJ 0 (aI ks 1) (aI (aI ks 0).ks 1)
  else if rdx k ks=2 then vO (aI ks 1)
  else if rdx k ks=3 then vO (.mk 5 0 [.mk 5 0 [aI ks 2,aI (aI ks 3).ks 0],.mk 9 0 [aI ks 0,aI ks 1,aI ks 2,aI (aI ks 3).ks 0]])
  else if rdx k ks=4 then vO (aI ks 2)
  else if rdx k ks=5 then vO (aI (aI ks 0).ks 1)
  else if rdx k ks=6 then vO (aI (aI ks 0).ks 2)
  else none
def pB (t:Tm)(p:List Int):Option Tm:=
 match nN t p with
 | none=>none
 | some u=>match vH u with|none=>none|some v=>vO (kR t p v)
def redI (find:Tm->Option (List Int)):Nat->Tm->Option Tm × Int
 | fuel,t=>match find t with
  | none=>(some t,0)
  | some p=>match fuel with
   | 0=>(none,1)
   | fuel+1=>match pB t p with
    | none=>(none,2)
    | some t'=>redI find fuel t'
def dJ (fuel:Nat)(a b:Tm):Int:=
 if gL a b=true then 1 else
  if (redI eT fuel a).2≠0\/(redI eT fuel b).2≠0 then 3 else
   if gL ((redI eT fuel a).1.getD (.mk 0 0 [])) ((redI eT fuel b).1.getD (.mk 0 0 []))=true then 1 else 2
def Way (find:Tm->Option (List Int)):Prop:=∀t p,find t=some p->∃k n ks,nN t p=some (.mk k n ks)/\rdx k ks≠0
theorem sT {k n:Int}{ks:List Tm}{j:Nat}{p:List Int}(hj:j<ks.length):nN (.mk k n ks) ((j:Int)::p)=nN ks[j] p:=by
 rw [nN,Av ⟨by omega,by simpa [Tm.kids] using hj⟩];simp [Tm.kids,List.getD,sE hj]
theorem aQh:Way eT:=by
 have h:(∀t p,eT t=some p->∃k n ks,nN t p=some (.mk k n ks)/\rdx k ks≠0)/\
   (∀(ts:List Tm) (i:Nat) p,jJ i ts=some p->∃(j:Nat) (q:List Int) (h:j<ts.length),p=((i+j:Nat):Int)::q/\∃k n ks,nN ts[j] q=some (.mk k n ks)/\rdx k ks≠0):=by
  refine bA (λk n ks ih p hp=>?_) (λi p hp=>?_) (λt ts h1 h2 i p hp=>?_)
  ·rw [eT] at hp;split at hp
   ·obtain ⟨j,q,hj,rfl,h⟩:=ih 0 p hp;rw [Nat.zero_add,sT hj];exact h
   ·rename_i hr;injection hp with hp;subst hp;exact ⟨k,n,ks,rfl,hr⟩
  ·rw [jJ] at hp;cases hp
  ·rw [jJ] at hp;cases h:eT t with
   | some q=>
    rw [h] at hp;injection hp with hp;subst hp;exact ⟨0,q,by simp,by simp,h1 q h⟩
   | none=>
    rw [h] at hp;obtain ⟨j,q,hj,rfl,h3⟩:=h2 (i+1) p (by simpa using hp);refine ⟨j+1,q,by simp;omega,by congr 1;omega,?_⟩;simpa using h3
 exact h.1
theorem aKc:Way cA:=by
 have h:(∀t p,cA t=some p->∃k n ks,nN t p=some (.mk k n ks)/\rdx k ks≠0)/\
   (∀(ts:List Tm) (i:Nat) p,mF i ts=some p->∃h:i<ts.length,∃k n ks,nN ts[i] p=some (.mk k n ks)/\rdx k ks≠0):=by
  refine bA (λk n ks ih p hp=>?_) (λi p hp=>?_) (λt ts h1 h2 i p hp=>?_)
  ·rw [cA] at hp;split at hp
   ·split at hp
    ·cases hp
    ·rename_i hm;cases h:mF (bF k).toNat ks with
     | none=>rw [h] at hp;cases hp
     | some q=>
      rw [h] at hp;injection hp with hp;subst hp;obtain ⟨hj,h3⟩:=ih _ _ h;rw [show bF k=((bF k).toNat:Int) from by omega,sT (by simpa using hj)];simpa using h3
   ·rename_i hr;injection hp with hp;subst hp;exact ⟨k,n,ks,rfl,hr⟩
  ·rw [mF] at hp;cases hp
  ·cases i with
   | zero=>rw [mF] at hp;exact ⟨by simp,by simpa using h1 p hp⟩
   | succ i=>
    rw [mF] at hp;obtain ⟨hj,h3⟩:=h2 i p hp;exact ⟨by simp;omega,by simpa using h3⟩
 exact h.1
theorem aFk {t u:Tm}(h:vO t=some u):aE u=true:=by
 unfold vO at h;split at h
 ·injection h with h;subst h;assumption
 ·cases h
theorem aBx {x:Int}{u t v:Tm}(h:fJ x u t=some v):aE v=true:=by
 unfold fJ at h;split at h
 ·split at h
  ·injection h with h;subst h;assumption
  ·cases h
 ·cases h
theorem aHd {t u:Tm}(h:vH t=some u):aE u=true:=by
 obtain ⟨k,n,ks⟩:=t;rw [vH] at h;split at h
 ·exact aBx h
 repeat (split at h;· exact aFk h)
 cases h
theorem rR {t u:Tm}{p:List Int}(h:pB t p=some u):aE u=true:=by
 unfold pB at h;split at h
 ·cases h
 ·split at h
  ·cases h
  ·exact aFk h
theorem yB {find:Tm->Option (List Int)}:∀(fuel:Nat) (t u:Tm) (c:Int),aE t=true->redI find fuel t=(some u,c)->aE u=true
 | fuel,t,u,c,hv,h=>by
  rw [redI] at h;split at h
  ·injection h with h1 h2;injection h1 with h1;subst h1;exact hv
  ·split at h
   ·cases h
   ·split at h
    ·cases h
    ·exact yB _ _ _ _ (rR (by assumption)) h
def PathX (w:Bb)(A:Ba)(xs:List Int):Prop:=
 0<xs.length->∃b off,A=some ⟨b,off,none⟩/\∀(i:Nat) (u:Value),(xs.map (Value.int .i64))[i]?=some u->w.cell? ⟨b,off+i,none⟩=some u
theorem PathX.nil {w:Bb}{A:Ba}:PathX w A []:=λh=>absurd h (Nat.lt_irrefl _)
theorem PathX.alloc {w:Bb}{A:Ba}{xs:List Int}(h:PathX w A xs)(o:Obj):PathX (w.alloc o) A xs:=by
 intro hm;obtain ⟨b,off,h3,h4⟩:=h hm;exact ⟨b,off,h3,λi u hu=>Keeps.alloc w o _ _ (h4 i u hu)⟩
theorem PathX.rdi {w:Bb}{A:Ba}{xs:List Int}(h:PathX w A xs):RdI w A xs:=λj hj=>by
 obtain ⟨b,off,h3,h4⟩:=h Ac;exact ⟨b,off,h3,h4 j _ (by rw [List.getElem?_map,sE hj];rfl)⟩
theorem uQ {w:Bb}{A:Ba}{xs:List Int}{m c:Nat}(h:PathX w A xs)(h1:xs.length=m)(hm:m<=1000)(x:Int)(ty:TypeId) :
  ∃A' c' w',(Builtin.append_ #[27,27] ty #[.slice (some ⟨w.heap.size,0,none⟩) 1 1,.slice A m c]).run prog (w.alloc (.cells #[.int .i64 x] 3)) = .ok (.slice A' (m+1) c') w'/\m+1<=c'/\PathX w' A' (x::xs)/\Bw w w':=by
 obtain ⟨i0,hi,hz0,hz1,hz2⟩:=info_parts aPy;have hown:(w.alloc (.cells #[.int .i64 x] 3)).ownsRow w.heap.size 3 1 (.slice (some ⟨w.heap.size,0,none⟩) 1 1) 1 [.int .i64 x]:=
  ⟨rfl,.inr ⟨w.heap.size,1,#[.int .i64 x],rfl,mC _,heap_alloc_new w _,mC _,by decide,rfl,rfl⟩⟩
 have h2:=h.alloc (.cells #[.int .i64 x] 3);have fin:∀(v':Value) (w':Bb),w'.ownsRow w.heap.size 3 1 v' (1+m) (.int .i64 x::xs.map (Value.int .i64))->(w.alloc (.cells #[.int .i64 x] 3)).grownBy w' (some w.heap.size)->
   ∃A' c',v' = .slice A' (m+1) c'/\m+1<=c'/\PathX w' A' (x::xs)/\Bw w w':=by
  intro v' w' ho hg;have hb:Bw w w':=bw1.grown hg Ag (λk e=>by cases e;omega);rcases ho.2 with ⟨_,h0⟩|⟨g,cap,cur,rfl,hgb,hgc,hn,hmx,hcs,htk⟩
  ·omega
  ·refine ⟨some ⟨g,0,none⟩,cap,by rw [Nat.add_comm],by omega,λ_=>⟨g,0,rfl,λi u hu=>?_⟩,hb⟩;rw [List.map_cons,<- htk] at hu;have hu2:cur[i]?=some u:=by
    rw [List.getElem?_take] at hu;split at hu
    ·simpa using hu
    ·cases hu
   have hB:Blk w' g cur:=⟨3,hgc⟩;rw [Nat.zero_add];exact hB.at_ hu2
 have hcells:∀(ad:Addr),A=some ad->∀j u,(xs.map (Value.int .i64))[j]?=some u->(w.alloc (.cells #[.int .i64 x] 3)).cell? (ad.add j)=some u:=by
  intro ad e j u hu;have hj:j<xs.length:=by have:=(List.getElem?_eq_some_iff.1 hu).1;simpa using this
  obtain ⟨b,off,e2,hc⟩:=h2 Ac;rw [e2] at e;cases e;have:=hc j u hu;rwa [<- Go.WideShapes.add_plain] at this
 rcases A with _|ad
 ·have hz:m=0:=by
   rcases Nat.eq_zero_or_pos m with h0|h0
   ·exact h0
   ·obtain ⟨b,off,e,_⟩:=h2 Ac;cases e
  subst hz;have hx:xs=[]:=lEn h1;subst hx;obtain ⟨A',c',hv,hcc,hp,hb⟩:=fin _ _ hown (nE _ _);refine ⟨A',c',_,?_,hcc,hp,hb⟩;rw [<- hv];have hgc:=heap_alloc_new w (.cells #[.int .i64 x] 3);simp [Builtin.append_,run_underlying Tryz.underlying27,sizeOf,typeInfo,hi,Builtin.lenOf,Builtin.firstCells,storeCells]
 ·obtain ⟨v',w',hrun,ho,hg,_,hat⟩:=run_append_own_at (P:=prog) (w.alloc (.cells #[.int .i64 x] 3)) w.heap.size 27 ty 3 i0 _ 1 8 Tryz.underlying27 hi hz0 hz1 hz2 rfl Ac _ 1 _ hown ad m c (xs.map (Value.int .i64)) (by simp [h1]) (hcells ad rfl) (by
   intro u hu;obtain ⟨z,_,rfl⟩:=List.mem_map.1 hu;rfl) (by simp only [maxLen];omega) Ac Ag
  obtain ⟨A',c',rfl,hcc,hp,hb⟩:=fin v' w' (by simpa using ho) hg;exact ⟨A',c',w',hrun,hcc,hp,hb⟩
theorem dO {w:Bb}{A:Ba}{xs:List Int}{m c:Nat}(h:PathX w A xs)(h1:xs.length=m)(hm:m<=1000)(x:Int)
  {ops:Array Oper} {rest:List Oper} {o:Oper} {a:Act} {Q:Exit->Act->Bb->Prop} (hgd:o.guard=none) (s t:Operand)
  (ho : o.op = .call { callee := .builtin .append, args := #[s, t], argTypes := #[27, 27] }) (hs : a.eval s = .slice (some ⟨w.heap.size, 0, none⟩) 1 1) (hx : a.eval t = .slice A m c)
  (hk : ∀ A' c' w', m + 1 <= c' -> PathX w' A' (x :: xs) -> Bw w w' -> wpList prog ops Q rest (a.put o.dst (.slice A' (m + 1) c')) w') :
  wpList prog ops Q (o::rest) a (w.alloc (.cells #[.int .i64 x] 3)):=by
 refine wpList_plain hgd λK hK=>?_
 obtain ⟨A',c',w',hrun,h0,h2,h3⟩:=uQ (c:=c) h h1 hm x o.type;unfold Oper.wp execOp;simp only [ho,resolve,invoke,builtin,Sem.run_bind,Sem.run_pure,Result.andThen_ok,List.map_toArray,List.map_cons,List.map_nil,hs,hx,hrun];exact hK _ _ (hk A' c' w' h0 h2 h3)
def WayPost (o:Option (List Int))(d:Nat)(w:Bb)(e:Ending)(w':Bb):Prop:=
 ∃A m c,e = .returned (.tuple #[.slice A m c,.bool o.isSome])/\m<=d/\m<=c/\(∀p,o=some p->m=p.length/\PathX w' A p)/\Bw w w'
theorem WayPost.some_ {p:List Int}{d:Nat}{w:Bb}{e:Ending}{w':Bb}(h:WayPost (some p) d w e w') :
  ∃A m c,e = .returned (.tuple #[.slice A m c,.bool true])/\m<=d/\m<=c/\m=p.length/\PathX w' A p/\Bw w w':=by
 obtain ⟨A,m,c,he,h1,h2,h3,h4⟩:=h;exact ⟨A,m,c,he,h1,h2,(h3 p rfl).1,(h3 p rfl).2,h4⟩
theorem WayPost.none_ {d:Nat}{w:Bb}{e:Ending}{w':Bb}(h:WayPost none d w e w') :
  ∃A m c,e = .returned (.tuple #[.slice A m c,.bool false])/\Bw w w':=by
 obtain ⟨A,m,c,he,h1,h2,h3,h4⟩:=h;exact ⟨A,m,c,he,h4⟩
theorem outP_no:(∀t,(eT t=none↔nrm t=true))/\(∀(ts:List Tm) (i:Int),(jJ i ts=none↔aDz ts=true)):=by
 refine bA (λk n ks ih=>?_) (λi=>?_) (λt ts h1 h2 i=>?_)
 ·rw [eT,nrm];split
  ·rename_i h;rw [ih 0,h];simp
  ·rename_i h;simp [h]
 ·simp [jJ,aDz]
 ·rw [jJ,aDz,Bool.and_eq_true,<- h1,<- h2 (i+1)];cases eT t<;>simp
theorem aFw {ks:List Tm}{p:List Int}:∀{j:Nat} {i:Int},(∀t,t∈ks.take j->nrm t=true)->(hj:j<ks.length)->eT ks[j]=some p->jJ i ks=some ((i+j)::p):=by
 induction ks with
 | nil=>intro j i _ hj;exact absurd hj (Nat.not_lt_zero _)
 | cons t ts ih=>
  intro j i hall hj hp;cases j with
  | zero=>rw [jJ];simp at hp;rw [hp];simp
  | succ j=>
   have h0:eT t=none:=(outP_no.1 t).2 (hall t Ag);rw [jJ,h0];have:=ih (j:=j) (i:=i+1) (λu hu=>hall u (by simp [hu])) (by simpa using hj) (by simpa using hp);rw [this];simp;omega
theorem tA (N:Nat):∀(d:Nat) (k n:Int) (ks:List Tm) (A:Ba) (c:Nat) (w:Bb),d<=30->aG ks<N->shape d (.mk k n ks)=true->aG ks<=1099511627775->Rd w A 0 ks->
  Calls prog 112 #[.agg (Ro k n A ks.length c)] w (WayPost (eT (.mk k n ks)) d w):=by
 induction N with
 | zero=>intro d k n ks A c w _ hN;exact absurd hN (Nat.not_lt_zero _)
 | succ N ih=>
 intro d k n ks A c w hd hN hsh hM hr;have hlen:=aJ ks;obtain ⟨d,rfl⟩:∃d',d=d'+1:=by cases d with|zero=>simp [shape] at hsh|succ d=>exact ⟨d,rfl⟩
 obtain ⟨ha,hm1,hm2,hkids⟩:=(bH d k n ks).1 hsh;have hkids:=aD hkids;have ha':=aD ha;clear ha hm1 hm2 hsh;by_cases hrd:rdx k ks=0
 ·have hz:eT (.mk k n ks)=jJ 0 ks:=by rw [eT,Av hrd]
  rw [hz];have hrd':=aD hrd;clear hz;generalize hoo:jJ 0 ks=oo;have hoo':=aD hoo;clear hoo;go_enter func112,ntmps112;go_wp2_with (go_at_call 110;refine (cY k n ks A c _ Ac ha'.out (hr.alloc _)).mono ?_;rw [hrd];rintro e w1 ⟨rfl,hb1⟩;have hB1:=(aC w 32 (Ro k n A ks.length c) rfl).keep hb1;obtain ⟨p10,p11,p12⟩:=hB1.three;replace hb1:=bw1.trans (hb1.mono Ag));go_loopw [14] (λi wr=>∃j:Nat,j<=ks.length/\i = .int .i64 j/\Hid (∀t,t∈ks.take j->nrm t=true)/\Bw w wr)
   (λi _=>ks.length - (intOf i).toNat)
  case atStart=>exact ⟨0,Nat.zero_le _,rfl,aD Ag,hb1⟩
  case round=>
   obtain ⟨j,hj,rfl,hall,hb⟩:=hrel;by_cases hlt:j<ks.length
   ·obtain ⟨b,off,k1,n1,ks1,A1,c1,rfl,hkj,hc1,hc2,hc3,hl1,hr1⟩:=(hr.below hb).at_ hlt;have hsz:=cG (gM hlt);have hs1:=hkids.out _ (gM hlt);rw [hkj] at hsz hs1;simp only [Tm.size] at hsz;have H3:=aD hkj;have H4:=aD hs1;clear hkj hs1;cases ho1:eT (.mk k1 n1 ks1) with
    | none=>
     have hn1:nrm (.mk k1 n1 ks1)=true:=(outP_no.1 _).1 ho1;have hn1':=aD hn1;have ho1':=aD ho1;clear ho1 hn1;go_wp2_with (go_at_call 112;refine (ih d k1 n1 ks1 A1 c1 _ Ac Ac H4.out Ac (hr1.alloc _)).mono ?_;rw [ho1'.out];intro e w3 hp;obtain ⟨A3,m3,c3,rfl,hb3⟩:=hp.none_;replace hb3:=bw1.trans (hb3.mono Ag));go_roundw
     case rel=>exact ⟨j+1,hlt,by go_num,aD (aEr hlt hall.out (by rw [H3.out];exact hn1'.out)),hb.trans (hb3.mono hb.size)⟩
     case measure=>simp [intOf];omega
    | some p1=>
     have ho1':=aD ho1;clear ho1;go_wp2_with (first|(go_at_call 112;refine (ih d k1 n1 ks1 A1 c1 _ Ac Ac H4.out Ac (hr1.alloc _)).mono ?_;rw [ho1'.out];intro e w3 hp;obtain ⟨A3,m3,c3,rfl,hm3,hc3',hm3e,hp3,hb3⟩:=hp.some_;have hm3e':=aD hm3e.symm;clear hm3e;replace hb3:=bw1.trans (hb3.mono Ag))|(at_builtin;refine dO hp3 hm3e'.out Ac _ rfl _ _ rfl rfl rfl ?_;intro A4 c4 w4 hcc4 hp4 hb4));go_ret2;have hfin:=aFw (i:=0) hall.out hlt (by rw [H3.out];exact ho1'.out);rw [hoo'.out] at hfin;refine ⟨A4,m3+1,c4,by rw [hfin];rfl,by omega,hcc4,?_,hb.trans ((hb3.trans (hb4.mono hb3.size)).mono hb.size)⟩;intro p hp;rw [hfin] at hp;injection hp with hp;subst hp;refine ⟨by rw [List.length_cons,hm3e'.out],by simpa using hp4⟩
   ·have hje:j=ks.length:=by omega
    go_wp2_with fail;go_ret2;have ha:=hall.out;rw [hje,List.take_length] at ha;have h2:oo=none:=by rw [<- hoo'.out];exact (outP_no.2 ks 0).2 ((aEi ks).2 ha)
    refine ⟨none,0,0,by rw [h2];rfl,by omega,mC _,λp hp=>(by rw [h2] at hp;cases hp),hb⟩
 ·have hne:(rdx k ks != 0)=true:=by simpa using hrd
  have hz:eT (.mk k n ks)=some []:=by rw [eT,Aw hrd]
  rw [hz];have H:=aD hrd;clear hrd hz;go_enter func112,ntmps112;go_wp2_with (go_at_call 110;refine (cY k n ks A c _ Ac ha'.out (hr.alloc _)).mono ?_;rintro e w1 ⟨rfl,hb1⟩;replace hb1:=bw1.trans (hb1.mono Ag));go_ret2;exact ⟨none,0,0,rfl,by omega,mC _,λp hp=>(by injection hp with hp;subst hp;exact ⟨rfl,PathX.nil⟩),hb1⟩
end Go.Proofs.YtjlaenhcemacdaaGreat
