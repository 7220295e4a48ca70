/- Parts of the proof. No condition. -/
import Derived.Test.YtjlaenhcemacdaaGreatK7
import Derived.IntWalk
import Derived.Laws.BitsAllLaws
import Derived.Laws.BitsLemmas
import Derived.Laws.DeepStrings4
import Derived.Laws.Concat
import Derived.Outline
import Derived.Laws.IdiomStrings
open Go.Proofs.Tryz
namespace Go.Proofs.YtjlaenhcemacdaaGreat
open Go.RowKit
set_option maxHeartbeats 2000000
set_option maxRecDepth 100000
set_option linter.unusedSimpArgs false
set_option linter.unusedVariables false
mutual
def bT (u:Tm):Int->Int->Tm->Tm
 | x,d,.mk k n ks=>if k=1/\n=x then bR d 0 u else .mk k (if k=1/\x<n then n - 1 else n) (cE u k x d 0 ks)
def cE (u:Tm):Int->Int->Int->Nat->List Tm->List Tm|_,_,_,_,[]=>[]|k,x,d,i,t::ts=>bT u (x+aN k i) (d+aN k i) t::cE u k x d (i+1) ts
end
theorem vB (u:Tm)(k x d:Int)(us:List Tm):∀(ts:List Tm) (i:Nat),cE u k x d i (ts++us)=cE u k x d i ts++cE u k x d (i+ts.length) us
 | [],i=>by simp [cE]
 | t::ts,i=>by rw [List.cons_append,cE,cE,vB u k x d us ts (i+1),List.cons_append,List.length_cons,show i+1+ts.length=i+(ts.length+1) from by omega]
theorem dQ (u:Tm)(k x d:Int):∀(ts:List Tm) (i:Nat),(cE u k x d i ts).length=ts.length
 | [],i=>by simp [cE]
 | t::ts,i=>by rw [cE,List.length_cons,List.length_cons,dQ u k x d ts (i+1)]
theorem zS (u:Tm)(k x d:Int){ks:List Tm}{j:Nat}(hj:j<ks.length):cE u k x d 0 (ks.take (j+1))=cE u k x d 0 (ks.take j)++[bT u (x+aN k j) (d+aN k j) ks[j]]:=by
 rw [tM hj,vB,List.length_take,Nat.min_eq_left (Nat.le_of_lt hj),Nat.zero_add,cE,cE]
theorem sQ (u:Tm){m:Nat}(hm:u.size<=m)(h1:1<=m)(t:Tm):∀x d,(bT u x d t).size<=t.size*m:=by
 refine (bA (p:=λt=>∀x d,(bT u x d t).size<=t.size*m) (q:=λts=>∀k x d i,aG (cE u k x d i ts)<=aG ts*m) ?_ ?_ ?_).1 t
 ·intro k n ks ih x d;rw [bT];split
  ·rw [nC,Tm.size,Nat.add_mul];omega
  ·have:=ih k x d 0;rw [Tm.size,Tm.size,Nat.add_mul];omega
 ·intro k x d i;simp [cE,aG]
 ·intro t ts h1 h2 k x d i;have a:=h1 (x+aN k i) (d+aN k i);have b:=h2 k x d (i+1);rw [cE,aG,aG,Nat.add_mul];omega
theorem xD (ku nu:Int)(us:List Tm)(hus:shape 30 (.mk ku nu us)=true)(huz:aG us<=1000000)(N:Nat):∀(k n:Int) (ks:List Tm) (A:Ba) (c:Nat) (U:Ba) (cu:Nat) (x d:Int) (q:Nat) (w:Bb),aG ks<N->aG ks<=1000000->shape q (.mk k n ks)=true->0<=x->x+q<=900->0<=d->d+q<=900->Rd w A 0 ks->Rd w U 0 us->
  ∀(k2 n2:Int) (ks2:List Tm),bT (.mk ku nu us) x d (.mk k n ks) = .mk k2 n2 ks2->
  Calls prog 92 #[.agg (Ro k n A ks.length c),.int .i64 x,.agg (Ro ku nu U us.length cu),.int .i64 d] w (rQ w k2 n2 ks2):=by
 induction N with
 | zero=>intro k n ks A c U cu x d q w hN;exact absurd hN (Nat.not_lt_zero _)
 | succ N ih=>
 intro k n ks A c U cu x d q w hN hM hsh hx0 hxq hd0 hdq hr hru kr nr ksr hfl;have hlen:=aJ ks;obtain ⟨q,rfl⟩:∃q',q=q'+1:=by cases q with|zero=>simp [shape] at hsh|succ q=>exact ⟨q,rfl⟩
 obtain ⟨ha,hm1,hm2,hkids⟩:=(bH q k n ks).1 hsh;rw [bT] at hfl;have hus':=aD hus;by_cases hk:k=1
 ·subst hk;have hks:ks=[]:=by
   have h0:aX 1=0:=rfl;rw [h0] at ha;exact lEn Ac
  subst hks;have h20:dL 1=20:=rfl;rw [h20] at hm2;clear hkids hsh ha h20;by_cases hnx:n=x
  ·rw [Av ⟨rfl,hnx⟩,bR] at hfl;injection hfl with h1 h2 h3;subst h1 h2 h3;obtain ⟨n2,hn2⟩:∃n2,(if ku=1/\0<=nu then nu+d else nu)=n2:=⟨_,rfl⟩;have hn2':=aD hn2;rw [hn2];clear hn2;subst hnx;go_enter func92,ntmps92;go_wp2_with (go_at_call 29;refine (gI _ ku nu us U cu d 0 30 _ (mV _) Ac hus'.out Ac Ac Ac (((hru.alloc _).alloc _).alloc _)).mono ?_;rw [hn2'.out];rintro e w1 ⟨A1,c1,rfl,hl1,hf1,hb1⟩;have hT:Blk w1 (w.heap.size+1+1) Zr:=(aC _ 32 _ Ag).keep hb1;obtain ⟨d0,d1,d2,e0,e1,e2⟩:=bZ hT;replace hf1:Fresh (w.heap.size+3) w1 A1 (bK d ku 0 0 us):=hf1.mono Ag;replace hb1:Bw w w1:=bw3.trans (hb1.mono Ai))
   refine bodyPost_ret (v:=.agg #[.int .i64 ku,.int .i64 n2,.slice A1 (bK d ku 0 0 us).length c1]) (by simp [results,results92,go_sem,d0,d1,d2]) rfl ⟨A1,c1,by simp,hl1,?_,?_⟩
   ·exact (vF hf1).mono Ac
   ·exact bV hb1
  ·rw [Aw (by rintro ⟨-,h⟩;exact hnx h)] at hfl;have q0:(n==x)=false:=by simpa using hnx
   by_cases hxn:x<n
   ·rw [Av ⟨rfl,hxn⟩] at hfl;injection hfl with h1 h2 h3;subst h1 h2 h3;have q2:decide (x<n)=true:=by simpa using hxn
    clear hnx;go_enter func92,ntmps92;go_wp2_with fail;go_loopw [10] (λi wr=>i = .int .i64 0/\Blk wr (w.heap.size+1+1+1) (Ro 1 (n - 1) none 0 0)/\Blk wr (w.heap.size+1+1) Zr/\Blk wr w.heap.size (Ro 1 n A 0 c)/\Bw w wr)
     (λ_ _=>0)
    case atStart=>exact ⟨rfl,aC _ _ _ Ag,(aC _ _ _ Ag).alloc _,(((aC _ _ _ rfl).alloc _).alloc _).alloc _,bw4⟩
    case round=>
     obtain ⟨rfl,hB3,hB2,hB1,hb⟩:=hrel;have b2:=hB1.at_ (i:=2) rfl;obtain ⟨c0,c1,c2⟩:=hB3.three;obtain ⟨d0,d1,d2,e0,e1,e2⟩:=bZ hB2;go_wp2_with fail;refine bodyPost_ret (v:=.agg (Ro 1 (n - 1) none 0 0)) (by simp [results,results92,go_sem,d0,d1,d2]) rfl ⟨none,0,by simp [cE],by simp [cE],?_,?_⟩
     ·simpa [cE] using (Fresh.nil:Fresh w.heap.size _ none [])
     ·exact bV hb
   ·rw [Aw (by rintro ⟨-,h⟩;exact hxn h)] at hfl;injection hfl with h1 h2 h3;subst h1 h2 h3;have q2:decide (x<n)=false:=by simpa using hxn
    clear hnx;go_enter func92,ntmps92;go_wp2_with fail;go_loopw [10] (λi wr=>i = .int .i64 0/\Blk wr (w.heap.size+1+1+1) (Ro 1 (n) none 0 0)/\Blk wr (w.heap.size+1+1) Zr/\Blk wr w.heap.size (Ro 1 n A 0 c)/\Bw w wr)
     (λ_ _=>0)
    case atStart=>exact ⟨rfl,aC _ _ _ Ag,(aC _ _ _ Ag).alloc _,(((aC _ _ _ rfl).alloc _).alloc _).alloc _,bw4⟩
    case round=>
     obtain ⟨rfl,hB3,hB2,hB1,hb⟩:=hrel;have b2:=hB1.at_ (i:=2) rfl;obtain ⟨c0,c1,c2⟩:=hB3.three;obtain ⟨d0,d1,d2,e0,e1,e2⟩:=bZ hB2;go_wp2_with fail;refine bodyPost_ret (v:=.agg (Ro 1 (n) none 0 0)) (by simp [results,results92,go_sem,d0,d1,d2]) rfl ⟨none,0,by simp [cE],by simp [cE],?_,?_⟩
     ·simpa [cE] using (Fresh.nil:Fresh w.heap.size _ none [])
     ·exact bV hb
 ·have hn:¬(k=1/\n=x):=by rintro ⟨h,-⟩;exact hk h
  rw [Aw hn,Aw (by rintro ⟨h,-⟩;exact hk h)] at hfl;injection hfl with h1 h2 h3;subst h1 h2 h3;have hkids':=aD hkids;have hm2':=aD hm2;clear hkids ha hsh hm2;have q1:(k==1)=false:=by simpa using hk
  clear hn hk;go_enter func92,ntmps92;go_wp2_with fail;go_loopw [10,11] (λi _ wr=>∃(j:Nat) (v:Value),j<=ks.length/\i = .int .i64 j/\Part (w.heap.size+4) wr v (cE (.mk ku nu us) k x d 0 (ks.take j))/\Blk wr (w.heap.size+1+1+1) #[.int .i64 k,.int .i64 (n),v]/\Blk wr (w.heap.size+1+1) Zr/\Blk wr (w.heap.size+1) (Ro ku nu U us.length cu)/\Blk wr w.heap.size (Ro k n A ks.length c)/\Bw w wr)
   (λi _ _=>ks.length - (intOf i).toNat)
  case atStart=>exact ⟨0,_,Nat.zero_le _,rfl,Part.nil,aC _ _ _ Ag,(aC _ _ _ Ag).alloc _,((aC _ _ _ Ag).alloc _).alloc _,(((aC _ _ _ rfl).alloc _).alloc _).alloc _,bw4⟩
  case round=>
   obtain ⟨j,v,hj,rfl,hp,hB3,hB2,hBu,hB1,hb⟩:=hrel;have c12:=hB1.at_ (i:=2) rfl;have c10:=hB1.at_ (i:=0) rfl;by_cases hlt:j<ks.length
   ·obtain ⟨b,off,k',n',ks',A',c',rfl,hkj,hc1,hc2,hc3,hl',hr'⟩:=(hr.below hb).at_ hlt;have hsz:=cG (gM hlt);have hsk:=hkids'.out _ (gM hlt);rw [hkj] at hsz hsk;simp only [Tm.size] at hsz;have H3:=aD hkj;have H4:=aD hsk;clear hkj hsk;have hz:=hB3.lt;obtain ⟨k2,n2,ks2,hct⟩:∃k2 n2 ks2,bT (.mk ku nu us) (x+aN k j) (d+aN k j) (.mk k' n' ks') = .mk k2 n2 ks2:=gQ _;have hct':=aD hct;clear hct;have hun:=dA k j;go_wp2_with (go_at_call 44;refine (nR _ _ _).mono ?_;rintro e w9 ⟨rfl,rfl⟩);have x2:=hB3.rule (i:=2) rfl;have a0:=hBu.rule (i:=0) rfl;have a1:=hBu.rule (i:=1) rfl;have a2:=hBu.rule (i:=2) rfl;have b2:=hB1.rule (i:=2) rfl;obtain ⟨y0,y1,y2⟩:=pG hc1 hc2 hc3;refine bQ (λw'=>Bw wr w') [0,1,2,3,4,5,6,7,8,9,10,11,12,13] [14,15] [16,17,18] [_,_,_,_,_,_,_,_,_,_,_,_,_,_] [_,_] [_,_,_] (by kernel_rfl) (by kernel_rfl) rfl rfl rfl (λ_ _ d _ _ h=>by cases d<;>exact h) (eI _ _).drew ?_;refine bU (aD ?_);refine bO ?_;go_wp2_with (go_at_call 92;refine (ih k' n' ks' A' c' U cu (x+aN k j) (d+aN k j) q _ Ac Ac H4.out Ac Ac Ac Ac hr'.drew (hru.below hb).drew k2 n2 ks2 hct'.out).mono ?_;rintro e w1 ⟨A1,c1,rfl,hl1,hf1,hb1⟩);have hx1:Bw wr w1:=(eI _ _).drew.trans hb1;refine aS hx1 (bO ?_);go_wp2_with fail
    refine aS (hx1.alloc hx1.size _) (eB ?_);refine cZ (B:=w.heap.size+4) (m:=j) hp.drew hb1 Ai hf1 hl1 (by rw [dQ];simp;omega) Ac rfl (.tmp 54) (.tmp 68) rfl rfl rfl ?_;intro A2 c2 w2 hp2 hb2 hg2;have q3:Blk w2 (w.heap.size+1+1+1) #[.int .i64 k,.int .i64 (n),v]:=(hB3.below hx1 Ac).below hb2 Ac;have q2:Blk w2 (w.heap.size+1+1) Zr:=(hB2.below hx1 Ac).below hb2 Ac;have qu:Blk w2 (w.heap.size+1) (Ro ku nu U us.length cu):=(hBu.below hx1 Ac).below hb2 Ac;have q1':Blk w2 w.heap.size (Ro k n (some ⟨b,off,none⟩) ks.length c):=(hB1.below hx1 Ac).below hb2 Ac;have c3:w2.cell? ⟨w.heap.size+1+1+1,2,none⟩=some v:=q3.at_ rfl;have z3:=q3.frozen 2;have hbf:Bw w w2:=(hb.trans (hx1.mono Ac)).trans (hb2.mono Ac);clear x2 y0 y1 y2 b2 a0 a1 a2;go_wp2_with fail;go_roundw
    case rel=>exact ⟨j+1,_,by omega,by go_num,by rw [zS _ k x d hlt,H3.out,hct'.out];exact hp2.setCell Ag _,q3.set_ 2 _,q2.far Ag _,qu.far Ag _,q1'.far Ai _,hbf.setCell Ai _⟩
    case measure=>simp [intOf];omega
   ·have hjl:j=ks.length:=by omega
    subst hjl;rw [List.take_length] at hp;obtain ⟨Ar,cr,rfl,hfr⟩:=hp.fresh;obtain ⟨c0,c1,c2⟩:=hB3.three;obtain ⟨d0,d1,d2,e0,e1,e2⟩:=bZ hB2;go_wp2_with fail;refine bodyPost_ret (v:=.agg #[.int .i64 k,.int .i64 (n),.slice Ar (cE (.mk ku nu us) k x d 0 ks).length cr]) (by simp [results,results92,go_sem,d0,d1,d2]) rfl ⟨Ar,cr,rfl,by rw [dQ];omega,?_,?_⟩
    ·exact (vF hfr).mono Ac
    ·exact bV hb
section
variable {u:Tm}(hsu:shape 30 u=true)
include hsu
theorem aWy (t:Tm):∀(q:Nat) (d:Int),0<=d->shape q t=true->eW (qT 0 u) d t=true->vI (sbF 0 u) d t=bT u d d t:=by
 refine Tm.rec (motive_1:=λt=>∀(q:Nat) (d:Int),0<=d->shape q t=true->eW (qT 0 u) d t=true->vI (sbF 0 u) d t=bT u d d t)
  (motive_2 := λts => ∀ (q : Nat) (k d : Int) (i : Nat), 0 <= d -> (∀ t, t ∈ ts -> shape q t = true) -> dR (qT 0 u) k d i ts = true -> iE (sbF 0 u) k d i ts = cE u k d d i ts) ?_ ?_ ?_ t
 ·intro k n ks ih q d hd h hok;obtain ⟨q',rfl,ha,h0,h1,hk⟩:=cD h;rw [eW] at hok;rw [vI,bT];by_cases h1:k=1
  ·subst h1;have:=tK ha;subst this;rw [Av rfl] at hok⊢;unfold qT at hok;unfold sbF;by_cases h2:n=d
   ·rw [Av (show n - d=0 by omega)] at hok⊢;rw [Av (show (1:Int)=1/\n=d from ⟨rfl,h2⟩)];exact gE hsu hok
   ·rw [Aw (show ¬n - d=0 by omega),Aw (show ¬((1:Int)=1/\n=d) from λh=>h2 h.2)];by_cases h3:d<n
    ·rw [Av (show 0<n - d by omega),Av (show (1:Int)=1/\d<n from ⟨rfl,h3⟩)];rfl
    ·rw [Aw (show ¬0<n - d by omega),Aw (show ¬((1:Int)=1/\d<n) from λh=>h3 h.2)];rfl
  ·rw [Aw h1] at hok⊢;rw [Aw (by rintro ⟨h,-⟩;exact h1 h),Aw (by rintro ⟨h,-⟩;exact h1 h),ih q' k d 0 hd hk hok]
 ·intro q k d i _ _ _;rfl
 ·intro t ts h1 h2 q k d i hd hk hok;rw [dR,Bool.and_eq_true] at hok;rw [iE,cE,h1 q _ (by have:=dA k i;omega) (hk t List.mem_cons_self) hok.1,h2 q k d (i+1) hd (λt ht=>hk t (List.mem_cons_of_mem _ ht)) hok.2]
theorem aRa (t:Tm):∀(q p:Nat) (d:Int),0<=d->p<=30->shape q t=true->shape p (bT u d d t)=true->(bT u d d t).size<=400->eW (qT 0 u) d t=true:=by
 refine Tm.rec (motive_1:=λt=>∀(q p:Nat) (d:Int),0<=d->p<=30->shape q t=true->shape p (bT u d d t)=true->(bT u d d t).size<=400->eW (qT 0 u) d t=true)
  (motive_2 := λts => ∀ (q p : Nat) (k d : Int) (i : Nat), 0 <= d -> p <= 30 -> (∀ t, t ∈ ts -> shape q t = true) -> (∀ t, t ∈ cE u k d d i ts -> shape p t = true) -> aG (cE u k d d i ts) <= 400 -> dR (qT 0 u) k d i ts = true) ?_ ?_ ?_ t
 ·intro k n ks ih q p d hd hp h hs hz;obtain ⟨q',rfl,ha,h0,h1,hk⟩:=cD h;rw [eW];rw [bT] at hs hz;by_cases h1:k=1
  ·subst h1;rw [Av rfl];unfold qT;by_cases h2:n=d
   ·rw [Av (show n - d=0 by omega)];rw [Av (show (1:Int)=1/\n=d from ⟨rfl,h2⟩)] at hs hz;refine aAp hd hsu ?_;rw [aE,sH hp _ hs,decide_eq_true hz];rfl
   ·rw [Aw (show ¬n - d=0 by omega)]
  ·rw [Aw h1];have hn:¬(k=1/\n=d):=by rintro ⟨h,-⟩;exact h1 h
   rw [Aw hn] at hs hz;obtain ⟨p',rfl,hpa,hp0,hp1,hpk⟩:=cD hs;rw [Tm.size] at hz;exact ih q' p' k d 0 hd Ac hk hpk Ac
 ·intro q p k d i _ _ _ _ _;rfl
 ·intro t ts h1 h2 q p k d i hd hp hk hs hz;rw [cE] at hs hz;rw [aG] at hz;rw [dR,h1 q p _ (by have:=dA k i;omega) hp (hk t List.mem_cons_self) (hs _ List.mem_cons_self) Ac,h2 q p k d (i+1) hd hp (λt ht=>hk t (List.mem_cons_of_mem _ ht)) (λt ht=>hs t (List.mem_cons_of_mem _ ht)) Ac];rfl
end
theorem aY {t:Tm}(h:aE t=true):shape 30 t=true:=by simp only [aE,Bool.and_eq_true] at h;exact h.1
theorem oY {u t:Tm}(hu:aE u=true)(ht:aE t=true):fJ 0 u t=vO (bT u 0 0 t):=by
 have hsu:=aY hu;unfold fJ vO;by_cases hv:aE (bT u 0 0 t)=true
 ·have h2:(bT u 0 0 t).size<=400:=by simp only [aE,Bool.and_eq_true,decide_eq_true_eq] at hv;exact hv.2
  have hok:=aRa hsu t 30 30 0 (Int.le_refl _) (mC _) (aY ht) (aY hv) h2;rw [Av hok,aWy hsu t 30 0 (Int.le_refl _) (aY ht) hok,Av hv]
 ·rw [Aw hv];by_cases hok:eW (qT 0 u) 0 t=true
  ·rw [Av hok,aWy hsu t 30 0 (Int.le_refl _) (aY ht) hok,Aw hv]
  ·rw [Aw hok]
def eF:Tm->Tm
 | .mk k n ks=>
  if rdx k ks=1 then bT (aI ks 1) 0 0 (aI (aI ks 0).ks 1)
  else if rdx k ks=2 then aI ks 1
  else if rdx k ks=3 then .mk 5 0 [.mk 5 0 [aI ks 2,aI (aI ks 3).ks 0],.mk 9 0 [aI ks 0,aI ks 1,aI ks 2,aI (aI ks 3).ks 0]]
  else if rdx k ks=4 then aI ks 2
  else if rdx k ks=5 then aI (aI ks 0).ks 1
  else aI (aI ks 0).ks 2
theorem fG {ks:List Tm}{i:Nat}(h:i<ks.length):aI ks i∈ks:=by
 rw [aI,List.getD_eq_getElem?_getD,sE h];exact gM h
theorem fH {k n:Int}{ks:List Tm}(h:aE (.mk k n ks)=true):aX k=(ks.length:Int):=by
 obtain ⟨q,_,ha,_,_,_⟩:=cD (aY h);exact ha
theorem aW {k n:Int}{ks:List Tm}{i:Nat}(h:aE (.mk k n ks)=true)(hi:i<ks.length):aE (aI ks i)=true:=aP h (fG hi)
theorem aVe (k:Int)(ks:List Tm):0<=rdx k ks/\rdx k ks<=6:=by unfold rdx;repeat' split<;>omega
theorem aSr {k:Int}{ks:List Tm}(h:rdx k ks=1):k=5/\gN ks 0=4:=by
 unfold rdx at h;repeat' split at h
 all_goals first|(exact absurd h Ah)|(constructor<;>assumption)
theorem aNo (ks:List Tm)(i:Nat)(h:i<ks.length):gN ks i=(aI ks i).k:=by
 rw [aI,List.getD_eq_getElem?_getD,sE h];simp [gN,h]
theorem aBd {k n:Int}{ks:List Tm}(hv:aE (.mk k n ks)=true)(hr:rdx k ks≠0):vH (.mk k n ks)=vO (eF (.mk k n ks)):=by
 have hle:=aVe k ks;rw [vH,eF];by_cases h1:rdx k ks=1
 ·rw [Av h1,Av h1];obtain ⟨rfl,h4⟩:=aSr h1;have ha:aX 5=(ks.length:Int):=fH hv;have hl:ks.length=2:=by have h5:aX 5=2:=rfl;omega
  have hv0:=aW (i:=0) hv Ac;have hv1:=aW (i:=1) hv Ac;rw [aNo ks 0 Ac] at h4;generalize aI ks 0=t0 at hv0 h4;obtain ⟨k0,n0,ks0⟩:=t0;have h4:k0=4:=h4;subst h4;have ha0:aX 4=(ks0.length:Int):=fH hv0;have hl0:ks0.length=2:=by have h5:aX 4=2:=rfl;omega
  exact oY hv1 (aW (i:=1) hv0 (show 1<ks0.length by omega))
 ·rw [Aw h1,Aw h1];by_cases h2:rdx k ks=2
  ·rw [Av h2,Av h2]
  rw [Aw h2,Aw h2];by_cases h3:rdx k ks=3
  ·rw [Av h3,Av h3]
  rw [Aw h3,Aw h3];by_cases h4:rdx k ks=4
  ·rw [Av h4,Av h4]
  rw [Aw h4,Aw h4];by_cases h5:rdx k ks=5
  ·rw [Av h5,Av h5]
  rw [Aw h5,Aw h5,Av Ac]
mutual
def eA:Tm->Option Tm
 | .mk k n ks=>if rdx k ks=0 then (gO ks).map (Tm.mk k n) else some (eF (.mk k n ks))
def gO:List Tm->Option (List Tm)
 | []=>none
 | t::ts=>match eA t with|some u=>some (u::ts)|none=>(gO ts).map (t::·)
end
def fQ:Nat->Tm->Option Tm × Int
 | fuel,t=>match eA t with
  | none=>(some t,0)
  | some t'=>match fuel with
   | 0=>(none,1)
   | fuel+1=>if aE t'=true then fQ fuel t' else (none,2)
theorem aAa {k n:Int}{ks:List Tm}{j:Nat}{p:List Int}{u:Tm}(hj:j<ks.length):kR (.mk k n ks) ((j:Int)::p) u = .mk k n (ks.set j (kR ks[j] p u)):=by
 rw [kR];simp [List.getD,sE hj]
theorem out_step:(∀t:Tm,(eT t=none->eA t=none)/\∀p,eT t=some p->∃k n ks,nN t p=some (.mk k n ks)/\rdx k ks≠0/\eA t=some (kR t p (eF (.mk k n ks))))/\
  (∀ (ts : List Tm) (i : Nat), (jJ i ts = none -> gO ts = none) /\ ∀ p, jJ i ts = some p -> ∃ (j : Nat) (q : List Int) (h : j < ts.length), p = ((i + j : Nat) : Int) :: q /\ ∃ k n ks, nN ts[j] q = some (.mk k n ks) /\ rdx k ks ≠ 0 /\ gO ts = some (ts.set j (kR ts[j] q (eF (.mk k n ks))))) := by
 refine bA (λk n ks ih=>⟨λh=>?_,λp hp=>?_⟩) (λi=>⟨λh=>rfl,λp hp=>?_⟩) (λt ts h1 h2 i=>⟨λh=>?_,λp hp=>?_⟩)
 ·rw [eT] at h;rw [eA];split at h
  ·rename_i hr;rw [Av hr,(ih 0).1 h];rfl
  ·cases h
 ·rw [eT] at hp;rw [eA];split at hp
  ·rename_i hr;obtain ⟨j,q,hj,rfl,k1,n1,ks1,ha,hr1,hs⟩:=(ih 0).2 p hp;refine ⟨k1,n1,ks1,?_,hr1,?_⟩
   ·rw [Nat.zero_add,sT hj];exact ha
   ·rw [Av hr,hs,Nat.zero_add,aAa hj];rfl
  ·rename_i hr;injection hp with hp;subst hp;exact ⟨k,n,ks,rfl,hr,by rw [Aw hr];rfl⟩
 ·rw [jJ] at hp;cases hp
 ·rw [jJ] at h;rw [gO];cases ho:eT t with
  | some q=>rw [ho] at h;cases h
  | none=>
   rw [ho] at h;rw [h1.1 ho,(h2 (i+1)).1 (by simpa using h)];rfl
 ·rw [jJ] at hp;rw [gO];cases ho:eT t with
  | some q=>
   rw [ho] at hp;injection hp with hp;subst hp;obtain ⟨k1,n1,ks1,ha,hr1,hs⟩:=h1.2 q ho;exact ⟨0,q,by simp,by simp,k1,n1,ks1,ha,hr1,by rw [hs];rfl⟩
  | none=>
   rw [ho] at hp;obtain ⟨j,q,hj,rfl,k1,n1,ks1,ha,hr1,hs⟩:=(h2 (i+1)).2 p (by simpa using hp);refine ⟨j+1,q,by simp;omega,by congr 1;omega,k1,n1,ks1,by simpa using ha,hr1,?_⟩;rw [h1.1 ho,hs];simp
theorem rY:∀(p:List Int) (t u v:Tm),nN t p=some u->aE (kR t p v)=true->aE v=true
 | [],t,u,v,h,hv=>hv
 | i::is,.mk k n ks,u,v,h,hv=>by
  rw [nN] at h;split at h
  ·rename_i hi;have hj:i.toNat<ks.length:=by have h2:=hi.2;simp only [Tm.kids] at h2;omega
   rw [kR] at hv;refine rY is _ u v h (aP hv ?_);exact List.mem_iff_getElem.2 ⟨i.toNat,by simpa using hj,by simp [Tm.kids]⟩
  ·cases h
theorem tU {t:Tm}(h:¬aE t=true):vO t=none:=by rw [vO,Aw h]
theorem aCx {t:Tm}(h:aE t=true):vO t=some t:=by rw [vO,Av h]
theorem aOj {t:Tm}{p:List Int}(hv:aE t=true)(hp:eT t=some p):∃t',eA t=some t'/\pB t p=vO t':=by
 obtain ⟨k,n,ks,ha,hr,hs⟩:=(out_step.1 t).2 p hp;refine ⟨_,hs,?_⟩;have hu:=qE ha hv;rw [pB,ha];simp only [aBd hu hr];by_cases hc:aE (eF (.mk k n ks))=true
 ·rw [aCx hc]
 ·rw [tU hc,tU (λh=>hc (rY p t _ _ ha h))]
theorem nB:∀(fuel:Nat) (t:Tm),aE t=true->fQ fuel t=redI eT fuel t
 | fuel,t,hv=>by
  rw [fQ,redI];cases hp:eT t with
  | none=>rw [(out_step.1 t).1 hp]
  | some p=>
   obtain ⟨t',hs,hc⟩:=aOj hv hp;rw [hs];cases fuel with
   | zero=>rfl
   | succ fuel=>
    simp only [hc];by_cases h:aE t'=true
    ·rw [Av h,aCx h];exact nB fuel t' h
    ·rw [Aw h,tU h]
theorem own_rdp {w:Bb}{P:Nat->Prop}:(∀t xs fp,OwT w t xs fp->(∀b,b∈fp->P b)->∀g off i,P g->(∀j u,xs[j]?=some u->w.cell? ⟨g,off+i*3+j,none⟩=some u)->RdPC P w g off i t)/\
  (∀ ts xs fp, OwX w ts xs fp -> (∀ b, b ∈ fp -> P b) -> ∀ g off i, P g -> (∀ j u, xs[j]? = some u -> w.cell? ⟨g, off + i * 3 + j, none⟩ = some u) -> RdP P w (some ⟨g, off, none⟩) i ts) := by
 refine bA (λk n ks ih xs fp h hP g off i hg hc=>?_) (λxs fp h hP g off i hg hc=>RdP.nil) (λt ts h1 h2 xs fp h hP g off i hg hc=>?_)
 ·obtain ⟨A,c,rfl,hl,h⟩:=OwT.iff.1 h;refine RdPC.iff.2 ⟨hg,hc 0 _ rfl,hc 1 _ rfl,A,c,hc 2 _ rfl,hl,?_⟩;rcases h with ⟨rfl,rfl⟩|⟨g',cur,e,f,hne,rfl,hg',rfl,hx⟩
  ·exact RdP.nil
  ·refine ih _ _ hx (λb hb=>hP b (by simp [hb])) g' 0 0 (hP g' Ag) λj u hu=>?_
   have e0:0+0*3+j=j:=by omega
   rw [e0,cell_of_row w g' j cur e (0,0) hg'];rw [List.getElem?_take] at hu;split at hu
   ·simpa using hu
   ·cases hu
 ·obtain ⟨x1,x2,f1,f2,rfl,rfl,ht,hx⟩:=OwX.cons_iff.1 h;have hl:=ht.length;refine RdP.cons_iff.2 ⟨⟨g,off,rfl,h1 _ _ ht (λb hb=>hP b (by simp [hb])) g off i hg λj u hu=>hc j u ?_⟩,h2 _ _ hx (λb hb=>hP b (by simp [hb])) g off (i+1) hg λj u hu=>?_⟩
  ·rw [List.getElem?_append_left (by have:=(List.getElem?_eq_some_iff.1 hu).1;omega)];exact hu
  ·have:=hc (3+j) u (by rw [List.getElem?_append_right Ac,hl];simpa using hu);rw [show off+(i+1)*3+j=off+i*3+(3+j) from by omega];exact this
theorem Fresh.rdp {B:Nat}{w:Bb}{A:Ba}{ks:List Tm}(h:Fresh B w A ks):RdP (λb=>B<=b/\b<w.heap.size) w A 0 ks:=by
 obtain ⟨fp,h,hn,hge⟩:=h;have hlt:=h.lt;rcases h with ⟨rfl,rfl⟩|⟨g,cur,e,f,hne,rfl,hg,rfl,hx⟩
 ·exact RdP.nil
 ·refine own_rdp.2 _ _ _ hx (λb hb=>⟨hge b (by simp [hb]),hlt b (by simp [hb])⟩) g 0 0 ⟨hge g Ag,hlt g Ag⟩ λj u hu=>?_
  have e0:0+0*3+j=j:=by omega
  rw [e0,cell_of_row w g j cur e (0,0) hg];rw [List.getElem?_take] at hu;split at hu
  ·simpa using hu
  ·cases hu
def aVg (p:Nat->Prop)(w:Bb)(k n:Int)(ks:List Tm)(e:Ending)(w':Bb):Prop:=
 ∃A c,e = .returned (.agg (Ro k n A ks.length c))/\ks.length<=9223372036854775807/\RdP (λb=>p b\/w.heap.size<=b) w' A 0 ks/\Bw w w'
theorem aAs {p:Nat->Prop}(k n:Int)(ks:List Tm)(A:Ba)(c:Nat)(i:Nat)(ku nu:Int)(us:List Tm)(U:Ba)(cu:Nat)(L:List Tm)(hL:L.length=ks.length)(hi:∀(j:Nat) (t:Tm),ks[j]?=some t->L[j]?=some (if j=i then .mk ku nu us else t))(w:Bb)(hM:aG ks<=1000000)(hlu:us.length<=9223372036854775807)(hr:Rd w A 0 ks)(hru:RdP p w U 0 us)(hpw:∀b,p b->b<w.heap.size) :
  Calls prog 130 #[.agg (Ro k n A ks.length c),.int .i64 i,.agg (Ro ku nu U us.length cu)] w (aVg p w k n L):=by
 have hlen:=aJ ks;have hL':=aD hL;have hi':=aD hi;clear hi hL;go_enter func130,ntmps130;go_wp2_with fail;go_loopw [8] (λjv wr=>∃(j:Nat) (v:Value),j<=ks.length/\jv = .int .i64 j/\PartR p (w.heap.size+4) wr v (L.take j)/\Blk wr (w.heap.size+1+1+1) #[.int .i64 k,.int .i64 n,v]/\Blk wr (w.heap.size+1+1) Zr/\Blk wr (w.heap.size+1) (Ro ku nu U us.length cu)/\Blk wr w.heap.size (Ro k n A ks.length c)/\Bw w wr)
  (λjv _ => ks.length - (intOf jv).toNat)
 case atStart=>exact ⟨0,_,Nat.zero_le _,rfl,PartR.nil,aC _ _ _ Ag,(aC _ _ _ Ag).alloc _,((aC _ _ _ Ag).alloc _).alloc _,(((aC _ _ _ rfl).alloc _).alloc _).alloc _,bw4⟩
 case round=>
  obtain ⟨j,v,hj,rfl,hp,hB3,hB2,hBu,hB1,hb⟩:=hrel;have c12:=hB1.at_ (i:=2) rfl;have hz:=hB3.lt;have sr:=hb.size;by_cases hlt:j<ks.length
  ·have hlL:j<L.length:=by have:=hL'.out;omega
   have htk:=aD (tM hlL);have hte:=aD (show L[j]=if j=i then .mk ku nu us else ks[j] from by have:=hi'.out j ks[j] (sE hlt);rw [sE hlL] at this;injection this);have htl:(L.take j).length=j:=by rw [List.length_take];omega
   by_cases hji:j=i
   ·have q0:((j:Int)==(i:Int))=true:=by rw [hji];simp
    have hte2:=aD (hte.out.trans (Av hji));clear hji;obtain ⟨u0,u1,u2⟩:=hBu.three;have c32:=hB3.at_ (i:=2) rfl;have z3:=hB3.frozen 2;go_wp2_with (at_builtin;refine jU (lo:=p) (B:=w.heap.size+4) (m:=j) (k:=ku) (n:=nu) (ks:=us) (A:=U) (c:=cu) (q:=p) hp Ac (hru.below hb) (λb hb=>⟨.inl hb,by have:=hpw b hb;omega,λe=>by obtain ⟨xs,h1,_⟩:=hp;have:=(h1.lt b e).1;have:=hpw b hb;omega⟩) hlu htl Ac rfl _ _ rfl rfl (by show Value.slice (some ⟨wr.heap.size,0,none⟩) 1 1=_;simp) ?_;intro A2 c2 w2 hp2 hb2 hg2;have q3:Blk w2 (w.heap.size+1+1+1) #[.int .i64 k,.int .i64 n,v]:=hB3.below hb2 Ac;have q2:Blk w2 (w.heap.size+1+1) Zr:=hB2.below hb2 Ac;have qu:Blk w2 (w.heap.size+1) (Ro ku nu U us.length cu):=hBu.below hb2 Ac;have q1':Blk w2 w.heap.size (Ro k n A ks.length c):=hB1.below hb2 Ac;have c3:w2.cell? ⟨w.heap.size+1+1+1,2,none⟩=some v:=q3.at_ rfl;clear z3;have z3:=q3.frozen 2;have hbf:Bw w w2:=bN hb hb2);go_roundw
    case rel=>exact ⟨j+1,_,by omega,by go_num,by rw [htk.out,hte2.out];exact hp2.setCell ⟨λh=>by have h1:=hpw _ h;simp at h1;omega,by simp⟩ _,q3.set_ 2 _,q2.far Ag _,qu.far Ag _,q1'.far Ai _,hbf.setCell Ai _⟩
    case measure=>simp [intOf];omega
   ·have q0:((j:Int)==(i:Int))=false:=beq_eq_false_iff_ne.2 Ac;have hte2:=aD (hte.out.trans (Aw hji));clear hji;obtain ⟨b,off,k',n',ks',A',c',rfl,hkj,hc1,hc2,hc3,hl',hr'⟩:=(hr.below hb).at_ hlt;have hsz:=cG (gM hlt);rw [hkj] at hsz;simp only [Tm.size] at hsz;have H3:=aD hkj;clear hkj;go_wp2_with fail;have x2:=hB3.rule (i:=2) rfl;have b2:=hB1.rule (i:=2) rfl;obtain ⟨y0,y1,y2⟩:=pG hc1 hc2 hc3;refine bQ (λw'=>Bw wr w') [0,1,2,3,4,5,6] [7,8] [9,10,11] [_,_,_,_,_,_,_] [_,_] [_,_,_] (by kernel_rfl) (by kernel_rfl) rfl rfl rfl (λ_ _ d _ _ h=>by cases d<;>exact h) (eI _ _).drew ?_;refine bU (aD ?_);refine bO ?_;go_wp2_with (go_at_call 35;refine (dF _ k' n' ks' A' c' _ (mV _) Ac hr'.drew).mono ?_;rintro e w1 ⟨A1,c1,rfl,hl1,hf1,hb1⟩);have hx1:Bw wr w1:=(eI _ _).drew.trans hb1;have hpx:=hp.below hx1;refine aS hx1 (bO ?_);go_wp2_with fail
    refine aS (hx1.alloc hx1.size _) (eB ?_);have hf1:Fresh wr.heap.size w1 A1 ks':=hf1;refine jU (lo:=p) (B:=w.heap.size+4) (m:=j) (q:=λb=>wr.heap.size<=b/\b<w1.heap.size) hpx (by have:=hx1.size;omega) (Fresh.rdp hf1) (λb hb=>⟨.inr Ac,hb.2,λe=>by obtain ⟨xs,h1,_⟩:=hp;have:=(h1.lt b e).2;omega⟩) hl1 htl Ac rfl (.tmp 31) (.tmp 38) rfl rfl rfl ?_;intro A2 c2 w2 hp2 hb2 hg2;have q3:Blk w2 (w.heap.size+1+1+1) #[.int .i64 k,.int .i64 n,v]:=(hB3.below hx1 Ac).below hb2 Ac;have q2:Blk w2 (w.heap.size+1+1) Zr:=(hB2.below hx1 Ac).below hb2 Ac;have qu:Blk w2 (w.heap.size+1) (Ro ku nu U us.length cu):=(hBu.below hx1 Ac).below hb2 Ac;have q1':Blk w2 w.heap.size (Ro k n (some ⟨b,off,none⟩) ks.length c):=(hB1.below hx1 Ac).below hb2 Ac;have c3:w2.cell? ⟨w.heap.size+1+1+1,2,none⟩=some v:=q3.at_ rfl;have z3:=q3.frozen 2;have hbf:Bw w w2:=(hb.trans (hx1.mono Ac)).trans (hb2.mono Ac);clear x2 y0 y1 y2 b2;go_wp2_with fail;go_roundw
    case rel=>exact ⟨j+1,_,by omega,by go_num,by rw [htk.out,hte2.out,H3.out];exact hp2.setCell ⟨λh=>by have h1:=hpw _ h;simp at h1;omega,by simp⟩ _,q3.set_ 2 _,q2.far Ag _,qu.far Ag _,q1'.far Ai _,hbf.setCell Ai _⟩
    case measure=>simp [intOf];omega
  ·have hjl:j=L.length:=by have:=hL'.out;omega
   have hjk:j=ks.length:=by omega
   rw [hjl,List.take_length] at hp;subst hjk;obtain ⟨Ar,cr,rfl,hfr⟩:=hp.rd;obtain ⟨c0,c1,c2⟩:=hB3.three;obtain ⟨d0,d1,d2,e0,e1,e2⟩:=bZ hB2;clear hjl;have hzz:¬(p (w.heap.size+1+1)\/w.heap.size+4<=w.heap.size+1+1):=λh=>h.elim (λh=>by have:=hpw _ h;omega) (λh=>by omega)
   go_wp2_with fail;refine bodyPost_ret (v:=.agg (Ro k n Ar L.length cr)) (by simp [results,results130,go_sem,d0,d1,d2]) rfl ⟨Ar,cr,rfl,by have:=hL'.out;omega,?_,?_⟩
   ·exact (((hfr.setCell hzz _).setCell hzz _).setCell hzz _).mono (λb hb=>hb.imp id (λh=>by omega))
   ·exact bV hb
theorem aLo (g j:Nat):Addr.add ⟨g,0,none⟩ j=⟨g,j,none⟩:=by unfold Addr.add;split<;>simp_all
def ser (c:UInt8):List (List UInt8)->List UInt8
 | []=>[]
 | [b]=>b++[c]
 | b::bs=>b++44::ser c bs
def aYc (k:Int)(c:UInt8):Prop:=(k=8/\c=43)\/(k=11/\c=33)\/(k=15/\c=94)\/(k=16/\c=105)
def aXv (k:Int)(c:UInt8):Prop:=(k=3/\c=62)\/(k=13/\c=42)\/(k=5/\c=32)
def aXz (k:Int)(m:Nat)(o:List UInt8)(c:UInt8):Prop:=(k=9/\m=4/\o=[60]/\c=62)\/(k=10/\m=3/\o=[123]/\c=125)\/(k=14/\m=3/\o=[124]/\c=124)\/(k=12/\m=3/\o=[64,60]/\c=62)
inductive Tx:Nat->Tm->List UInt8->Prop
 | var (d:Nat) (n:Int) (c:UInt8) (h:0<=n/\n<=9/\(c.toNat:Int)=48+n):Tx (d+1) (.mk 1 n []) [35,c]
 | sort (d:Nat) (n:Int) (c:UInt8) (h:0<=n/\n<=3/\(c.toNat:Int)=48+n):Tx (d+1) (.mk 2 n []) [42,c]
 | nat (d:Nat):Tx (d+1) (.mk 6 0 []) [78]
 | zero (d:Nat):Tx (d+1) (.mk 7 0 []) [48]
 | pre (d:Nat) (k:Int) (c:UInt8) (t:Tm) (b:List UInt8) (h:aYc k c) (ht:Tx d t b):Tx (d+1) (.mk k 0 [t]) (c::b)
 | rnd (d:Nat) (k:Int) (c:UInt8) (t u:Tm) (x y:List UInt8) (h:aXv k c) (ht:Tx d t x) (hu:Tx d u y):Tx (d+1) (.mk k 0 [t,u]) (40::(x++c::(y++[41])))
 | lam (d:Nat) (t u:Tm) (x y:List UInt8) (ht:Tx d t x) (hu:Tx d u y):Tx (d+1) (.mk 4 0 [t,u]) (91::(x++93::y))
 | blk (d:Nat) (k:Int) (m:Nat) (o:List UInt8) (c:UInt8) (ts:List Tm) (xs:List (List UInt8)) (h:aXz k m o c) (hm:ts.length=m) (hx:xs.length=m) (ht:∀(j:Nat) (t:Tm) (x:List UInt8),ts[j]?=some t->xs[j]?=some x->Tx d t x):Tx (d+1) (.mk k 0 ts) (o++ser c xs)
theorem aH {k n:Int}{ks:List Tm}(h:aE (.mk k n ks)=true):aG ks<=400:=by
 simp only [aE,Bool.and_eq_true,decide_eq_true_eq] at h;have:=h.2;rw [Tm.size] at this;omega
def KE (W:Bb)(z:Nat)(w':Bb):Prop:=W.heap.size<=w'.heap.size/\∀b,b<W.heap.size->b≠z->w'.heap[b]?=W.heap[b]?
theorem KE.of {W w':Bb}(z:Nat)(h:Below W.heap.size W w'):KE W z w':=⟨h.size,λb hb _=>h.block b hb⟩
theorem KE.set {W w':Bb}{z:Nat}(h:KE W z w')(o:Nat)(v:Value):KE W z (w'.setCell ⟨z,o,none⟩ v):=⟨by simp;exact h.1,λb hb hz=>(sC _ ⟨z,o,none⟩ _ b hz).trans (h.2 b hb hz)⟩
theorem eD {W:Bb}{z b o:Nat}{v:Value}(hc:W.cell? ⟨b,o,none⟩=some v)(hz:b≠z):∀w',KE W z w'->w'.cell? ⟨b,o,none⟩=some v:=λw' h=>by
 have hb:=kF _ _ hc;rw [<- hc];simp only [World.cell?,h.2 b hb hz]
theorem rk3 {v w:Bb}{z b p q r:Nat}{x y u:Value}(k:Below v.heap.size v w)(e:b≠z)(h1:v.cell? ⟨b,p,none⟩=some x)(h2:v.cell? ⟨b,q,none⟩=some y)(h3:v.cell? ⟨b,r,none⟩=some u):(∀t,KE w z t->t.cell? ⟨b,p,none⟩=some x)/\(∀t,KE w z t->t.cell? ⟨b,q,none⟩=some y)/\(∀t,KE w z t->t.cell? ⟨b,r,none⟩=some u):=by
 obtain ⟨a1,a2,a3⟩:=xW k h1 h2 h3;exact ⟨eD a1 e,eD a2 e,eD a3 e⟩
theorem rkB {w:Bb}{z b:Nat}{x y u:Value}(h:Blk w b #[x,y,u])(e:b≠z):(∀t,KE w z t->t.cell? ⟨b,0,none⟩=some x)/\(∀t,KE w z t->t.cell? ⟨b,1,none⟩=some y)/\(∀t,KE w z t->t.cell? ⟨b,2,none⟩=some u):=⟨eD h.three.1 e,eD h.three.2.1 e,eD h.three.2.2 e⟩
section
variable {P:Program}{ops:Array Oper}{Q:Exit->Act->Bb->Prop}
theorem gBk {id:Nat}{a:Act}(W:Bb)(z:Nat)(B T:List Nat)(n f:Nat){lT:List Oper}
  (h : ∀ q0, Below W.heap.size W q0 -> KE W z q0 -> cV P ops (KE W z) (λa' => gC P ops Q (KE W z) B f (stp T (Array.replicate n false)) a' q0) lT a)
  (hm : P.follows .mixedOrders = true := by kernel_rfl) (hs : ops.size = n := by rfl) (hF : n = T.length + f := by rfl) (hsel : Region.noSelect ops = true := by kernel_rfl)
  (hl : pH ops T (Array.replicate n false) = some (stp T (Array.replicate n false)) := by kernel_rfl) (hpre : (B.all λj => T.all λi => pre ops ops.size j i) = true := by kernel_rfl) (hT : tL ops T = lT := by exact rfl)
  (hQ : ∀ c (a : Act) d v w, Q (.panic c) (a.put d v) w -> Q (.panic c) a w := by exact λ_ _ d _ _ h => by cases d <;> exact h) : (Code.region id ops true).wp P Q a W :=
 aEe _ B n hm hs (aBs T (KE.of z (eI _ _).drew) hF hsel hl hpre hT hQ (h W.drew (eI _ _).drew (KE.of z (eI _ _).drew)))
theorem yK {K:Act->Bb->Prop}{W q0 q1:Bb}{a:Act}{z:Nat}(b:Below W.heap.size W q0)(hb:Below q0.heap.size q0 q1)(h:Below W.heap.size W q1->q0.heap.size<=q1.heap.size->KE W z q1->K a q1):rX (KE W z) K Q .normal a q1:=
 aS (KE.of z (b.trans (hb.mono b.size))) (h (b.trans (hb.mono b.size)) hb.size (KE.of z (b.trans (hb.mono b.size))))
end
def P2 (B:Nat)(E:Nat->Prop)(w:Bb)(v1 v2:Value)(b:Nat):Prop:=B<=b/\b<w.heap.size/\v1.ownBlock≠some b/\v2.ownBlock≠some b/\¬E b
structure Rows2 (B:Nat) (E:Nat->Prop) (w:Bb) (v1 v2:Value) (l r:List Tm):Prop where
 body:∃xs ys,w.ownsRow B 32 3 v1 l.length xs/\w.ownsRow B 32 3 v2 r.length ys/\RdX (P2 B E w v1 v2) w l xs/\RdX (P2 B E w v1 v2) w r ys
 apart:∀g,v1.ownBlock=some g->v2.ownBlock≠some g
 e1:∀g,v1.ownBlock=some g->¬E g
 e2:∀g,v2.ownBlock=some g->¬E g
section
variable {B:Nat}{E E':Nat->Prop}{w w':Bb}{v1 v2:Value}{l r:List Tm}
end
def aWi (w:Bb)(u:Tm)(e:Ending)(w':Bb):Prop:=
 ∃k n ks A c,u = .mk k n ks/\e = .returned (.agg (Ro k n A ks.length c))/\ks.length<=9223372036854775807/\Rd w A 0 ks/\Bw w w'
theorem aBo (k n:Int)(ks:List Tm)(A:Ba)(c:Nat)(xs:List Int)(P:Ba)(cp:Nat)(w:Bb)(hM:aG ks<=1000000000)(hx:xs.length<=9223372036854775807)(hr:Rd w A 0 ks)(hi:RdI w P xs){u:Tm}(hu:nN (.mk k n ks) xs=some u) :
  Calls prog 134 #[.agg (Ro k n A ks.length c),.slice P xs.length cp] w (aWi w u):=by
 have hlen:=aJ ks;have hu':=aD hu;clear hu;go_enter func134,ntmps134;go_wp2_with fail;go_loopw [9] (λi wr=>∃(j:Nat) (k1 n1:Int) (ks1:List Tm) (A1:Ba) (c1:Nat),j<=xs.length/\i = .int .i64 j/\Hid (nN (.mk k n ks) (xs.take j)=some (.mk k1 n1 ks1))/\ks1.length<=9223372036854775807/\Rd w A1 0 ks1/\Blk wr w.heap.size (Ro k1 n1 A1 ks1.length c1)/\Blk wr (w.heap.size+1) Zr/\Bw w wr)
  (λi _ => xs.length - (intOf i).toNat)
 case atStart=>exact ⟨0,k,n,ks,A,c,Nat.zero_le _,rfl,aD rfl,by omega,hr,(aC _ _ _ rfl).alloc _,aC _ _ _ Ag,bw2⟩
 case round=>
  obtain ⟨j,k1,n1,ks1,A1,c1,hj,rfl,hat,hl1,hr1,hB1,hB2,hb⟩:=hrel;have lB2:=hB2.lt;by_cases hlt:j<xs.length
  ·obtain ⟨b,off,rfl,hc⟩:=hi.below hb j hlt;have hnx:=aOo hlt hat.out;have hne:nN (.mk k n ks) (xs.take (j+1))≠none:=λh=>by have:=aQk h;rw [hu'.out] at this;cases this
   generalize hxj:xs[j]=x at hc hnx;have hxj':=aD hxj;clear hxj;by_cases hin:0<=x/\x<ks1.length
   ·obtain ⟨i,rfl⟩:∃i:Nat,x=(i:Int):=⟨x.toNat,by omega⟩;have hik:i<ks1.length:=by omega
    obtain ⟨b3,off3,k3,n3,ks3,A3,c3,rfl,hkj3,hd1,hd2,hd3,hl3,hr3⟩:=hr1.at_ hik;have hst:nN (.mk k n ks) (xs.take (j+1))=some (.mk k3 n3 ks3):=by
     rw [hnx,Av (show 0<=(i:Int)/\(i:Int)<(Tm.mk k1 n1 ks1).kids.length from hin),Int.toNat_natCast,show (Tm.mk k1 n1 ks1).kids=ks1 from rfl,List.getD_eq_getElem?_getD,sE hik,Option.getD_some,hkj3]
    have hst':=aD hst;clear hkj3 hst hnx hne;have z2:=(cM hb) _ _ hd1;have z3:=(cM hb) _ _ hd2;have z4:=(cM hb) _ _ hd3;have cc2:wr.cell? ⟨w.heap.size,2,none⟩=some (.slice (some ⟨b3,off3,none⟩) ks1.length c1):=hB1.at_ rfl;have cc0:wr.cell? ⟨w.heap.size,0,none⟩=some (.int .i64 k1):=hB1.at_ rfl;have cc1:wr.cell? ⟨w.heap.size,1,none⟩=some (.int .i64 n1):=hB1.at_ rfl;obtain ⟨f0,f1,f2⟩:=bkf hB1;go_wp2_with fail;go_roundw
    case rel=>exact ⟨j+1,k3,n3,ks3,A3,c3,by omega,by go_num,hst',hl3,hr3,((hB1.set_ 0 _).set_ 1 _).set_ 2 _,((hB2.far Ag _).far Ag _).far Ag _,(bV hb)⟩
    case measure=>simp [intOf];omega
   ·exact absurd (by rw [hnx,Aw (show ¬(0<=x/\x<(Tm.mk k1 n1 ks1).kids.length) from hin)]) hne
  ·have hjl:j=xs.length:=by omega
   subst hjl;have hut:u = .mk k1 n1 ks1:=by have:=hat.out;rw [List.take_length,hu'.out] at this;exact Option.some.inj this
   subst hut;have cc0:wr.cell? ⟨w.heap.size,0,none⟩=some (.int .i64 k1):=hB1.at_ rfl;have cc1:wr.cell? ⟨w.heap.size,1,none⟩=some (.int .i64 n1):=hB1.at_ rfl;have cc2:wr.cell? ⟨w.heap.size,2,none⟩=some (.slice A1 ks1.length c1):=hB1.at_ rfl;have d0:wr.cell? ⟨w.heap.size+1,0,none⟩=some (.int .i64 0):=hB2.at_ rfl;have d1:wr.cell? ⟨w.heap.size+1,1,none⟩=some (.int .i64 0):=hB2.at_ rfl;have d2:wr.cell? ⟨w.heap.size+1,2,none⟩=some (.slice none 0 0):=hB2.at_ rfl;obtain ⟨e0,e1,e2⟩:=bkf hB2;go_wp2_with fail;refine bodyPost_ret (v:=.agg (Ro k1 n1 A1 ks1.length c1)) (by simp [results,results134,go_sem,d0,d1,d2]) rfl ⟨_,_,_,A1,c1,rfl,rfl,hl1,hr1,?_⟩;exact bV hb
def aWz:Tm:=.mk 6 0 []
def sK (s:Tm)(kind:Int):Option Tm:=
 if aE s=true then (match redI cA 200 s with|(some o,c)=>if c=0/\o.k=kind then some o else none|(none,_)=>none) else none
def aEl (a b:Tm):Bool:=aE a && aE b && (dJ 200 a b==1)
def lvS (o:Option Tm):Option Int:=match o with|none=>none|some s=>(sK s 2).map (λh=>h.n)
def aDx (o:Option Tm)(want:Tm):Bool:=match o with|some s=>aEl s want|none=>false
def fmS (o:Option Tm)(kind:Int):Option Tm:=match o with|none=>none|some s=>sK s kind
def aGm (o:Option Tm)(t:Tm):Bool:=match fmS o 3 with|some s=>aEl (aI s.ks 0) t && (sK (aI s.ks 1) 2).isSome|none=>false
end Go.Proofs.YtjlaenhcemacdaaGreat
