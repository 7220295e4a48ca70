/- Parts of the proof. No condition. -/
import Derived.Test.YtajjhldcjikkpaaGreatK4
import Derived.Deep.DeepCutAuto
open Go.Proofs.Tryz
namespace Go.Proofs.YtajjhldcjikkpaaGreat
open Go.RowKit
set_option maxHeartbeats 8000000
set_option maxRecDepth 100000
set_option linter.unusedSimpArgs false
set_option linter.unusedVariables false
theorem eK {t:Tm}(h:aE t=true):t.size≤400:=by simp only [aE,Bool.and_eq_true,decide_eq_true_eq] at h;exact h.2
theorem sF (by_:Int)(t:Tm):∀d,(eZ by_ d t).size=t.size:=by
 refine Tm.rec (motive_1:=fun t=>∀d,(eZ by_ d t).size=t.size) (motive_2:=fun ts=>∀k d i,aH (cP by_ k d i ts)=aH ts) ?_ ?_ ?_ t
 ·intro k n ks ih d;rw [eZ,Tm.size,Tm.size,ih]
 ·intro k d i;rfl
 ·intro t ts h1 h2 k d i;rw [cP,aH,aH,h1,h2]
theorem bX {q:Nat}{k n:Int}{ks:List Tm}(h:shape q (.mk k n ks)=true):∃q',q=q'+1∧aK k=(ks.length:Int)∧0≤n∧n≤dN k∧∀t,t∈ks→shape q' t=true:=by
 cases q with
 | zero=>simp [shape] at h
 | succ q=>exact ⟨q,rfl,(bA q k n ks).1 h⟩
theorem uY {ks:List Tm}(h:aK 1=(ks.length:Int)):ks=[]:=by
 have h0:aK 1=0:=rfl;rw [h0] at h;exact lEn (by omega)
theorem aIo (by_ cut:Int)(t:Tm):∀(q:Nat) (e:Int),shape q t=true→uP (shF by_ cut) e t=eZ by_ (cut+e) t:=by
 refine Tm.rec (motive_1:=fun t=>∀(q:Nat) (e:Int),shape q t=true→uP (shF by_ cut) e t=eZ by_ (cut+e) t)
  (motive_2 := fun ts => ∀ (q : Nat) (k e : Int) (i : Nat), (∀ t, t ∈ ts → shape q t = true) → gT (shF by_ cut) k e i ts = cP by_ k (cut + e) i ts) ?_ ?_ ?_ t
 ·intro k n ks ih q e h;obtain ⟨q',rfl,ha,h0,h1,hk⟩:=bX h;rw [uP,eZ];by_cases h1:k=1
  ·subst h1;have:=uY ha;subst this;rw [if_pos rfl,shF,cP];congr 1
   by_cases hc:cut≤n - e
   ·rw [if_pos hc,if_pos ⟨rfl,by omega⟩]
   ·rw [if_neg hc,if_neg (by rintro ⟨-,h⟩;omega)]
  ·rw [if_neg h1,if_neg (by rintro ⟨h,-⟩;exact h1 h),ih q' k e 0 hk]
 ·intro q k e i _;rfl
 ·intro t ts h1 h2 q k e i hk;rw [gT,cP,h1 q _ (hk t List.mem_cons_self),h2 q k e (i+1) (fun t ht=>hk t (List.mem_cons_of_mem _ ht)),show cut+(e+aR k i)=cut+e+aR k i by omega]
theorem yE (by_ cut:Int)(hb:0≤by_)(t:Tm):∀(q p:Nat) (e:Int),shape q t=true→shape p (eZ by_ (cut+e) t)=true→fM (uT by_ cut) e t=true:=by
 refine Tm.rec (motive_1:=fun t=>∀(q p:Nat) (e:Int),shape q t=true→shape p (eZ by_ (cut+e) t)=true→fM (uT by_ cut) e t=true)
  (motive_2 := fun ts => ∀ (q p : Nat) (k e : Int) (i : Nat), (∀ t, t ∈ ts → shape q t = true) → (∀ t, t ∈ cP by_ k (cut + e) i ts → shape p t = true) → eE (uT by_ cut) k e i ts = true) ?_ ?_ ?_ t
 ·intro k n ks ih q p e h hp;obtain ⟨q',rfl,ha,h0,h1,hk⟩:=bX h;rw [eZ] at hp;obtain ⟨p',rfl,hpa,hp0,hp1,hpk⟩:=bX hp;rw [fM];by_cases h1:k=1
  ·subst h1;have h20:dN 1=20:=rfl;rw [if_pos rfl,uT];by_cases hc:cut≤n - e
   ·rw [if_pos ⟨rfl,by omega⟩] at hp1;rw [if_pos hc,decide_eq_true (by omega),decide_eq_true (by omega)];rfl
   ·rw [if_neg hc]
  ·rw [if_neg h1];exact ih q' p' k e 0 hk hpk
 ·intro q p k e i _ _;rfl
 ·intro t ts h1 h2 q p k e i hk hp;rw [cP] at hp;rw [eE,h1 q p _ (hk t List.mem_cons_self) (by rw [show cut+(e+aR k i)=cut+e+aR k i by omega];exact hp _ List.mem_cons_self),h2 q p k e (i+1) (fun t ht=>hk t (List.mem_cons_of_mem _ ht)) (fun t ht=>hp t (List.mem_cons_of_mem _ ht))];rfl
theorem eV {p q:Nat}(h:p≤q)(t:Tm):shape p t=true→shape q t=true:=by
 induction p generalizing q t with
 | zero=>intro hp;simp [shape] at hp
 | succ p ih=>
  intro hp;obtain ⟨k,n,ks⟩:=t;obtain ⟨q',rfl⟩:∃q',q=q'+1:=⟨q - 1,by omega⟩;obtain ⟨a,b,c,d⟩:=(bA p k n ks).1 hp;exact (bA q' k n ks).2 ⟨a,b,c,fun t ht=>ih (by omega) t (d t ht)⟩
theorem lO {d:Int}{a:Tm}(hs:shape 30 a=true)(h:(cG d 0 a).isSome=true):(cG d 0 a).getD (.mk 0 0 [])=eZ d 0 a:=by
 unfold cG at h⊢
 split
 ·rename_i h1
  rw [if_pos h1] at h;split
  ·rw [Option.getD_some,aIo d 0 a 30 0 hs,Int.zero_add]
  ·rename_i h2;rw [if_neg h2] at h;cases h
 ·rename_i h1;rw [if_neg h1] at h;cases h
theorem yZ {d:Int}{a:Tm}(hd:0≤d)(hs:shape 30 a=true)(h:aE (eZ d 0 a)=true):(cG d 0 a).isSome=true:=by
 have hsh:shape 30 (eZ d 0 a)=true:=by simp only [aE,Bool.and_eq_true] at h;exact h.1
 have h1:fM (uT d 0) 0 a=true:=yE d 0 hd a 30 30 0 hs (by rw [Int.zero_add];exact hsh);unfold cG
 rw [if_pos h1,aIo d 0 a 30 0 hs,Int.zero_add,if_pos h];rfl
section
variable {args:List Tm}(hsa:∀t,t∈args→shape 30 t=true)
include hsa
theorem aYi (t:Tm):∀(q:Nat) (d:Int),0≤d→shape q t=true→fM (aHg args) d t=true→uP (aQp args) d t=flS args d t:=by
 refine Tm.rec (motive_1:=fun t=>∀(q:Nat) (d:Int),0≤d→shape q t=true→fM (aHg args) d t=true→uP (aQp args) d t=flS args d t)
  (motive_2 := fun ts => ∀ (q : Nat) (k d : Int) (i : Nat), 0 ≤ d → (∀ t, t ∈ ts → shape q t = true) → eE (aHg args) k d i ts = true → gT (aQp args) k d i ts = aMe args k d i ts) ?_ ?_ ?_ t
 ·intro k n ks ih q d hd h hok;obtain ⟨q',rfl,ha,h0,h1,hk⟩:=bX h;rw [fM] at hok;rw [uP,flS];by_cases h1:k=1
  ·subst h1;have:=uY ha;subst this;rw [if_pos rfl] at hok⊢;unfold aHg at hok
   unfold aQp
   by_cases h2:n - d<0
   ·rw [if_pos h2,if_neg (by rintro ⟨-,h⟩;omega),aMe]
   ·rw [if_neg h2] at hok⊢;rw [if_pos (show (1:Int)=1∧d≤n from ⟨rfl,by omega⟩)];by_cases h3:(args.length:Int)≤n - d
    ·rw [if_pos h3,if_neg (show ¬n<d+(args.length:Int) by omega)]
    ·rw [if_neg h3] at hok⊢;rw [if_pos (show n<d+(args.length:Int) by omega)];have hlt:(n - d).toNat<args.length:=by omega
     have hsx:shape 30 (args.getD (n - d).toNat default)=true:=by
      rw [List.getD_eq_getElem?_getD,oE hlt,Option.getD_some];exact hsa _ (iS hlt)
     exact lO hsx hok
  ·rw [if_neg h1] at hok⊢;rw [if_neg (by rintro ⟨h,-⟩;exact h1 h),ih q' k d 0 hd hk hok]
 ·intro q k d i _ _ _;rfl
 ·intro t ts h1 h2 q k d i hd hk hok;rw [eE,Bool.and_eq_true] at hok;rw [gT,aMe,h1 q _ (by have:=dH k i;omega) (hk t List.mem_cons_self) hok.1,h2 q k d (i+1) hd (fun t ht=>hk t (List.mem_cons_of_mem _ ht)) hok.2]
end
mutual
def dC (u:Tm):Int→Int→Tm→Tm
 | x,d,.mk k n ks=>if k=1∧n=x then eZ d 0 u else .mk k (if k=1∧x<n then n - 1 else n) (cQ u k x d 0 ks)
def cQ (u:Tm):Int→Int→Int→Nat→List Tm→List Tm|_,_,_,_,[]=>[]|k,x,d,i,t::ts=>dC u (x+aR k i) (d+aR k i) t::cQ u k x d (i+1) ts
end
theorem uB (u:Tm)(k x d:Int)(us:List Tm):∀(ts:List Tm) (i:Nat),cQ u k x d i (ts++us)=cQ u k x d i ts++cQ u k x d (i+ts.length) us
 | [],i=>by simp [cQ]
 | t::ts,i=>by rw [List.cons_append,cQ,cQ,uB u k x d us ts (i+1),List.cons_append,List.length_cons,show i+1+ts.length=i+(ts.length+1) from by omega]
theorem dK (u:Tm)(k x d:Int):∀(ts:List Tm) (i:Nat),(cQ u k x d i ts).length=ts.length
 | [],i=>by simp [cQ]
 | t::ts,i=>by rw [cQ,List.length_cons,List.length_cons,dK u k x d ts (i+1)]
theorem zS (u:Tm)(k x d:Int){ks:List Tm}{j:Nat}(hj:j<ks.length):cQ u k x d 0 (ks.take (j+1))=cQ u k x d 0 (ks.take j)++[dC u (x+aR k j) (d+aR k j) ks[j]]:=by
 rw [uQ hj,uB,List.length_take,Nat.min_eq_left (Nat.le_of_lt hj),Nat.zero_add,cQ,cQ]
theorem vX (u:Tm){m:Nat}(hm:u.size≤m)(h1:1≤m)(t:Tm):∀x d,(dC u x d t).size≤t.size*m:=by
 refine (bO (p:=fun t=>∀x d,(dC u x d t).size≤t.size*m) (q:=fun ts=>∀k x d i,aH (cQ u k x d i ts)≤aH ts*m) ?_ ?_ ?_).1 t
 ·intro k n ks ih x d;rw [dC];split
  ·rw [sF,Tm.size,Nat.add_mul];omega
  ·have:=ih k x d 0;rw [Tm.size,Tm.size,Nat.add_mul];omega
 ·intro k x d i;simp [cQ,aH]
 ·intro t ts h1 h2 k x d i;have a:=h1 (x+aR k i) (d+aR k i);have b:=h2 k x d (i+1);rw [cQ,aH,aH,Nat.add_mul];omega
theorem xG (ku nu:Int)(us:List Tm)(hus:shape 30 (.mk ku nu us)=true)(huz:aH us≤1000000)(N:Nat):∀(k n:Int) (ks:List Tm) (A:Option Addr) (c:Nat) (U:Option Addr) (cu:Nat) (x d:Int) (q:Nat) (w:World),aH ks<N→aH ks≤1000000→shape q (.mk k n ks)=true→0≤x→x+q≤900→0≤d→d+q≤900→Rd w A 0 ks→Rd w U 0 us→
  ∀(k2 n2:Int) (ks2:List Tm),dC (.mk ku nu us) x d (.mk k n ks) = .mk k2 n2 ks2→
  Calls prog 127 #[.agg (Ro k n A ks.length c),.int .i64 x,.agg (Ro ku nu U us.length cu),.int .i64 d] w (uO w k2 n2 ks2):=by
 induction N with
 | zero=>intro k n ks A c U cu x d q w hN;exact absurd hN (Nat.not_lt_zero _)
 | succ N ih=>
 intro k n ks A c U cu x d q w hN hM hsh hx0 hxq hd0 hdq hr hru kr nr ksr hfl;have hlen:=aQ ks;obtain ⟨q,rfl⟩:∃q',q=q'+1:=by cases q with|zero=>simp [shape] at hsh|succ q=>exact ⟨q,rfl⟩
 obtain ⟨ha,hm1,hm2,hkids⟩:=(bA q k n ks).1 hsh;rw [dC] at hfl;have hus':=aD hus;by_cases hk:k=1
 ·subst hk;have hks:ks=[]:=by
   have h0:aK 1=0:=rfl;rw [h0] at ha;exact lEn (by omega)
  subst hks;have h20:dN 1=20:=rfl;rw [h20] at hm2;clear hkids hsh ha h20;by_cases hnx:n=x
  ·rw [if_pos ⟨rfl,hnx⟩,eZ] at hfl;injection hfl with h1 h2 h3;subst h1 h2 h3;obtain ⟨n2,hn2⟩:∃n2,(if ku=1∧0≤nu then nu+d else nu)=n2:=⟨_,rfl⟩;have hn2':=aD hn2;rw [hn2];clear hn2;subst hnx;go_enter func127,ntmps127;go_wp2_with (go_at_call 142;refine (kO _ ku nu us U cu d 0 30 _ (qG _) (by omega) hus'.out (by omega) (by omega) (by omega) (((hru.alloc _).alloc _).alloc _)).mono ?_;rw [hn2'.out];rintro e w1 ⟨A1,c1,rfl,hl1,hf1,hb1⟩;have hT:=pW hb1;obtain ⟨d0,d1,d2,e0,e1,e2⟩:=bW hT;replace hf1:Fresh (w.heap.size+3) w1 A1 (cP d ku 0 0 us):=hf1.mono (by simp);replace hb1:Bw w w1:=bw3.trans (hb1.mono (by simp;omega)))
   refine bodyPost_ret (v:=.agg #[.int .i64 ku,.int .i64 n2,.slice A1 (cP d ku 0 0 us).length c1]) (by simp [results,results127,go_sem,d0,d1,d2]) rfl ⟨A1,c1,by simp,hl1,?_,?_⟩
   ·exact (mU hf1).mono (by omega)
   ·exact bT hb1
  ·rw [if_neg (by rintro ⟨-,h⟩;exact hnx h)] at hfl;have q0:(n==x)=false:=by simpa using hnx
   by_cases hxn:x<n
   ·rw [if_pos ⟨rfl,hxn⟩] at hfl;injection hfl with h1 h2 h3;subst h1 h2 h3;have q2:decide (x<n)=true:=by simpa using hxn
    clear hnx;go_enter func127,ntmps127;go_wp2_with fail
    go_loopw [10] (fun i wr=>i = .int .i64 0∧Blk wr (w.heap.size+1+1+1) (Ro 1 (n - 1) none 0 0)∧Blk wr (w.heap.size+1+1) Zr∧Blk wr w.heap.size (Ro 1 n A 0 c)∧Bw w wr)
     (fun _ _=>0)
    case atStart=>exact ⟨rfl,aC _ _ _ (by simp),(aC _ _ _ (by simp)).alloc _,(((aC _ _ _ rfl).alloc _).alloc _).alloc _,bw4⟩
    case round=>
     obtain ⟨rfl,hB3,hB2,hB1,hb⟩:=hrel;have b2:=hB1.at_ (i:=2) rfl;obtain ⟨c0,c1,c2⟩:=hB3.three;obtain ⟨d0,d1,d2,e0,e1,e2⟩:=bW hB2;go_wp2_with fail
     refine bodyPost_ret (v:=.agg (Ro 1 (n - 1) none 0 0)) (by simp [results,results127,go_sem,d0,d1,d2]) rfl ⟨none,0,by simp [cQ],by simp [cQ],?_,?_⟩
     ·simpa [cQ] using (Fresh.nil:Fresh w.heap.size _ none [])
     ·exact bT hb
   ·rw [if_neg (by rintro ⟨-,h⟩;exact hxn h)] at hfl;injection hfl with h1 h2 h3;subst h1 h2 h3;have q2:decide (x<n)=false:=by simpa using hxn
    clear hnx;go_enter func127,ntmps127;go_wp2_with fail
    go_loopw [10] (fun i wr=>i = .int .i64 0∧Blk wr (w.heap.size+1+1+1) (Ro 1 (n) none 0 0)∧Blk wr (w.heap.size+1+1) Zr∧Blk wr w.heap.size (Ro 1 n A 0 c)∧Bw w wr)
     (fun _ _=>0)
    case atStart=>exact ⟨rfl,aC _ _ _ (by simp),(aC _ _ _ (by simp)).alloc _,(((aC _ _ _ rfl).alloc _).alloc _).alloc _,bw4⟩
    case round=>
     obtain ⟨rfl,hB3,hB2,hB1,hb⟩:=hrel;have b2:=hB1.at_ (i:=2) rfl;obtain ⟨c0,c1,c2⟩:=hB3.three;obtain ⟨d0,d1,d2,e0,e1,e2⟩:=bW hB2;go_wp2_with fail
     refine bodyPost_ret (v:=.agg (Ro 1 (n) none 0 0)) (by simp [results,results127,go_sem,d0,d1,d2]) rfl ⟨none,0,by simp [cQ],by simp [cQ],?_,?_⟩
     ·simpa [cQ] using (Fresh.nil:Fresh w.heap.size _ none [])
     ·exact bT hb
 ·have hn:¬(k=1∧n=x):=by rintro ⟨h,-⟩;exact hk h
  rw [if_neg hn,if_neg (by rintro ⟨h,-⟩;exact hk h)] at hfl;injection hfl with h1 h2 h3;subst h1 h2 h3;have hkids':=aD hkids;have hm2':=aD hm2;clear hkids ha hsh hm2;have q1:(k==1)=false:=by simpa using hk
  clear hn hk;go_enter func127,ntmps127;go_wp2_with fail
  go_loopw [10,11] (fun i _ wr=>∃(j:Nat) (v:Value),j≤ks.length∧i = .int .i64 j∧Part (w.heap.size+4) wr v (cQ (.mk ku nu us) k x d 0 (ks.take j))∧Blk wr (w.heap.size+1+1+1) #[.int .i64 k,.int .i64 (n),v]∧Blk wr (w.heap.size+1+1) Zr∧Blk wr (w.heap.size+1) (Ro ku nu U us.length cu)∧Blk wr w.heap.size (Ro k n A ks.length c)∧Bw w wr)
   (fun i _ _=>ks.length - (intOf i).toNat)
  case atStart=>exact ⟨0,_,Nat.zero_le _,rfl,Part.nil,aC _ _ _ (by simp),(aC _ _ _ (by simp)).alloc _,((aC _ _ _ (by simp)).alloc _).alloc _,(((aC _ _ _ rfl).alloc _).alloc _).alloc _,bw4⟩
  case round=>
   obtain ⟨j,v,hj,rfl,hp,hB3,hB2,hBu,hB1,hb⟩:=hrel;have c12:=hB1.at_ (i:=2) rfl;have c10:=hB1.at_ (i:=0) rfl;by_cases hlt:j<ks.length
   ·obtain ⟨b,off,k',n',ks',A',c',rfl,hkj,hc1,hc2,hc3,hl',hr'⟩:=(hr.below hb).at_ hlt;have hsz:=cM (iS hlt);have hsk:=hkids'.out _ (iS hlt);rw [hkj] at hsz hsk;simp only [Tm.size] at hsz
    have H3:=aD hkj;have H4:=aD hsk;clear hkj hsk;have hz:=hB3.lt;obtain ⟨k2,n2,ks2,hct⟩:∃k2 n2 ks2,dC (.mk ku nu us) (x+aR k j) (d+aR k j) (.mk k' n' ks') = .mk k2 n2 ks2:=jF _;have hct':=aD hct;clear hct;have hun:=dH k j;go_wp2_with (go_at_call 144;refine (qN _ _ _).mono ?_;rintro e w9 ⟨rfl,rfl⟩)
    have x2:=hB3.rule (i:=2) rfl;have a0:=hBu.rule (i:=0) rfl;have a1:=hBu.rule (i:=1) rfl;have a2:=hBu.rule (i:=2) rfl;have b2:=hB1.rule (i:=2) rfl;obtain ⟨y0,y1,y2⟩:=rN hc1 hc2 hc3;refine bK (fun w'=>Bw wr w') [0,1,2,3,4,5,6,7,8,9,10,11,12,13] [14,15] [16,17,18] [_,_,_,_,_,_,_,_,_,_,_,_,_,_] [_,_] [_,_,_] (by kernel_rfl) (by kernel_rfl) rfl rfl rfl (fun _ _ d _ _ h=>by cases d<;>exact h) (fG _ _).drew ?_;refine bV (aD ?_);refine bF ?_;go_wp2_with (go_at_call 127;refine (ih k' n' ks' A' c' U cu (x+aR k j) (d+aR k j) q _ (by omega) (by omega) H4.out (by omega) (by omega) (by omega) (by omega) hr'.drew (hru.below hb).drew k2 n2 ks2 hct'.out).mono ?_;rintro e w1 ⟨A1,c1,rfl,hl1,hf1,hb1⟩)
    have hx1:Bw wr w1:=(fG _ _).drew.trans hb1;refine aP hx1 (bF ?_);go_wp2_with fail
    refine aP (hx1.alloc hx1.size _) (cZ ?_);refine cL (B:=w.heap.size+4) (m:=j) hp.drew hb1 (by simp;omega) hf1 hl1 (by rw [dK];simp;omega) (by omega) rfl (.tmp 54) (.tmp 68) rfl rfl rfl ?_;intro A2 c2 w2 hp2 hb2 hg2;have q3:Blk w2 (w.heap.size+1+1+1) #[.int .i64 k,.int .i64 (n),v]:=(hB3.below hx1 (by omega)).below hb2 (by omega);have q2:Blk w2 (w.heap.size+1+1) Zr:=(hB2.below hx1 (by omega)).below hb2 (by omega);have qu:Blk w2 (w.heap.size+1) (Ro ku nu U us.length cu):=(hBu.below hx1 (by omega)).below hb2 (by omega);have q1':Blk w2 w.heap.size (Ro k n (some ⟨b,off,none⟩) ks.length c):=(hB1.below hx1 (by omega)).below hb2 (by omega);have c3:w2.cell? ⟨w.heap.size+1+1+1,2,none⟩=some v:=q3.at_ rfl;have z3:=q3.frozen 2;have hbf:Bw w w2:=(hb.trans (hx1.mono (by omega))).trans (hb2.mono (by omega));clear x2 y0 y1 y2 b2 a0 a1 a2;go_wp2_with fail
    go_roundw
    case rel=>exact ⟨j+1,_,by omega,by go_num,by rw [zS _ k x d hlt,H3.out,hct'.out];exact hp2.setCell (by simp) _,q3.set_ 2 _,q2.far (by simp) _,qu.far (by simp) _,q1'.far (by simp;omega) _,hbf.setCell (by simp;omega) _⟩
    case measure=>simp [intOf];omega
   ·have hjl:j=ks.length:=by omega
    subst hjl;rw [List.take_length] at hp;obtain ⟨Ar,cr,rfl,hfr⟩:=hp.fresh;obtain ⟨c0,c1,c2⟩:=hB3.three;obtain ⟨d0,d1,d2,e0,e1,e2⟩:=bW hB2;go_wp2_with fail
    refine bodyPost_ret (v:=.agg #[.int .i64 k,.int .i64 (n),.slice Ar (cQ (.mk ku nu us) k x d 0 ks).length cr]) (by simp [results,results127,go_sem,d0,d1,d2]) rfl ⟨Ar,cr,rfl,by rw [dK];omega,?_,?_⟩
    ·exact (mU hfr).mono (by omega)
    ·exact bT hb
def sbF (x:Int)(u:Tm)(n d:Int):Tm:=if n - d=x then (cG d 0 u).getD (.mk 0 0 []) else if x<n - d then .mk 1 (n - 1) [] else .mk 1 n []
def pU (x:Int)(u:Tm)(n d:Int):Bool:=if n - d=x then (cG d 0 u).isSome else true
theorem tQ {x k' n':Int}{ks':List Tm}{A':Option Addr}{c' bi ba g:Nat}{W0:World}(hx:0≤x∧x≤20)(hsh:shape 30 (.mk k' n' ks')=true)(hsz:aH ks'≤1000000000)(hI:Blk W0 bi #[.int .i64 x])(hA:Blk W0 ba (Ro k' n' A' ks'.length c'))(hR:RdP (·≠g) W0 A' 0 ks')(hig:bi≠g)(hag:ba≠g) :
  aMy 133 [.pointer (some ⟨bi,0,none⟩),.pointer (some ⟨ba,0,none⟩),.pointer (some ⟨g,0,none⟩)] W0 g (sbF x (.mk k' n' ks')) (pU x (.mk k' n' ks')):=by
 intro n d w b hn0 hn1 hd0 qE hW hg;have hIw:=hI.grown hW (by simpa using hig);have hAw:=hA.grown hW (by simpa using hag);have hRw:=hR.grown hW (fun b hb e=>hb (by injection e));have i0:=hIw.at_ (i:=0) rfl;have x0:=hAw.at_ (i:=0) rfl;have x1:=hAw.at_ (i:=1) rfl;have x3:=hAw.at_ (i:=2) rfl;have x2:=hg.at_ (i:=0) rfl;have z2:=hg.frozen 0;have li:=hIw.lt;have l0:=hAw.lt;have l2:=hg.lt;have hrd:=hRw.rd;have H4:=aD hsh;clear hsh;by_cases h1:n - d=x
 ·have hz:sbF x (.mk k' n' ks') n d=(cG d 0 (.mk k' n' ks')).getD (.mk 0 0 []):=by rw [sbF,if_pos h1]
  have hzo:pU x (.mk k' n' ks') n d=(cG d 0 (.mk k' n' ks')).isSome:=by rw [pU,if_pos h1]
  rw [hz,hzo];have q1:((n - d)==x)=true:=by simpa using h1
  have H:=aD h1;clear h1 hz hzo;cases hsi:cG d 0 (.mk k' n' ks') with
  | none=>
   rw [show (none:Option Tm).getD (.mk 0 0 []) = .mk 0 0 [] from rfl,show (none:Option Tm).isSome=false from rfl,Bool.and_false];cases b
   all_goals
    go_enter func133,ntmps133;go_wp2_with (go_at_call 102;refine (iV k' n' ks' A' c' d 0 _ (by omega) (by omega) (by omega) H4.out (hrd.alloc _)).mono ?_;rw [hsi];intro e w1 hp;obtain ⟨he,hb1⟩:=gX hp;subst he;clear hp;have hT:=nQ hb1;obtain ⟨d0,d1,d2,e0,e1,e2⟩:=bW hT;have hG1:=(hg.alloc (.cells Zr 25)).keep hb1;have g1:=hG1.at_ (i:=0) rfl;have gz:=hG1.frozen 0;have lT:=hT.lt;have lG:=hG1.lt;replace hb1:w.grownBy w1 (some g):=bI (aM (iM _ _) _) hb1)
    have y:=fun (v:Value) (o:Obj)=>((((((hT.far (p:=⟨g,0,none⟩) (by simp;omega) v).set_ 0 (.int .i64 0)).set_ 1 (.int .i64 0)).set_ 2 (.slice none 0 0)).alloc o:Blk _ _ Zr)).three
    refine bodyPost_ret (v:=.agg Zr) (by simp [results,results133,go_sem,y]) rfl ⟨_,_,rfl,?_,?_,?_,?_⟩
    ·simp [Tm.ks]
    ·exact Fresh.nil
    ·exact ((((hG1.set_ 0 (.bool false)).far (by simp;omega) _).far (by simp;omega) _).far (by simp;omega) _).alloc _
    ·exact aM (aG (aG (aG (aG hb1 (.inl rfl) _) (.inr (by simp)) _) (.inr (by simp)) _) (.inr (by simp)) _) _
  | some t=>
   obtain ⟨k2,n2,ks2⟩:=t;rw [show (some (Tm.mk k2 n2 ks2)).getD (.mk 0 0 []) = .mk k2 n2 ks2 from rfl,show (some (Tm.mk k2 n2 ks2)).isSome=true from rfl,Bool.and_true];cases b
   ·go_enter func133,ntmps133;go_wp2_with (go_at_call 102;refine (iV k' n' ks' A' c' d 0 _ (by omega) (by omega) (by omega) H4.out (hrd.alloc _)).mono ?_;rw [hsi];intro e w1 hp;obtain ⟨A1,c1,rfl,hl1,hf1,hb1⟩:=cS hp;clear hp;have hT:=nQ hb1;obtain ⟨d0,d1,d2,e0,e1,e2⟩:=bW hT;have hG1:=(hg.alloc (.cells Zr 25)).keep hb1;have g1:=hG1.at_ (i:=0) rfl;have gz:=hG1.frozen 0;have lT:=hT.lt;have lG:=hG1.lt;replace hf1:Fresh (w.heap.size+1) w1 A1 ks2:=hf1.mono (by simp);replace hb1:w.grownBy w1 (some g):=bI (aM (iM _ _) _) hb1)
    have y:=fun (v:Value) (o:Obj)=>((((((hT.far (p:=⟨g,0,none⟩) (by simp;omega) v).set_ 0 (.int .i64 k2)).set_ 1 (.int .i64 n2)).set_ 2 (.slice A1 ks2.length c1)).alloc o:Blk _ _ (Ro k2 n2 A1 ks2.length c1))).three
    refine bodyPost_ret (v:=.agg (Ro k2 n2 A1 ks2.length c1)) (by simp [results,results133,go_sem,y]) rfl ⟨_,_,rfl,?_,?_,?_,?_⟩
    ·exact hl1
    ·exact (((mU hf1).setCell (by simp) _).alloc _).mono (by simp)
    ·exact ((((hG1.set_ 0 (.bool false)).far (by simp;omega) _).far (by simp;omega) _).far (by simp;omega) _).alloc _
    ·exact aM (aG (aG (aG (aG hb1 (.inl rfl) _) (.inr (by simp)) _) (.inr (by simp)) _) (.inr (by simp)) _) _
   ·go_enter func133,ntmps133;go_wp2_with (go_at_call 102;refine (iV k' n' ks' A' c' d 0 _ (by omega) (by omega) (by omega) H4.out (hrd.alloc _)).mono ?_;rw [hsi];intro e w1 hp;obtain ⟨A1,c1,rfl,hl1,hf1,hb1⟩:=cS hp;clear hp;have hT:=nQ hb1;obtain ⟨d0,d1,d2,e0,e1,e2⟩:=bW hT;have hG1:=(hg.alloc (.cells Zr 25)).keep hb1;have g1:=hG1.at_ (i:=0) rfl;have gz:=hG1.frozen 0;have lT:=hT.lt;have lG:=hG1.lt;replace hf1:Fresh (w.heap.size+1) w1 A1 ks2:=hf1.mono (by simp);replace hb1:w.grownBy w1 (some g):=bI (aM (iM _ _) _) hb1)
    have y:=fun (v:Value) (o:Obj)=>((((((hT.far (p:=⟨g,0,none⟩) (by simp;omega) v).set_ 0 (.int .i64 k2)).set_ 1 (.int .i64 n2)).set_ 2 (.slice A1 ks2.length c1)).alloc o:Blk _ _ (Ro k2 n2 A1 ks2.length c1))).three
    refine bodyPost_ret (v:=.agg (Ro k2 n2 A1 ks2.length c1)) (by simp [results,results133,go_sem,y]) rfl ⟨_,_,rfl,?_,?_,?_,?_⟩
    ·exact hl1
    ·exact (((mU hf1).setCell (by simp) _).alloc _).mono (by simp)
    ·exact ((((hG1.set_ 0 (.bool true)).far (by simp;omega) _).far (by simp;omega) _).far (by simp;omega) _).alloc _
    ·exact aM (aG (aG (aG (aG hb1 (.inl rfl) _) (.inr (by simp)) _) (.inr (by simp)) _) (.inr (by simp)) _) _
 ·have q1:((n - d)==x)=false:=by simpa using h1
  have hzo:pU x (.mk k' n' ks') n d=true:=by rw [pU,if_neg h1]
  by_cases h2:x<n - d
  ·have hz:sbF x (.mk k' n' ks') n d = .mk 1 (n - 1) []:=by rw [sbF,if_neg h1,if_pos h2]
   rw [hz,hzo,Bool.and_true];have q2:decide (x<n - d)=true:=decide_eq_true h2;have H:=aD h1;clear h1 h2 hz hzo;go_enter func133,ntmps133;go_wp2_with (go_at_call 131;refine (eH _ _).mono ?_;rintro e w1 ⟨rfl,hv1⟩;have hT:=nQ hv1;obtain ⟨d0,d1,d2,e0,e1,e2⟩:=bW hT;have hG1:=(hg.alloc (.cells Zr 25)).keep hv1;replace hv1:w.grownBy w1 (some g):=bI (aM (iM _ _) _) hv1)
   refine bodyPost_ret (v:=.agg (Ro 1 (n - 1) none 0 0)) (by simp [results,results133,go_sem,d0,d1,d2]) rfl ⟨none,0,rfl,by simp [Tm.ks],Fresh.nil,?_,?_⟩
   ·exact ((hG1.far (by simp;omega) _).far (by simp;omega) _).far (by simp;omega) _
   ·exact aG (aG (aG hv1 (.inr (by simp)) _) (.inr (by simp)) _) (.inr (by simp)) _
  ·have hz:sbF x (.mk k' n' ks') n d = .mk 1 n []:=by rw [sbF,if_neg h1,if_neg h2]
   rw [hz,hzo,Bool.and_true];have q2:decide (x<n - d)=false:=decide_eq_false h2;have H:=aD h1;clear h1 h2 hz hzo;go_enter func133,ntmps133;go_wp2_with (go_at_call 131;refine (eH _ _).mono ?_;rintro e w1 ⟨rfl,hv1⟩;have hT:=nQ hv1;obtain ⟨d0,d1,d2,e0,e1,e2⟩:=bW hT;have hG1:=(hg.alloc (.cells Zr 25)).keep hv1;replace hv1:w.grownBy w1 (some g):=bI (aM (iM _ _) _) hv1)
   refine bodyPost_ret (v:=.agg (Ro 1 (n) none 0 0)) (by simp [results,results133,go_sem,d0,d1,d2]) rfl ⟨none,0,rfl,by simp [Tm.ks],Fresh.nil,?_,?_⟩
   ·exact ((hG1.far (by simp;omega) _).far (by simp;omega) _).far (by simp;omega) _
   ·exact aG (aG (aG hv1 (.inr (by simp)) _) (.inr (by simp)) _) (.inr (by simp)) _
def eI (x:Int)(u:Tm)(t:Tm):Option Tm:=if fM (pU x u) 0 t=true then (if aE (uP (sbF x u) 0 t)=true then some (uP (sbF x u) 0 t) else none) else none
theorem aOe (x:Int)(u:Tm)(n d:Int):(sbF x u n d).size≤400:=by
 unfold sbF
 split
 ·unfold cG
  split
  ·split
   ·rename_i h;exact eK h
   ·simp [Tm.size,aH]
  ·simp [Tm.size,aH]
 ·split<;>simp [Tm.size,aH]
theorem eQ (k n:Int)(ks:List Tm)(A:Option Addr)(c:Nat)(x ku nu:Int)(us:List Tm)(B:Option Addr)(cb:Nat)(w:World)(hx:0≤x∧x≤20)(hsa:shape 30 (.mk ku nu us)=true)(hza:aH us≤1000000000)(hRa:Rd w B 0 us)(hM:aH ks≤1000)(hs:shape 30 (.mk k n ks)=true)(hr:Rd w A 0 ks) :
  Calls prog 110 #[(.agg (Ro k n A ks.length c)),.int .i64 x,.agg (Ro ku nu B us.length cb)] w (uK w (eI x (.mk ku nu us) (.mk k n ks))):=by
 have hrp:RdP (·≠w.heap.size+4) w A 0 ks:=hr.rdp.mono (fun b hb=>by have hb:b<w.heap.size:=hb;show b≠_;omega);have hRp:RdP (·≠w.heap.size+4) w B 0 us:=hRa.rdp.mono (fun b hb=>by have hb:b<w.heap.size:=hb;show b≠_;omega);obtain ⟨k2,n2,ks2,hct⟩:=jF (uP (sbF x (.mk ku nu us)) 0 (.mk k n ks));have hsz2:aH ks2≤1000000001:=by
  have:=(aFc (by omega) (aOe x (.mk ku nu us))).1 (.mk k n ks) 0;rw [hct,Tm.size,Tm.size] at this;omega
 cases hok:fM (pU x (.mk ku nu us)) 0 (.mk k n ks) with
 | false=>
  have hz:eI x (.mk ku nu us) (.mk k n ks)=none:=by rw [eI,hok];rfl
  rw [hz];clear hz;go_enter func110,ntmps110;go_wp2_with (go_at_call 129;refine (hE (tQ (x:=x) (k':=ku) (n':=nu) (ks':=us) (A':=B) (c':=cb) (bi:=w.heap.size+1) (ba:=w.heap.size+2) (g:=w.heap.size+4) hx hsa hza ((((aC _ 3 _ (by simp)).alloc _).alloc _).alloc _) (((aC _ 25 _ (by simp)).alloc _).alloc _) (((((hRp.alloc _).alloc _).alloc _).alloc _).alloc _) (by omega) (by omega)) (fO func133 (by kernel_rfl) (by kernel_rfl)) (aH ks+1) k n ks A c 0 30 _ true (by omega) hs (by omega) (by omega) (by omega) (iM _ _) (aC _ 4 _ (by simp)) (((((hrp.alloc _).alloc _).alloc _).alloc _).alloc _)).mono ?_;rw [hct,hok];intro e w6 hpost;obtain ⟨A6,c6,rfl,hl6,hf6,hG6,hg6⟩:=nL hpost;clear hpost;have hT6:Blk w6 (w.heap.size+1+1+1) Zr:=((aC _ 25 _ (by simp)).alloc _).grown hg6 (by simp);have f0:=hG6.at_ (i:=0) rfl;obtain ⟨d0,d1,d2,e0,e1,e2,lT⟩:=dA hT6;have lG:=hG6.lt;have hb6:Bw w w6:=bw5.grown hg6 (by simp;omega) (fun k e=>by cases e;omega);replace hf6:=hf6.mono (B':=w.heap.size+5) (by simp))
  have y:=fun o=>(((((hT6.set_ 0 (.int .i64 0)).set_ 1 (.int .i64 0)).set_ 2 (.slice none 0 0)).alloc o:Blk _ _ Zr)).three
  refine bodyPost_ret (v:=.tuple #[fT,.bool false]) (by simp [results,results110,go_sem,y,fT]) rfl ⟨rfl,?_⟩;exact (bT hb6).alloc (by simp [World.setCell];omega) _
 | true=>
  cases hv:aE (.mk k2 n2 ks2) with
  | false=>
   have hz:eI x (.mk ku nu us) (.mk k n ks)=none:=by rw [eI,hok,if_pos rfl,hct,hv];rfl
   rw [hz];clear hz;go_enter func110,ntmps110;go_wp2_with (first|(go_at_call 129;refine (hE (tQ (x:=x) (k':=ku) (n':=nu) (ks':=us) (A':=B) (c':=cb) (bi:=w.heap.size+1) (ba:=w.heap.size+2) (g:=w.heap.size+4) hx hsa hza ((((aC _ 3 _ (by simp)).alloc _).alloc _).alloc _) (((aC _ 25 _ (by simp)).alloc _).alloc _) (((((hRp.alloc _).alloc _).alloc _).alloc _).alloc _) (by omega) (by omega)) (fO func133 (by kernel_rfl) (by kernel_rfl)) (aH ks+1) k n ks A c 0 30 _ true (by omega) hs (by omega) (by omega) (by omega) (iM _ _) (aC _ 4 _ (by simp)) (((((hrp.alloc _).alloc _).alloc _).alloc _).alloc _)).mono ?_;rw [hct,hok];intro e w6 hpost;obtain ⟨A6,c6,rfl,hl6,hf6,hG6,hg6⟩:=nL hpost;clear hpost;have hT6:Blk w6 (w.heap.size+1+1+1) Zr:=((aC _ 25 _ (by simp)).alloc _).grown hg6 (by simp);have f0:=hG6.at_ (i:=0) rfl;obtain ⟨d0,d1,d2,e0,e1,e2,lT⟩:=dA hT6;have lG:=hG6.lt;have hb6:Bw w w6:=bw5.grown hg6 (by simp;omega) (fun k e=>by cases e;omega);replace hf6:=hf6.mono (B':=w.heap.size+5) (by simp))|(go_at_call 86;refine (wM k2 n2 ks2 A6 c6 _ (by omega) (hf6.rd.alloc _) hv).mono ?_;rintro e w8 ⟨rfl,hb8⟩;have hT8:Blk w8 (w.heap.size+1+1+1) Zr:=(hT6.alloc _).keep hb8;obtain ⟨x0,x1,x2,e80,e81,e82⟩:=bW hT8;replace hb8:Bw w w8:=(hb6.alloc hb6.size _).trans (hb8.mono (by have:=hb6.size;simp;omega));have hzz:fT = .agg Zr:=rfl))
   refine bodyPost_ret (v:=.tuple #[fT,.bool false]) (by simp [results,results110,go_sem,x0,x1,x2,fT]) rfl ⟨rfl,?_⟩;exact bT hb8
  | true=>
   have hz:eI x (.mk ku nu us) (.mk k n ks)=some (.mk k2 n2 ks2):=by rw [eI,hok,if_pos rfl,hct,hv];rfl
   rw [hz];clear hz;go_enter func110,ntmps110;go_wp2_with (first|(go_at_call 129;refine (hE (tQ (x:=x) (k':=ku) (n':=nu) (ks':=us) (A':=B) (c':=cb) (bi:=w.heap.size+1) (ba:=w.heap.size+2) (g:=w.heap.size+4) hx hsa hza ((((aC _ 3 _ (by simp)).alloc _).alloc _).alloc _) (((aC _ 25 _ (by simp)).alloc _).alloc _) (((((hRp.alloc _).alloc _).alloc _).alloc _).alloc _) (by omega) (by omega)) (fO func133 (by kernel_rfl) (by kernel_rfl)) (aH ks+1) k n ks A c 0 30 _ true (by omega) hs (by omega) (by omega) (by omega) (iM _ _) (aC _ 4 _ (by simp)) (((((hrp.alloc _).alloc _).alloc _).alloc _).alloc _)).mono ?_;rw [hct,hok];intro e w6 hpost;obtain ⟨A6,c6,rfl,hl6,hf6,hG6,hg6⟩:=nL hpost;clear hpost;have hT6:Blk w6 (w.heap.size+1+1+1) Zr:=((aC _ 25 _ (by simp)).alloc _).grown hg6 (by simp);have f0:=hG6.at_ (i:=0) rfl;obtain ⟨d0,d1,d2,e0,e1,e2,lT⟩:=dA hT6;have lG:=hG6.lt;have hb6:Bw w w6:=bw5.grown hg6 (by simp;omega) (fun k e=>by cases e;omega);replace hf6:=hf6.mono (B':=w.heap.size+5) (by simp))|(go_at_call 86;refine (iB k2 n2 ks2 A6 c6 _ (by omega) (hf6.rd.alloc _) hv).mono ?_;rintro e w8 ⟨rfl,hb8⟩;have hf8:=(hf6.alloc (.cells (Ro k2 n2 A6 ks2.length c6) 25)).below hb8;have hT8:Blk w8 (w.heap.size+1+1+1) Zr:=(hT6.alloc _).keep hb8;obtain ⟨x0,x1,x2,e80,e81,e82⟩:=bW hT8;replace hb8:Bw w w8:=(hb6.alloc hb6.size _).trans (hb8.mono (by have:=hb6.size;simp;omega))))
   refine bodyPost_ret (v:=.tuple #[.agg (Ro k2 n2 A6 ks2.length c6),.bool true]) (by simp [results,results110,go_sem,x0,x1,x2]) rfl ⟨A6,c6,rfl,hl6,?_,?_⟩
   ·exact (mU hf8).mono (by omega)
   ·exact bT hb8
theorem eM (N:Nat):∀(k n:Int) (ks:List Tm) (A:Option Addr) (c:Nat) (w:World),aH ks<N→aH ks≤1000000000→Rd w A 0 ks→
  Calls prog 36 #[.agg (Ro k n A ks.length c)] w (uO w k n ks):=by
 induction N with
 | zero=>intro k n ks A c w hN;exact absurd hN (Nat.not_lt_zero _)
 | succ N ih=>
 intro k n ks A c w hN hM hr;have hlen:=aQ ks;go_enter func36,ntmps36;go_wp2_with fail
 go_loopw [4] (fun i wr=>∃(j:Nat) (v:Value),j≤ks.length∧i = .int .i64 j∧Part (w.heap.size+3) wr v (ks.take j)∧Blk wr (w.heap.size+1+1) #[.int .i64 k,.int .i64 n,v]∧Blk wr (w.heap.size+1) Zr∧Blk wr w.heap.size (Ro k n A ks.length c)∧Bw w wr)
  (fun i _ => ks.length - (intOf i).toNat)
 case atStart=>exact ⟨0,_,Nat.zero_le _,rfl,Part.nil,aC _ _ _ (by simp),(aC _ _ _ (by simp)).alloc _,((aC _ _ _ rfl).alloc _).alloc _,bw3⟩
 case round=>
  obtain ⟨j,v,hj,rfl,hp,hB3,hB2,hB1,hb⟩:=hrel;have c12:=hB1.at_ (i:=2) rfl;by_cases hlt:j<ks.length
  ·obtain ⟨b,off,k',n',ks',A',c',rfl,hkj,hc1,hc2,hc3,hl',hr'⟩:=(hr.below hb).at_ hlt;have hsz:=cM (iS hlt);rw [hkj] at hsz;simp only [Tm.size] at hsz
   have H3:=aD hkj;clear hkj;have hz:=hB3.lt;go_wp2_with fail
   have x2:=hB3.rule (i:=2) rfl;have b2:=hB1.rule (i:=2) rfl;obtain ⟨y0,y1,y2⟩:=rN hc1 hc2 hc3;refine bK (fun w'=>Bw wr w') [0,1,2,3,4,5,6] [7,8] [9,10,11] [_,_,_,_,_,_,_] [_,_] [_,_,_] (by kernel_rfl) (by kernel_rfl) rfl rfl rfl (fun _ _ d _ _ h=>by cases d<;>exact h) (fG _ _).drew ?_;refine bV (aD ?_);refine bF ?_;go_wp2_with (go_at_call 36;refine (ih k' n' ks' A' c' _ (by omega) (by omega) hr'.drew).mono ?_;rintro e w1 ⟨A1,c1,rfl,hl1,hf1,hb1⟩)
   have hx1:Bw wr w1:=(fG _ _).drew.trans hb1;refine aP hx1 (bF ?_);go_wp2_with fail
   refine aP (hx1.alloc hx1.size _) (cZ ?_);refine cL (B:=w.heap.size+3) (m:=j) hp.drew hb1 (by simp;omega) hf1 hl1 (by rw [List.length_take];omega) (by omega) rfl (.tmp 18) (.tmp 25) rfl rfl rfl ?_;intro A2 c2 w2 hp2 hb2 hg2;have q3:Blk w2 (w.heap.size+1+1) #[.int .i64 k,.int .i64 n,v]:=(hB3.below hx1 (by omega)).below hb2 (by omega);have q2:Blk w2 (w.heap.size+1) Zr:=(hB2.below hx1 (by omega)).below hb2 (by omega);have q1':Blk w2 w.heap.size (Ro k n (some ⟨b,off,none⟩) ks.length c):=(hB1.below hx1 (by omega)).below hb2 (by omega);have c3:w2.cell? ⟨w.heap.size+1+1,2,none⟩=some v:=q3.at_ rfl;have z3:=q3.frozen 2;have hbf:Bw w w2:=(hb.trans (hx1.mono (by omega))).trans (hb2.mono (by omega));clear x2 y0 y1 y2 b2;go_wp2_with fail
   go_roundw
   case rel=>exact ⟨j+1,_,by omega,by go_num,by rw [uQ hlt,H3.out];exact hp2.setCell (by simp) _,q3.set_ 2 _,q2.far (by simp) _,q1'.far (by simp;omega) _,hbf.setCell (by simp;omega) _⟩
   case measure=>simp [intOf];omega
  ·have hjl:j=ks.length:=by omega
   subst hjl;rw [List.take_length] at hp;obtain ⟨Ar,cr,rfl,hfr⟩:=hp.fresh;have c0:wr.cell? ⟨w.heap.size+1+1,0,none⟩=some (.int .i64 k):=hB3.at_ rfl;have c1:wr.cell? ⟨w.heap.size+1+1,1,none⟩=some (.int .i64 n):=hB3.at_ rfl;have c2:wr.cell? ⟨w.heap.size+1+1,2,none⟩=some (.slice Ar ks.length cr):=hB3.at_ rfl;have d0:wr.cell? ⟨w.heap.size+1,0,none⟩=some (.int .i64 0):=hB2.at_ rfl;have d1:wr.cell? ⟨w.heap.size+1,1,none⟩=some (.int .i64 0):=hB2.at_ rfl;have d2:wr.cell? ⟨w.heap.size+1,2,none⟩=some (.slice none 0 0):=hB2.at_ rfl;obtain ⟨e0,e1,e2⟩:=lF hB2;go_wp2_with fail
   refine bodyPost_ret (v:=.agg (Ro k n Ar ks.length cr)) (by simp [results,results36,go_sem,d0,d1,d2]) rfl ⟨Ar,cr,rfl,by omega,?_,?_⟩
   ·exact (mU hfr).mono (by omega)
   ·exact bT hb
structure OnlyIn (fp:List Nat) (w w':World):Prop where
 os:w'.os=w.os
 tape:w'.tape=w.tape
 output:w'.output=w.output
 size:w.heap.size≤w'.heap.size
 block:∀b,b<w.heap.size→b ∉ fp→w'.heap[b]?=w.heap[b]?
theorem OnlyIn.refl (fp:List Nat)(w:World):OnlyIn fp w w:=⟨rfl,rfl,rfl,pS _,fun _ _ _=>rfl⟩
theorem OnlyIn.trans {fp:List Nat}{a b c:World}(h:OnlyIn fp a b)(k:OnlyIn fp b c):OnlyIn fp a c:=
 ⟨k.os.trans h.os,k.tape.trans h.tape,k.output.trans h.output,Nat.le_trans h.size k.size,fun i hi hn=>(k.block i (rO hi h.size) hn).trans (h.block i hi hn)⟩
theorem OnlyIn.mono {fp fq:List Nat}{w w':World}(h:OnlyIn fp w w')(hs:∀b,b∈fp→b∈fq):OnlyIn fq w w':=⟨h.os,h.tape,h.output,h.size,fun b hb hn=>h.block b hb fun hm=>hn (hs b hm)⟩
theorem OnlyIn.setCell {fp:List Nat}{a w:World}(h:OnlyIn fp a w){p:Addr}(hp:p.block∈fp)(u:Value):OnlyIn fp a (w.setCell p u):=
 ⟨h.os,h.tape,h.output,by simpa [World.setCell] using h.size,fun i hi hn=>(oM w p u i (fun e=>hn (e▸hp))).trans (h.block i hi hn)⟩
theorem OnlyIn.below {fp:List Nat}{w w':World}{B:Nat}(h:OnlyIn fp w w')(hB:B≤w.heap.size)(hf:∀b,b∈fp→B≤b):Below B w w':=
 ⟨h.os,h.tape,h.output,h.size,fun b hb=>h.block b (by omega) fun hm=>by have:=hf b hm;omega⟩
theorem uG {w:World}{t:Tm}{us:List Tm}:∀{ts:List Tm} {xs:List Value} {fp:List Nat},OwX w (ts++t::us) xs fp→
  ∃x0 x1 x2 f0 f1 f2,xs=x0++(x1++x2)∧fp=f0++(f1++f2)∧OwX w ts x0 f0∧OwT w t x1 f1∧OwX w us x2 f2
 | [],xs,fp,h=>by
  obtain ⟨x1,x2,f1,f2,rfl,rfl,h1,h2⟩:=OwX.cons_iff.1 h;exact ⟨[],x1,x2,[],f1,f2,rfl,rfl,OwX.nil,h1,h2⟩
 | s::ts,xs,fp,h=>by
  obtain ⟨y1,y2,e1,e2,rfl,rfl,k1,k2⟩:=OwX.cons_iff.1 h;obtain ⟨x0,x1,x2,f0,f1,f2,rfl,rfl,h0,h1,h2⟩:=uG k2;exact ⟨y1++x0,x1,x2,e1++f0,f1,f2,by rw [List.append_assoc],by rw [List.append_assoc],OwX.cons_iff.2 ⟨y1,x0,e1,f0,rfl,rfl,k1,h0⟩,h1,h2⟩
theorem aGh {w:World}{t:Tm}{us ts:List Tm}{x0 x1 x2:List Value}{f0 f1 f2:List Nat}(h0:OwX w ts x0 f0)(h1:OwT w t x1 f1)(h2:OwX w us x2 f2):OwX w (ts++t::us) (x0++(x1++x2)) (f0++(f1++f2)):=
 h0.append (OwX.cons_iff.2 ⟨x1,x2,f1,f2,rfl,rfl,h1,h2⟩)
theorem mI {k n k' n':Int}{ks ls:List Tm}(h:¬(k=k'∧n=n'∧ks.length=ls.length)):iX (.mk k n ks) (.mk k' n' ls)=false:=by
 cases e:iX (.mk k n ks) (.mk k' n' ls) with
 | false=>rfl
 | true=>have:=tmEq_iff.1 e;injection this with h1 h2 h3;exact absurd ⟨h1,h2,by rw [h3]⟩ h
theorem aAh {k n:Int}{ks ls:List Tm}:iX (.mk k n ks) (.mk k n ls)=lH ks ls:=by
 by_cases h:ks=ls
 ·subst h;rw [tJ,aGc]
 ·rw [lK h];cases e:iX (.mk k n ks) (.mk k n ls) with
  | false=>rfl
  | true=>have:=tmEq_iff.1 e;injection this with h1 h2 h3;exact absurd h3 h
theorem iZ (N:Nat):∀(k n:Int) (ks:List Tm) (A:Option Addr) (c:Nat) (k' n':Int) (ls:List Tm) (B:Option Addr) (d:Nat) (w:World),aH ks<N→ks.length≤9223372036854775807→ls.length≤9223372036854775807→Rd w A 0 ks→Rd w B 0 ls→
      Calls prog 126 #[.agg (Ro k n A ks.length c),.agg (Ro k' n' B ls.length d)] w fun e w'=>e = .returned (.bool (iX (.mk k n ks) (.mk k' n' ls)))∧Bw w w':=by
  induction N with
  | zero=>intro k n ks A c k' n' ls B d w hN;exact absurd hN (Nat.not_lt_zero _)
  | succ N ih=>
  intro k n ks A c k' n' ls B d w hN hl hl' hr hr';have hb2:∀o o',Bw w ((w.alloc o).alloc o'):=fun o o'=>bw2
  by_cases hk:k=k'
  · subst hk
    by_cases hn:n=n'
    · subst hn
      by_cases hlen:ks.length=ls.length
      · rw [aAh]
        have q1:(k != k)=false:=by simp
        have q2:(n != n)=false:=by simp
        have q3:((ks.length:Int) != (ls.length:Int))=false:=by simp [hlen]
        have hH:=aD hlen;have hle:ls.length≤ks.length:=by omega
        have hge:ks.length≤ls.length:=by omega
        clear hlen;go_enter func126,ntmps126;go_wp2_with fail
        go_loopw [5] (fun i wr=>∃j:Nat,j≤ks.length∧i = .int .i64 j∧Hid (ks.take j=ls.take j)∧Blk wr w.heap.size (Ro k n A ks.length c)∧Blk wr (w.heap.size+1) (Ro k n B ls.length d)∧Bw w wr) (fun i _=>ks.length - (intOf i).toNat)
        case atStart=>exact ⟨0,Nat.zero_le _,rfl,aD (by simp),(aC _ _ _ rfl).alloc _,aC _ _ _ (by simp),hb2 _ _⟩
        case round=>
          obtain ⟨j,hj,rfl,heq,hB1,hB2,hb⟩:=hrel;have b2:=hB1.at_ (i:=2) rfl;by_cases hlt:j<ks.length
          · have hlt':j<ls.length:=by omega
            obtain ⟨b,off,k1,n1,ks1,A1,c1,rfl,hkj,hc1,hc2,hc3,hl1,hr1⟩:=(hr.below hb).at_ hlt;obtain ⟨b2,off2,k2,n2,ks2,A2,c2,rfl,hkj2,qE,rW,sR,hl2,hr2⟩:=(hr'.below hb).at_ hlt';have hsz:=cM (iS hlt);rw [hkj] at hsz;simp only [Tm.size] at hsz
            have H3:=aD hkj;have H4:=aD hkj2;clear hkj hkj2;go_wp2_with fail
            obtain ⟨r1,r2,r3⟩:=rN hc1 hc2 hc3;obtain ⟨r4,r5,r6⟩:=rN qE rW sR;have r7:=hB1.rule (i:=2) rfl;have r8:=hB2.rule (i:=2) rfl;refine bK (fun w'=>Bw wr w') [0,1,2,3,4,5,6,7,8,9] [] [10,11] [_,_,_,_,_,_,_,_,_,_] [] [_,_] (by kernel_rfl) (by kernel_rfl) rfl rfl rfl (fun _ _ d _ _ h=>by cases d<;>exact h) (fG _ _).drew ?_;refine bV (aD ?_);refine cZ ?_;clear r1 r2 r3 r4 r5 r6 r7 r8;cases hte:iX (.mk k1 n1 ks1) (.mk k2 n2 ks2) with
            | false=>
              have hte':=aD hte;clear hte;go_wp2_with (go_at_call 126;refine (ih k1 n1 ks1 A1 c1 k2 n2 ks2 A2 c2 _ (by omega) hl1 hl2 hr1.drew hr2.drew).mono ?_;rw [hte'.out];rintro e w1 ⟨rfl,hb1⟩)
              go_ret
              refine ⟨eU (lK fun e=>?_).symm,hb.drew.trans (hb1.mono (by simpa using hb.size))⟩;have:=hte'.out;subst e;rw [← H3.out,← H4.out,tJ] at this;cases this
            | true=>
              have hte':=aD hte;clear hte;go_wp2_with (go_at_call 126;refine (ih k1 n1 ks1 A1 c1 k2 n2 ks2 A2 c2 _ (by omega) hl1 hl2 hr1.drew hr2.drew).mono ?_;rw [hte'.out];rintro e w1 ⟨rfl,hb1⟩)
              replace hb1:Bw wr w1:=(fG _ _).drew.trans hb1;go_roundw
              case rel=>exact ⟨j+1,by omega,by go_num,aD (by rw [uQ hlt,uQ hlt',heq.out,H3.out,H4.out,tmEq_iff.1 hte'.out]),hB1.keep hb1,hB2.keep hb1,hb.trans (hb1.mono hb.size)⟩
              case measure=>simp [intOf];omega
          · go_wp2_with fail
            go_ret
            have hjl:j=ks.length:=by omega
            have h5:=heq.out;rw [hjl,List.take_length,hH.out,List.take_length] at h5;exact ⟨eU (tmsEq_iff.2 h5).symm,hb⟩
      · have q1:(k != k)=false:=by simp
        have q2:(n != n)=false:=by simp
        have q3:((ks.length:Int) != (ls.length:Int))=true:=by simp;omega
        rw [mI (by rintro ⟨-,-,h⟩;exact hlen h)];clear hlen;go_enter func126,ntmps126;go_wp2_with fail
        go_ret
        exact ⟨rfl,hb2 _ _⟩
    · have q1:(k != k)=false:=by simp
      have q2:(n != n')=true:=by simpa using hn
      rw [mI (by rintro ⟨-,h,-⟩;exact hn h)];clear hn;go_enter func126,ntmps126;go_wp2_with fail
      go_ret
      exact ⟨rfl,hb2 _ _⟩
  · have q1:(k != k')=true:=by simpa using hk
    rw [mI (by rintro ⟨h,-⟩;exact hk h)];clear hk;go_enter func126,ntmps126;go_wp2_with fail
    go_ret
    exact ⟨rfl,hb2 _ _⟩
theorem wY {N:Nat}(ih:∀(ks:List Tm) (A:Option Addr) (c:Nat) (ls:List Tm) (B:Option Addr) (d:Nat) (w:World),aH ks<N→ks.length≤9223372036854775807→ls.length≤9223372036854775807→Rd w A 0 ks→Rd w B 0 ls→
      Calls prog 51 #[.slice A ks.length c,.slice B ls.length d,.func (.func 30) #[] #[]] w fun e w'=>e = .returned (.bool (lH ks ls))∧Bw w w')
    (k n:Int) (ks:List Tm) (A:Option Addr) (c:Nat) (k' n':Int) (ls:List Tm) (B:Option Addr) (d:Nat) (w:World) (hN:aH ks<N) (hl:ks.length≤9223372036854775807) (hl':ls.length≤9223372036854775807) (hr:Rd w A 0 ks) (hr':Rd w B 0 ls) :
    Calls prog 30 #[.agg (Ro k n A ks.length c),.agg (Ro k' n' B ls.length d)] w fun e w'=>e = .returned (.bool (iX (.mk k n ks) (.mk k' n' ls)))∧Bw w w':=by
  have hb2:∀o o',Bw w ((w.alloc o).alloc o'):=fun o o'=>bw2
  by_cases hk:k=k'
  · subst hk
    by_cases hn:n=n'
    · subst hn
      rw [aAh];generalize ht:lH ks ls=b
      have ht':=aD ht;clear ht;go_enter func30,ntmps30;go_wp2_with (go_at_call 51;refine (ih ks A c ls B d _ hN hl hl' ((hr.alloc _).alloc _) ((hr'.alloc _).alloc _)).mono ?_;rw [ht'.out];rintro e w1 ⟨rfl,hb1⟩;replace hb1:Bw w w1:=(hb2 _ _).trans (hb1.mono (by simp;omega)))
      go_ret
      exact ⟨rfl,hb1⟩
    · have q2:(n==n')=false:=by simpa using hn
      rw [mI (by rintro ⟨-,h,-⟩;exact hn h)];clear hn;go_enter func30,ntmps30;go_wp2_with fail
      go_ret
      exact ⟨rfl,hb2 _ _⟩
  · have q1:(k==k')=false:=by simpa using hk
    rw [mI (by rintro ⟨h,-⟩;exact hk h)];clear hk;go_enter func30,ntmps30;go_wp2_with fail
    go_ret
    exact ⟨rfl,hb2 _ _⟩
theorem aFy (N:Nat):∀(ks:List Tm) (A:Option Addr) (c:Nat) (ls:List Tm) (B:Option Addr) (d:Nat) (w:World),aH ks<N→ks.length≤9223372036854775807→ls.length≤9223372036854775807→Rd w A 0 ks→Rd w B 0 ls→
      Calls prog 51 #[.slice A ks.length c,.slice B ls.length d,.func (.func 30) #[] #[]] w fun e w'=>e = .returned (.bool (lH ks ls))∧Bw w w':=by
  induction N with
  | zero=>intro ks A c ls B d w hN;exact absurd hN (Nat.not_lt_zero _)
  | succ N ih=>
  intro ks A c ls B d w hN hl hl' hr hr';have hrun:=fO func30 (by kernel_rfl) (by kernel_rfl);by_cases hlen:ks.length=ls.length
  · have hq:((ks.length:Int) != (ls.length:Int))=false:=by simp [hlen]
    have hH:=aD hlen;have hle:ls.length≤ks.length:=by omega
    have hge:ks.length≤ls.length:=by omega
    clear hlen;go_enter func51,ntmps51;go_wp2_with fail
    go_loopw [17] (fun i wr=>∃j:Nat,j≤ks.length∧i = .int .i64 j∧Hid (ks.take j=ls.take j)∧Bw w wr) (fun i _=>ks.length - (intOf i).toNat)
    case atStart=>exact ⟨0,Nat.zero_le _,rfl,aD (by simp),fG _ _⟩
    case round=>
      obtain ⟨j,hj,rfl,heq,hb⟩:=hrel;by_cases hlt:j<ks.length
      · have hlt':j<ls.length:=by omega
        obtain ⟨b,off,k1,n1,ks1,A1,c1,rfl,hkj,hc1,hc2,hc3,hl1,hr1⟩:=(hr.below hb).at_ hlt;obtain ⟨b2,off2,k2,n2,ks2,A2,c2,rfl,hkj2,qE,rW,sR,hl2,hr2⟩:=(hr'.below hb).at_ hlt';have hbl:=kY _ _ hc1;have hbl2:=kY _ _ qE;have hsz:=cM (iS hlt);rw [hkj] at hsz;simp only [Tm.size] at hsz
        have H3:=aD hkj;have H4:=aD hkj2;clear hkj hkj2;have hx:∀o o',Bw wr ((wr.alloc o).alloc o'):=fun o o'=>bw2
        cases hte:iX (.mk k1 n1 ks1) (.mk k2 n2 ks2) with
        | false=>
          have hte':=aD hte;clear hte;go_wp2_with (go_at_call 30;refine (wY ih k1 n1 ks1 A1 c1 k2 n2 ks2 A2 c2 _ (by omega) hl1 hl2 ((hr1.alloc _).alloc _) ((hr2.alloc _).alloc _)).mono ?_;rw [hte'.out];rintro e w1 ⟨rfl,hb1⟩;replace hb1:Bw wr w1:=(hx _ _).trans (hb1.mono (by simp;omega)))
          go_ret
          refine ⟨eU (lK fun e=>?_).symm,hb.trans (hb1.mono hb.size)⟩;have:=hte'.out;subst e;rw [← H3.out,← H4.out,tJ] at this;cases this
        | true=>
          have hte':=aD hte;clear hte;go_wp2_with (go_at_call 30;refine (wY ih k1 n1 ks1 A1 c1 k2 n2 ks2 A2 c2 _ (by omega) hl1 hl2 ((hr1.alloc _).alloc _) ((hr2.alloc _).alloc _)).mono ?_;rw [hte'.out];rintro e w1 ⟨rfl,hb1⟩;replace hb1:Bw wr w1:=(hx _ _).trans (hb1.mono (by simp;omega)))
          go_roundw
          case rel=>exact ⟨j+1,by omega,by go_num,aD (by rw [uQ hlt,uQ hlt',heq.out,H3.out,H4.out,tmEq_iff.1 hte'.out]),hb.trans (hb1.mono hb.size)⟩
          case measure=>simp [intOf];omega
      · go_wp2_with fail
        go_ret
        have hjl:j=ks.length:=by omega
        have h5:=heq.out;rw [hjl,List.take_length,hH.out,List.take_length] at h5;exact ⟨eU (tmsEq_iff.2 h5).symm,hb⟩
  · have hq:((ks.length:Int) != (ls.length:Int))=true:=by simp;omega
    rw [lK (fun e=>hlen (by rw [e]))];clear hlen;go_enter func51,ntmps51;go_wp2_with fail
    go_ret
    exact ⟨rfl,fG _ _⟩
theorem jG (k n:Int)(ks:List Tm)(A:Option Addr)(c:Nat)(k' n':Int)(ls:List Tm)(B:Option Addr)(d:Nat)(w:World)(hl:ks.length≤9223372036854775807)(hl':ls.length≤9223372036854775807)(hr:Rd w A 0 ks)(hr':Rd w B 0 ls) :
  Calls prog 30 #[.agg (Ro k n A ks.length c),.agg (Ro k' n' B ls.length d)] w fun e w'=>e = .returned (.bool (iX (.mk k n ks) (.mk k' n' ls)))∧Bw w w':=
 wY (N:=aH ks+1) (aFy _) k n ks A c k' n' ls B d w (qG _) hl hl' hr hr'
def Tab (w:World)(lo g:Nat)(G:List Tm):Prop:=
 g<lo∧∃cur f,w.heap[g]?=some (.cells cur 25 (0,0))∧cur.size=G.length*3∧OwX w G cur.toList f∧f.Nodup∧∀b,b∈f→lo≤b
variable {w w' w0:World}{lo g:Nat}{G:List Tm}
theorem Tab.only {fp:List Nat}(h:Tab w lo g G)(ho:OnlyIn fp w w')(hfp:∀b,b∈fp→b≠g∧b<lo):Tab w' lo g G:=by
 obtain ⟨h0,cur,f,h1,h2,h3,h4,h5⟩:=h;refine ⟨h0,cur,f,(ho.block g (Array.getElem?_eq_some_iff.1 h1).1 (fun hm=>(hfp g hm).1 rfl)).trans h1,h2,h3.frame fun b hb=>ho.block b (h3.lt b hb) fun hm=>?_,h4,h5⟩;have:=(hfp b hm).2;have:=h5 b hb;omega
theorem Tab.keep (h:Tab w lo g G)(hb:Bw w w'):Tab w' lo g G:=by
 obtain ⟨h0,cur,f,h1,h2,h3,h4,h5⟩:=h;exact ⟨h0,cur,f,(hb.block g (Array.getElem?_eq_some_iff.1 h1).1).trans h1,h2,h3.frame fun b hm=>hb.block b (h3.lt b hm),h4,h5⟩
theorem Tab.alloc (h:Tab w lo g G)(o:Obj):Tab (w.alloc o) lo g G:=h.keep (bw1)
theorem Tab.drew (h:Tab w lo g G):Tab w.drew lo g G:=h.keep (fG _ _).drew
theorem Tab.setCell (h:Tab w lo g G){p:Addr}(hp:p.block≠g)(hl:p.block<lo)(u:Value):Tab (w.setCell p u) lo g G:=by
 obtain ⟨h0,cur,f,h1,h2,h3,h4,h5⟩:=h;exact ⟨h0,cur,f,(oM w p u g (fun e=>hp e.symm)).trans h1,h2,h3.frame fun b hb=>oM w p u b (fun e=>by have:=h5 b hb;omega),h4,h5⟩
theorem Tab.lt (h:Tab w lo g G):g<w.heap.size:=by
 obtain ⟨h0,cur,f,h1,_⟩:=h;exact (Array.getElem?_eq_some_iff.1 h1).1
theorem Tab.frozen (h:Tab w lo g G)(j:Nat):w.frozen? ⟨g,j,none⟩=false:=by
 obtain ⟨h0,cur,f,h1,h2,_⟩:=h;simp [World.frozen?,h1]
theorem Tab.rd (h:Tab w lo g G):Rd w (some ⟨g,0,none⟩) 0 G:=by
 obtain ⟨h0,cur,f,h1,h2,h3,h4,h5⟩:=h;refine own_rd.2 _ _ _ h3 g 0 0 fun j u hu=>?_
 rw [show 0+0*3+j=j by omega,cell_of_row w g j cur 25 (0,0) h1];simpa using hu
theorem Tab.put (h:Tab w0 lo g G)(hb:Bw w0 w)(hlo:lo≤w0.heap.size){k m:Int}{ks:List Tm}{A:Option Addr}{c j:Nat}(hfr:Fresh w0.heap.size w A ks)(hl:ks.length≤9223372036854775807)(hj:j<G.length) :
  Tab (((w.setCell ⟨g,j*3,none⟩ (.int .i64 k)).setCell ⟨g,j*3+1,none⟩ (.int .i64 m)).setCell ⟨g,j*3+2,none⟩ (.slice A ks.length c)) lo g (G.set j (.mk k m ks)):=by
 obtain ⟨h0,cur,f,h1,h2,h3,h4,h5⟩:=h;obtain ⟨fp,k1,k2,k3⟩:=hfr;have hg0:=(Array.getElem?_eq_some_iff.1 h1).1;have hg:w.heap[g]?=some (.cells cur 25 (0,0)):=(hb.block g hg0).trans h1;have far:∀b,b≠g→(((w.setCell ⟨g,j*3,none⟩ (.int .i64 k)).setCell ⟨g,j*3+1,none⟩ (.int .i64 m)).setCell ⟨g,j*3+2,none⟩ (.slice A ks.length c)).heap[b]?=w.heap[b]?:=fun b hbg=>by
  rw [oM _ _ _ _ hbg,oM _ _ _ _ hbg,oM _ _ _ _ hbg]
 have hsp:G=G.take j++G[j]::G.drop (j+1):=by rw [← List.drop_eq_getElem_cons hj,List.take_append_drop]
 have hsp2:G.set j (.mk k m ks)=G.take j++Tm.mk k m ks::G.drop (j+1):=by rw [List.set_eq_take_append_cons_drop,if_pos hj]
 have h3':=h3;rw [hsp] at h3';obtain ⟨x0,x1,x2,f0,f1,f2,hx,hf,o0,o1,o2⟩:=uG h3';have l0:x0.length=j*3:=by rw [o0.length,List.length_take,Nat.min_eq_left (Nat.le_of_lt hj)]
 have l1:=o1.length;obtain ⟨p,q,r,rfl⟩:∃p q r,x1=[p,q,r]:=by
  match x1,l1 with
  | [p,q,r],_=>exact ⟨p,q,r,rfl⟩
 subst hf;have lt0:∀b,b∈f0++(f1++f2)→b<w0.heap.size:=fun b hb=>h3.lt b hb
 have nd:=List.nodup_append.1 h4;have nd2:=List.nodup_append.1 nd.2.1;refine ⟨h0,((cur.setIfInBounds (j*3) (.int .i64 k)).setIfInBounds (j*3+1) (.int .i64 m)).setIfInBounds (j*3+2) (.slice A ks.length c),f0++(fp++f2),?_,by simpa using h2,?_,?_,?_⟩
 ·simp [World.setCell,Array.getElem?_modify,hg]
 ·have e:(((cur.setIfInBounds (j*3) (.int .i64 k)).setIfInBounds (j*3+1) (.int .i64 m)).setIfInBounds (j*3+2) (.slice A ks.length c)).toList=x0++([.int .i64 k,.int .i64 m,.slice A ks.length c]++x2):=by
   simp only [Array.toList_setIfInBounds,hx,← l0]
   simp [List.set_append]
  rw [e,hsp2];have keep:∀b,b∈f0++(f1++f2)→(((w.setCell ⟨g,j*3,none⟩ (.int .i64 k)).setCell ⟨g,j*3+1,none⟩ (.int .i64 m)).setCell ⟨g,j*3+2,none⟩ (.slice A ks.length c)).heap[b]?=w0.heap[b]?:=fun b hm=>by
   rw [far b (by have:=h5 b hm;omega)];exact hb.block b (lt0 b hm)
  exact aGh (o0.frame fun b hm=>keep b (by simp [hm])) (OwT.iff.2 ⟨A,c,rfl,hl,k1.frame fun b hm=>far b (by have:=k3 b hm;omega)⟩) (o2.frame fun b hm=>keep b (by simp [hm]))
 ·refine List.nodup_append.2 ⟨nd.1,List.nodup_append.2 ⟨k2,nd2.2.1,fun x hx y hy e=>?_⟩,fun x hx y hy e=>?_⟩
  ·have:=k3 x hx;have:=lt0 y (by simp [hy]);omega
  ·rcases List.mem_append.1 hy with hy|hy
   ·have:=k3 y hy;have:=lt0 x (by simp [hx]);omega
   ·exact nd.2.2 x hx y (List.mem_append.2 (.inr hy)) e
 ·intro b hm;rcases List.mem_append.1 hm with hm|hm
  ·exact h5 b (by simp [hm])
  ·rcases List.mem_append.1 hm with hm|hm
   ·have:=k3 b hm;omega
   ·exact h5 b (by simp [hm])
theorem Tab.fresh (h:Tab w lo g G){B:Nat}(hB:B≤g):Fresh B w (some ⟨g,0,none⟩) G:=by
 obtain ⟨h0,cur,f,h1,h2,h3,h4,h5⟩:=h;by_cases hts:G=[]
 ·subst hts;exact Fresh.nil
 ·refine ⟨g::f,.inr ⟨g,cur,_,f,hts,rfl,h1,rfl,by rw [List.take_of_length_le (by simp [h2])];exact h3⟩,List.nodup_cons.2 ⟨fun hm=>by have:=h5 g hm;omega,h4⟩,fun b hb=>?_⟩;rcases List.mem_cons.1 hb with rfl|hb
  ·exact hB
  ·have:=h5 b hb;omega
def Tm.kids:Tm→List Tm | .mk _ _ ks=>ks
theorem aL {k n:Int}{ks:List Tm}(h:aE (.mk k n ks)=true){t:Tm}(ht:t∈ks):aE t=true:=by
 simp only [aE,Bool.and_eq_true,decide_eq_true_eq] at h⊢
 obtain ⟨q,hq,_,_,_,hk⟩:=bX h.1;refine ⟨eV (by omega) t (hk t ht),?_⟩;have:=cM ht;rw [Tm.size] at h;omega
structure OwF (w:World) (A:Option Addr) (ks:List Tm) (fp:List Nat) (lo hi:Nat):Prop where
 ow:Ow w A ks fp
 nodup:fp.Nodup
 lo:∀b,b∈fp→lo≤b
 hi:∀b,b∈fp→b<hi
variable {w w':World}{A:Option Addr}{ks:List Tm}{fp fq:List Nat}{lo hi:Nat}
theorem OwF.rd (h:OwF w A ks fp lo hi):Rd w A 0 ks:=h.ow.rd
theorem OwF.keep (h:OwF w A ks fp lo hi)(hb:Bw w w'):OwF w' A ks fp lo hi:=⟨h.ow.frame fun b hm=>hb.block b (h.ow.lt b hm),h.nodup,h.lo,h.hi⟩
theorem OwF.alloc (h:OwF w A ks fp lo hi)(o:Obj):OwF (w.alloc o) A ks fp lo hi:=⟨h.ow.frame fun b hm=>Below.heap_alloc w o b (h.ow.lt b hm),h.nodup,h.lo,h.hi⟩
theorem OwF.drew (h:OwF w A ks fp lo hi):OwF w.drew A ks fp lo hi:=⟨h.ow.frame fun b hm=>rfl,h.nodup,h.lo,h.hi⟩
theorem OwF.only (h:OwF w A ks fp lo hi)(ho:OnlyIn fq w w')(hd:∀b,b∈fp→b ∉ fq):OwF w' A ks fp lo hi:=⟨h.ow.frame fun b hm=>ho.block b (h.ow.lt b hm) (hd b hm),h.nodup,h.lo,h.hi⟩
theorem OwF.apart {A':Option Addr}{ks':List Tm}{lo' hi':Nat}(h:OwF w A ks fp lo hi)(h':OwF w' A' ks' fq lo' hi')(hh:hi≤lo'):∀b,b∈fp→b ∉ fq:=fun b h1 h2=>by have:=h.hi b h1;have:=h'.lo b h2;omega
theorem OwF.out (h:OwF w A ks fp lo hi){g:Nat}(hg:g<lo∨hi≤g):g ∉ fp:=fun h1=>by have:=h.lo g h1;have:=h.hi g h1;omega
theorem Blk.only {g:Nat}{cs:Array Value}(h:Blk w g cs)(ho:OnlyIn fq w w')(hg:g ∉ fq):Blk w' g cs:=by have hl:=h.lt;obtain ⟨t,h⟩:=h;exact ⟨t,(ho.block g hl hg).trans h⟩
theorem OwF.below (h:OwF w A ks fp lo hi)(ho:OnlyIn fp w w')(hlo:lo≤w.heap.size):Below lo w w':=ho.below hlo h.lo
theorem OnlyIn.of_below {fp:List Nat}{w w':World}(h:Bw w w'):OnlyIn fp w w':=⟨h.os,h.tape,h.output,h.size,fun b hb _=>h.block b hb⟩
theorem RdP.only {g sb:Nat}{w w':World}{A:Option Addr}{i:Nat}{ks:List Tm}(hr:RdP (fun b=>b≠g∧b≠sb) w A i ks)(ho:OnlyIn [g,sb] w w'):RdP (fun b=>b≠g∧b≠sb) w' A i ks:=
 hr.blocks fun b hb hl=>ho.block b hl (by simp [hb.1,hb.2])
def RdI (w:World)(A:Option Addr)(xs:List Int):Prop:=∀j (hj:j<xs.length),∃b off,A=some ⟨b,off,none⟩∧w.cell? ⟨b,off+j,none⟩=some (.int .i64 xs[j])
theorem RdI.keeps {w w':World}{A:Option Addr}{xs:List Int}(h:RdI w A xs)(hk:Keeps w w'):RdI w' A xs:=fun j hj=>by
 obtain ⟨b,off,hA,hc⟩:=h j hj;exact ⟨b,off,hA,hk _ _ hc⟩
theorem RdI.below {w w':World}{A:Option Addr}{xs:List Int}(h:RdI w A xs)(hb:Bw w w'):RdI w' A xs:=h.keeps (.of_below hb)
theorem RdI.alloc {w:World}{A:Option Addr}{xs:List Int}(h:RdI w A xs)(o:Obj):RdI (w.alloc o) A xs:=h.keeps (.alloc w o)
def lC:Tm→List Int→Option Tm
 | t,[]=>some t
 | t,i::is=>if 0≤i∧i<t.kids.length then lC (t.kids.getD i.toNat default) is else none
theorem rD:∀(xs ys:List Int) (t:Tm),lC t (xs++ys)=(lC t xs).bind (lC · ys)
 | [],ys,t=>rfl
 | i::is,ys,t=>by
  rw [List.cons_append,lC,lC];split
  ·exact rD is ys _
  ·rfl
theorem aOj {t u:Tm}{xs:List Int}{j:Nat}(hj:j<xs.length)(h:lC t (xs.take j)=some u):lC t (xs.take (j+1))=if 0≤xs[j]∧xs[j]<u.kids.length then some (u.kids.getD xs[j].toNat default) else none:=by
 rw [uQ hj,rD,h,Option.bind_some,lC];split<;>rfl
theorem aOw {t:Tm}{xs:List Int}{j:Nat}(h:lC t (xs.take j)=none):lC t xs=none:=by
 rw [← List.take_append_drop j xs,rD,h];rfl
theorem mT {u:Tm}:∀{xs:List Int} {t:Tm},lC t xs=some u→aE t=true→aE u=true
 | [],t,h,hv=>by cases h;exact hv
 | i::is,t,h,hv=>by
  rw [lC] at h;split at h
  ·rename_i hh
   obtain ⟨k,n,ks⟩:=t;refine mT h ?_;have hlt:i.toNat<ks.length:=by have:=hh.2;simp only [Tm.kids] at this;omega
   rw [show (Tm.mk k n ks).kids=ks from rfl,List.getD_eq_getElem?_getD,oE hlt,Option.getD_some];exact aL hv (iS _)
  ·cases h
mutual
def dB:Tm→Option (List Int)
 | .mk k n ks=>if cH k ks=0 then iU 0 ks else some []
def iU:Int→List Tm→Option (List Int)
 | _,[]=>none
 | i,t::ts=>match dB t with|some p=>some (i::p)|none=>iU (i+1) ts
end
def dD (k:Int):Int:=if k=5∨k=15∨k=16 then 0 else if k=9 then 3 else if k=12 then 1 else -1
mutual
def bS:Tm→Option (List Int)
 | .mk k n ks=>if cH k ks=0 then (if dD k<0 then none else (iO (dD k).toNat ks).map (dD k::·)) else some []
def iO:Nat→List Tm→Option (List Int)
 | _,[]=>none
 | 0,t::_=>bS t
 | i+1,_::ts=>iO i ts
end
def iT:Tm→List Int→Tm→Tm
 | _,[],u=>u
 | .mk k n ks,i::is,u=>.mk k n (ks.set i.toNat (iT (ks.getD i.toNat default) is u))
def vO (t:Tm):Option Tm:=if aE t=true then some t else none
def aI (ks:List Tm)(i:Nat):Tm:=ks.getD i default
def pT:Tm→Option Tm
 | .mk k n ks=>
  if cH k ks=1 then eI 0 (aI ks 1) (aI (aI ks 0).ks 1)
  else if cH k ks=2 then vO (aI ks 1)
  else if cH k ks=3 then vO (.mk 5 0 [.mk 5 0 [aI ks 2,aI (aI ks 3).ks 0],.mk 9 0 [aI ks 0,aI ks 1,aI ks 2,aI (aI ks 3).ks 0]])
  else if cH k ks=4 then vO (aI ks 2)
  else if cH k ks=5 then vO (aI (aI ks 0).ks 1)
  else if cH k ks=6 then vO (aI (aI ks 0).ks 2)
  else none
def lX (t:Tm)(p:List Int):Option Tm:=
 match lC t p with
 | none=>none
 | some u=>match pT u with|none=>none|some v=>vO (iT t p v)
def redI (find:Tm→Option (List Int)):Nat→Tm→Option Tm × Int
 | fuel,t=>match find t with
  | none=>(some t,0)
  | some p=>match fuel with
   | 0=>(none,1)
   | fuel+1=>match lX t p with
    | none=>(none,2)
    | some t'=>redI find fuel t'
def iP (fuel:Nat)(a b:Tm):Int:=
 if iX a b=true then 1 else
  if (redI dB fuel a).2≠0∨(redI dB fuel b).2≠0 then 3 else
   if iX ((redI dB fuel a).1.getD (.mk 0 0 [])) ((redI dB fuel b).1.getD (.mk 0 0 []))=true then 1 else 2
def Way (find:Tm→Option (List Int)):Prop:=∀t p,find t=some p→∃k n ks,lC t p=some (.mk k n ks)∧cH k ks≠0
theorem oU {k n:Int}{ks:List Tm}{j:Nat}{p:List Int}(hj:j<ks.length):lC (.mk k n ks) ((j:Int)::p)=lC ks[j] p:=by
 rw [lC,if_pos ⟨by omega,by simpa [Tm.kids] using hj⟩];simp [Tm.kids,List.getD,oE hj]
theorem aOg:Way dB:=by
 have h:(∀t p,dB t=some p→∃k n ks,lC t p=some (.mk k n ks)∧cH k ks≠0)∧
   (∀(ts:List Tm) (i:Nat) p,iU i ts=some p→∃(j:Nat) (q:List Int) (h:j<ts.length),p=((i+j:Nat):Int)::q∧∃k n ks,lC ts[j] q=some (.mk k n ks)∧cH k ks≠0):=by
  refine bO (fun k n ks ih p hp=>?_) (fun i p hp=>?_) (fun t ts h1 h2 i p hp=>?_)
  ·rw [dB] at hp;split at hp
   ·obtain ⟨j,q,hj,rfl,h⟩:=ih 0 p hp;rw [Nat.zero_add,oU hj];exact h
   ·rename_i hr
    injection hp with hp;subst hp;exact ⟨k,n,ks,rfl,hr⟩
  ·rw [iU] at hp;cases hp
  ·rw [iU] at hp;cases h:dB t with
   | some q=>
    rw [h] at hp;injection hp with hp;subst hp;exact ⟨0,q,by simp,by simp,h1 q h⟩
   | none=>
    rw [h] at hp;obtain ⟨j,q,hj,rfl,h3⟩:=h2 (i+1) p (by simpa using hp);refine ⟨j+1,q,by simp;omega,by congr 1;omega,?_⟩;simpa using h3
 exact h.1
theorem aJi:Way bS:=by
 have h:(∀t p,bS t=some p→∃k n ks,lC t p=some (.mk k n ks)∧cH k ks≠0)∧
   (∀(ts:List Tm) (i:Nat) p,iO i ts=some p→∃h:i<ts.length,∃k n ks,lC ts[i] p=some (.mk k n ks)∧cH k ks≠0):=by
  refine bO (fun k n ks ih p hp=>?_) (fun i p hp=>?_) (fun t ts h1 h2 i p hp=>?_)
  ·rw [bS] at hp;split at hp
   ·split at hp
    ·cases hp
    ·rename_i hm
     cases h:iO (dD k).toNat ks with
     | none=>rw [h] at hp;cases hp
     | some q=>
      rw [h] at hp;injection hp with hp;subst hp;obtain ⟨hj,h3⟩:=ih _ _ h;rw [show dD k=((dD k).toNat:Int) from by omega,oU (by simpa using hj)];simpa using h3
   ·rename_i hr
    injection hp with hp;subst hp;exact ⟨k,n,ks,rfl,hr⟩
  ·rw [iO] at hp;cases hp
  ·cases i with
   | zero=>rw [iO] at hp;exact ⟨by simp,by simpa using h1 p hp⟩
   | succ i=>
    rw [iO] at hp;obtain ⟨hj,h3⟩:=h2 i p hp;exact ⟨by simp;omega,by simpa using h3⟩
 exact h.1
theorem kW {t u:Tm}(h:vO t=some u):aE u=true:=by
 unfold vO at h
 split at h
 ·injection h with h;subst h;assumption
 ·cases h
theorem gI {x:Int}{u t v:Tm}(h:eI x u t=some v):aE v=true:=by
 unfold eI at h
 split at h
 ·split at h
  ·injection h with h;subst h;assumption
  ·cases h
 ·cases h
theorem aGd {t u:Tm}(h:pT t=some u):aE u=true:=by
 obtain ⟨k,n,ks⟩:=t;rw [pT] at h;split at h
 ·exact gI h
 repeat (split at h;· exact kW h)
 cases h
theorem qL {t u:Tm}{p:List Int}(h:lX t p=some u):aE u=true:=by
 unfold lX at h
 split at h
 ·cases h
 ·split at h
  ·cases h
  ·exact kW h
theorem vQ {find:Tm→Option (List Int)}:∀(fuel:Nat) (t u:Tm) (c:Int),aE t=true→redI find fuel t=(some u,c)→aE u=true
 | fuel,t,u,c,hv,h=>by
  rw [redI] at h;split at h
  ·injection h with h1 h2;injection h1 with h1;subst h1;exact hv
  ·split at h
   ·cases h
   ·split at h
    ·cases h
    ·exact vQ _ _ _ _ (qL (by assumption)) h
def PathX (w:World)(A:Option Addr)(xs:List Int):Prop:=
 0<xs.length→∃b off,A=some ⟨b,off,none⟩∧∀(i:Nat) (u:Value),(xs.map (Value.int .i64))[i]?=some u→w.cell? ⟨b,off+i,none⟩=some u
theorem PathX.nil {w:World}{A:Option Addr}:PathX w A []:=fun h=>absurd h (Nat.lt_irrefl _)
theorem PathX.alloc {w:World}{A:Option Addr}{xs:List Int}(h:PathX w A xs)(o:Obj):PathX (w.alloc o) A xs:=by
 intro hm;obtain ⟨b,off,h3,h4⟩:=h hm;exact ⟨b,off,h3,fun i u hu=>Keeps.alloc w o _ _ (h4 i u hu)⟩
theorem PathX.rdi {w:World}{A:Option Addr}{xs:List Int}(h:PathX w A xs):RdI w A xs:=fun j hj=>by
 obtain ⟨b,off,h3,h4⟩:=h (by omega);exact ⟨b,off,h3,h4 j _ (by rw [List.getElem?_map,oE hj];rfl)⟩
theorem PathX.below {w w':World}{A:Option Addr}{xs:List Int}(h:PathX w A xs)(hb:Bw w w'):PathX w' A xs:=by
 intro hm;obtain ⟨b,off,h3,h4⟩:=h hm;exact ⟨b,off,h3,fun i u hu=>(bU hb) _ _ (h4 i u hu)⟩
theorem tP {w:World}{A:Option Addr}{xs:List Int}{m c:Nat}(h:PathX w A xs)(h1:xs.length=m)(hm:m≤1000)(x:Int)(ty:TypeId) :
  ∃A' c' w',(Builtin.append_ #[39,39] ty #[.slice (some ⟨w.heap.size,0,none⟩) 1 1,.slice A m c]).run prog (w.alloc (.cells #[.int .i64 x] 3)) = .ok (.slice A' (m+1) c') w'∧m+1≤c'∧PathX w' A' (x::xs)∧Bw w w':=by
 obtain ⟨i0,hi,hz0,hz1,hz2⟩:=info_parts aPt;have hown:(w.alloc (.cells #[.int .i64 x] 3)).ownsRow w.heap.size 3 1 (.slice (some ⟨w.heap.size,0,none⟩) 1 1) 1 [.int .i64 x]:=
  ⟨rfl,.inr ⟨w.heap.size,1,#[.int .i64 x],rfl,pS _,heap_alloc_new w _,pS _,by decide,rfl,rfl⟩⟩
 have h2:=h.alloc (.cells #[.int .i64 x] 3);have fin:∀(v':Value) (w':World),w'.ownsRow w.heap.size 3 1 v' (1+m) (.int .i64 x::xs.map (Value.int .i64))→(w.alloc (.cells #[.int .i64 x] 3)).grownBy w' (some w.heap.size)→
   ∃A' c',v' = .slice A' (m+1) c'∧m+1≤c'∧PathX w' A' (x::xs)∧Bw w w':=by
  intro v' w' ho hg;have hb:Bw w w':=bw1.grown hg (by simp) (fun k e=>by cases e;omega);rcases ho.2 with ⟨_,h0⟩|⟨g,cap,cur,rfl,hgb,hgc,hn,hmx,hcs,htk⟩
  ·omega
  ·refine ⟨some ⟨g,0,none⟩,cap,by rw [Nat.add_comm],by omega,fun _=>⟨g,0,rfl,fun i u hu=>?_⟩,hb⟩;rw [List.map_cons,← htk] at hu;have hu2:cur[i]?=some u:=by
    rw [List.getElem?_take] at hu;split at hu
    ·simpa using hu
    ·cases hu
   have hB:Blk w' g cur:=⟨3,hgc⟩;rw [Nat.zero_add];exact hB.at_ hu2
 have hcells:∀(ad:Addr),A=some ad→∀j u,(xs.map (Value.int .i64))[j]?=some u→(w.alloc (.cells #[.int .i64 x] 3)).cell? (ad.add j)=some u:=by
  intro ad e j u hu;have hj:j<xs.length:=by have:=(List.getElem?_eq_some_iff.1 hu).1;simpa using this
  obtain ⟨b,off,e2,hc⟩:=h2 (by omega);rw [e2] at e;cases e
  have:=hc j u hu;rwa [← Go.WideShapes.add_plain] at this
 rcases A with _|ad
 ·have hz:m=0:=by
   rcases Nat.eq_zero_or_pos m with h0|h0
   ·exact h0
   ·obtain ⟨b,off,e,_⟩:=h2 (by omega);cases e
  subst hz;have hx:xs=[]:=lEn h1;subst hx;obtain ⟨A',c',hv,hcc,hp,hb⟩:=fin _ _ hown (iM _ _);refine ⟨A',c',_,?_,hcc,hp,hb⟩;rw [← hv];have hgc:=heap_alloc_new w (.cells #[.int .i64 x] 3);simp [Builtin.append_,run_underlying Tryz.underlying39,sizeOf,typeInfo,hi,Builtin.lenOf,Builtin.firstCells,storeCells]
 ·obtain ⟨v',w',hrun,ho,hg,_,hat⟩:=run_append_own_at (P:=prog) (w.alloc (.cells #[.int .i64 x] 3)) w.heap.size 39 ty 3 i0 _ 1 8 Tryz.underlying39 hi hz0 hz1 hz2 rfl (by omega) _ 1 _ hown ad m c (xs.map (Value.int .i64)) (by simp [h1]) (hcells ad rfl) (by
   intro u hu;obtain ⟨z,_,rfl⟩:=List.mem_map.1 hu;rfl) (by simp only [maxLen];omega) (by omega) (by simp)
  obtain ⟨A',c',rfl,hcc,hp,hb⟩:=fin v' w' (by simpa using ho) hg;exact ⟨A',c',w',hrun,hcc,hp,hb⟩
theorem dI {w:World}{A:Option Addr}{xs:List Int}{m c:Nat}(h:PathX w A xs)(h1:xs.length=m)(hm:m≤1000)(x:Int)
  {ops:Array Oper} {rest:List Oper} {o:Oper} {a:Act} {Q:Exit→Act→World→Prop} (hgd:o.guard=none) (s t:Operand)
  (ho : o.op = .call { callee := .builtin .append, args := #[s, t], argTypes := #[39, 39] }) (hs : a.eval s = .slice (some ⟨w.heap.size, 0, none⟩) 1 1) (hx : a.eval t = .slice A m c)
  (hk : ∀ A' c' w', m + 1 ≤ c' → PathX w' A' (x :: xs) → Bw w w' → wpList prog ops Q rest (a.put o.dst (.slice A' (m + 1) c')) w') :
  wpList prog ops Q (o::rest) a (w.alloc (.cells #[.int .i64 x] 3)):=by
 refine wpList_plain hgd fun K hK=>?_
 obtain ⟨A',c',w',hrun,h0,h2,h3⟩:=tP (c:=c) h h1 hm x o.type;unfold Oper.wp execOp
 simp only [ho,resolve,invoke,builtin,Sem.run_bind,Sem.run_pure,Result.andThen_ok,List.map_toArray,List.map_cons,List.map_nil,hs,hx,hrun]
 exact hK _ _ (hk A' c' w' h0 h2 h3)
def WayPost (o:Option (List Int))(d:Nat)(w:World)(e:Ending)(w':World):Prop:=
 ∃A m c,e = .returned (.tuple #[.slice A m c,.bool o.isSome])∧m≤d∧m≤c∧(∀p,o=some p→m=p.length∧PathX w' A p)∧Bw w w'
theorem WayPost.some_ {p:List Int}{d:Nat}{w:World}{e:Ending}{w':World}(h:WayPost (some p) d w e w') :
  ∃A m c,e = .returned (.tuple #[.slice A m c,.bool true])∧m≤d∧m≤c∧m=p.length∧PathX w' A p∧Bw w w':=by
 obtain ⟨A,m,c,he,h1,h2,h3,h4⟩:=h;exact ⟨A,m,c,he,h1,h2,(h3 p rfl).1,(h3 p rfl).2,h4⟩
theorem WayPost.none_ {d:Nat}{w:World}{e:Ending}{w':World}(h:WayPost none d w e w') :
  ∃A m c,e = .returned (.tuple #[.slice A m c,.bool false])∧Bw w w':=by
 obtain ⟨A,m,c,he,h1,h2,h3,h4⟩:=h;exact ⟨A,m,c,he,h4⟩
theorem outP_no:(∀t,(dB t=none↔nrm t=true))∧(∀(ts:List Tm) (i:Int),(iU i ts=none↔aDk ts=true)):=by
 refine bO (fun k n ks ih=>?_) (fun i=>?_) (fun t ts h1 h2 i=>?_)
 ·rw [dB,nrm];split
  ·rename_i h
   rw [ih 0,h];simp
  ·rename_i h
   simp [h]
 ·simp [iU,aDk]
 ·rw [iU,aDk,Bool.and_eq_true,← h1,← h2 (i+1)];cases dB t<;>simp
theorem aCz {ks:List Tm}{p:List Int}:∀{j:Nat} {i:Int},(∀t,t∈ks.take j→nrm t=true)→(hj:j<ks.length)→dB ks[j]=some p→iU i ks=some ((i+j)::p):=by
 induction ks with
 | nil=>intro j i _ hj;exact absurd hj (Nat.not_lt_zero _)
 | cons t ts ih=>
  intro j i hall hj hp;cases j with
  | zero=>rw [iU];simp at hp;rw [hp];simp
  | succ j=>
   have h0:dB t=none:=(outP_no.1 t).2 (hall t (by simp));rw [iU,h0];have:=ih (j:=j) (i:=i+1) (fun u hu=>hall u (by simp [hu])) (by simpa using hj) (by simpa using hp);rw [this];simp;omega
theorem sA (N:Nat):∀(d:Nat) (k n:Int) (ks:List Tm) (A:Option Addr) (c:Nat) (w:World),d≤30→aH ks<N→shape d (.mk k n ks)=true→aH ks≤1099511627775→Rd w A 0 ks→
  Calls prog 41 #[.agg (Ro k n A ks.length c)] w (WayPost (dB (.mk k n ks)) d w):=by
 induction N with
 | zero=>intro d k n ks A c w _ hN;exact absurd hN (Nat.not_lt_zero _)
 | succ N ih=>
 intro d k n ks A c w hd hN hsh hM hr;have hlen:=aQ ks;obtain ⟨d,rfl⟩:∃d',d=d'+1:=by cases d with|zero=>simp [shape] at hsh|succ d=>exact ⟨d,rfl⟩
 obtain ⟨ha,hm1,hm2,hkids⟩:=(bA d k n ks).1 hsh;have hkids:=aD hkids;have ha':=aD ha;clear ha hm1 hm2 hsh;by_cases hrd:cH k ks=0
 ·have hz:dB (.mk k n ks)=iU 0 ks:=by rw [dB,if_pos hrd]
  rw [hz];have hrd':=aD hrd;clear hz;generalize hoo:iU 0 ks=oo
  have hoo':=aD hoo;clear hoo;go_enter func41,ntmps41;go_wp2_with (go_at_call 63;refine (cU k n ks A c _ (by omega) ha'.out (hr.alloc _)).mono ?_;rw [hrd];rintro e w1 ⟨rfl,hb1⟩;have hB1:=(aC w 25 (Ro k n A ks.length c) rfl).keep hb1;obtain ⟨p10,p11,p12⟩:=hB1.three;replace hb1:=bw1.trans (hb1.mono (by simp)))
  go_loopw [14] (fun i wr=>∃j:Nat,j≤ks.length∧i = .int .i64 j∧Hid (∀t,t∈ks.take j→nrm t=true)∧Bw w wr)
   (fun i _=>ks.length - (intOf i).toNat)
  case atStart=>exact ⟨0,Nat.zero_le _,rfl,aD (by simp),hb1⟩
  case round=>
   obtain ⟨j,hj,rfl,hall,hb⟩:=hrel;by_cases hlt:j<ks.length
   ·obtain ⟨b,off,k1,n1,ks1,A1,c1,rfl,hkj,hc1,hc2,hc3,hl1,hr1⟩:=(hr.below hb).at_ hlt;have hsz:=cM (iS hlt);have hs1:=hkids.out _ (iS hlt);rw [hkj] at hsz hs1;simp only [Tm.size] at hsz
    have H3:=aD hkj;have H4:=aD hs1;clear hkj hs1;cases ho1:dB (.mk k1 n1 ks1) with
    | none=>
     have hn1:nrm (.mk k1 n1 ks1)=true:=(outP_no.1 _).1 ho1;have hn1':=aD hn1;have ho1':=aD ho1;clear ho1 hn1;go_wp2_with (go_at_call 41;refine (ih d k1 n1 ks1 A1 c1 _ (by omega) (by omega) H4.out (by omega) (hr1.alloc _)).mono ?_;rw [ho1'.out];intro e w3 hp;obtain ⟨A3,m3,c3,rfl,hb3⟩:=hp.none_;replace hb3:=bw1.trans (hb3.mono (by simp)))
     go_roundw
     case rel=>exact ⟨j+1,hlt,by go_num,aD (aFg hlt hall.out (by rw [H3.out];exact hn1'.out)),hb.trans (hb3.mono hb.size)⟩
     case measure=>simp [intOf];omega
    | some p1=>
     have ho1':=aD ho1;clear ho1;go_wp2_with (first|(go_at_call 41;refine (ih d k1 n1 ks1 A1 c1 _ (by omega) (by omega) H4.out (by omega) (hr1.alloc _)).mono ?_;rw [ho1'.out];intro e w3 hp;obtain ⟨A3,m3,c3,rfl,hm3,hc3',hm3e,hp3,hb3⟩:=hp.some_;have hm3e':=aD hm3e.symm;clear hm3e;replace hb3:=bw1.trans (hb3.mono (by simp)))|(at_builtin;refine dI hp3 hm3e'.out (by omega) _ rfl _ _ rfl rfl rfl ?_;intro A4 c4 w4 hcc4 hp4 hb4))
     go_ret2
     have hfin:=aCz (i:=0) hall.out hlt (by rw [H3.out];exact ho1'.out);rw [hoo'.out] at hfin;refine ⟨A4,m3+1,c4,by rw [hfin];rfl,by omega,hcc4,?_,hb.trans ((hb3.trans (hb4.mono hb3.size)).mono hb.size)⟩;intro p hp;rw [hfin] at hp;injection hp with hp;subst hp;refine ⟨by rw [List.length_cons,hm3e'.out],by simpa using hp4⟩
   ·have hje:j=ks.length:=by omega
    go_wp2_with fail
    go_ret2
    have ha:=hall.out;rw [hje,List.take_length] at ha;have h2:oo=none:=by rw [← hoo'.out];exact (outP_no.2 ks 0).2 ((aEz ks).2 ha)
    refine ⟨none,0,0,by rw [h2];rfl,by omega,pS _,fun p hp=>(by rw [h2] at hp;cases hp),hb⟩
 ·have hne:(cH k ks != 0)=true:=by simpa using hrd
  have hz:dB (.mk k n ks)=some []:=by rw [dB,if_neg hrd]
  rw [hz];have H:=aD hrd;clear hrd hz;go_enter func41,ntmps41;go_wp2_with (go_at_call 63;refine (cU k n ks A c _ (by omega) ha'.out (hr.alloc _)).mono ?_;rintro e w1 ⟨rfl,hb1⟩;replace hb1:=bw1.trans (hb1.mono (by simp)))
  go_ret2
  exact ⟨none,0,0,rfl,by omega,pS _,fun p hp=>(by injection hp with hp;subst hp;exact ⟨rfl,PathX.nil⟩),hb1⟩
theorem eO {S:World→Prop}{K:Act→World→Prop}{Q:Exit→Act→World→Prop}{a:Act}{w:World}(h:∀wx,wx=w→rJ S K Q .normal a wx):rJ S K Q .normal a w:=h w rfl
def aXb (p:Nat→Prop)(w:World)(t:Tm)(e:Ending)(w':World):Prop:=
 ∃A c,e = .returned (.agg (Ro t.k t.n A t.ks.length c))∧t.ks.length≤9223372036854775807∧RdP (fun b=>p b∨w.heap.size≤b) w' A 0 t.ks∧Bw w w'
theorem aIp {p:Nat→Prop}{w:World}{k n:Int}{ks:List Tm}{e:Ending}{w':World}(h:aXb p w (.mk k n ks) e w'):∃A c,e = .returned (.agg (Ro k n A ks.length c))∧ks.length≤9223372036854775807∧RdP (fun b=>p b∨w.heap.size≤b) w' A 0 ks∧Bw w w':=h
theorem aJp {b off cp:Nat}{is:List Int}{x:Int}{w0:World}(hcp:is.length+1≤cp)(hi:RdI w0 (some ⟨b,off,none⟩) (x::is)) :
  ∃off',(∀w,(Instr.sliceAt 39 (.slice (some ⟨b,off,none⟩) (is.length+1) cp) (some (.int .i64 1)) none none).run prog w = .ok (.slice (some ⟨b,off',none⟩) is.length (cp - 1)) w)∧RdI w0 (some ⟨b,off',none⟩) is:=by
 have hu:prog.underlying 39=some (.slice (prog.elem 39)):=by kernel_rfl
 have he:prog.elem 39=3:=by kernel_rfl
 have hs:∀w,(sizeOf 3).run prog w = .ok 1 w:=fun w=>by kernel_rfl
 refine ⟨if cp=1 then off else off+1,fun w=>?_,fun j hj=>?_⟩
 ·rw [run_sliceAt_slice (t:=39) (h:=hu),run_slice_l (t:=39) (ht:=hu) (h0:=by omega) (h1:=by omega),he,hs];simp only [Result.andThen,sliced]
  by_cases h:cp=1
  ·simp [h]
  ·simp [h,Addr.add]
 ·obtain ⟨b1,off1,hA,hc⟩:=hi (j+1) (by simpa using hj);injection hA with hA;injection hA with e1 e2;subst e1 e2;refine ⟨_,_,rfl,?_⟩;rw [if_neg (by omega)];rw [show off+1+j=off+(j+1) from by omega];simpa using hc
theorem aDt (p:Nat→Prop)(ku nu:Int)(us:List Tm)(hus:aH us≤1000000):∀(xs:List Int) (k n:Int) (ks:List Tm) (A:Option Addr) (c:Nat) (P:Option Addr) (cp:Nat) (U:Option Addr) (cu:Nat) (w:World) (u0:Tm),lC (.mk k n ks) xs=some u0→xs.length≤cp→aH ks≤1000000→RdP p w A 0 ks→RdI w P xs→RdP p w U 0 us→(∀b,p b→b<w.heap.size)→
  Calls prog 87 #[.agg (Ro k n A ks.length c),.slice P xs.length cp,.agg (Ro ku nu U us.length cu)] w (aXb p w (iT (.mk k n ks) xs (.mk ku nu us)))
 | [],k,n,ks,A,c,P,cp,U,cu,w,u0,h,hcp,hM,hr,hi,hru,hpw=>by
  have hlu:=aQ us;rw [iT];go_enter func87,ntmps87;go_wp2_with fail
  refine bodyPost_ret (v:=.agg (Ro ku nu U us.length cu)) (by simp [results,results87,go_sem]) rfl ⟨U,cu,rfl,by simp [Tm.ks];omega,?_,?_⟩
  ·exact (((hru.alloc _).alloc _).alloc _).mono (fun b h=>Or.inl h)
  ·exact bw3
 | x::is,k,n,ks,A,c,P,cp,U,cu,w,u0,h,hcp,hM,hr,hi,hru,hpw=>by
  have hlen:=aQ ks;have hlu:=aQ us;rw [lC] at h;split at h
  case isFalse=>cases h
  rename_i hh
  have hx2:x<ks.length:=hh.2;obtain ⟨i,rfl⟩:∃i:Nat,x=(i:Int):=⟨x.toNat,by omega⟩;have hik:i<ks.length:=by omega
  have h0:=aD h;clear h hh;obtain ⟨b3,o3,k3,n3,ks3,A3,c3,rfl,hkj,hc1,hc2,hc3,hl3,hr3⟩:=hr.at_ hik;have hsz:=cM (iS hik);rw [hkj] at hsz;simp only [Tm.size] at hsz
  have e3:ks.getD (i:Int).toNat default = .mk k3 n3 ks3:=by rw [Int.toNat_natCast,List.getD_eq_getElem?_getD,oE hik,Option.getD_some,hkj]
  have h1:lC (.mk k3 n3 ks3) is=some u0:=by have:=h0.out;rw [show (Tm.mk k n ks).kids=ks from rfl,e3] at this;exact this
  have h1':=aD h1;obtain ⟨b,off,rfl,hp0⟩:=hi 0 (by simp);obtain ⟨off',ht,hti⟩:=aJp (by simpa using hcp) hi;simp only [List.getElem_cons_zero,Nat.add_zero] at hp0
  obtain ⟨pk,pn,pks,hput⟩:∃pk pn pks,iT (.mk k3 n3 ks3) is (.mk ku nu us) = .mk pk pn pks:=by cases iT (.mk k3 n3 ks3) is (.mk ku nu us) with|mk a b c=>exact ⟨a,b,c,rfl⟩
  have hput':=aD hput;have hres:iT (.mk k n ks) ((i:Int)::is) (.mk ku nu us) = .mk k n (ks.set i (.mk pk pn pks)):=by rw [iT,e3,hput,Int.toNat_natCast]
  have hres':=aD hres;have hcp':is.length+1≤cp:=by simpa using hcp
  have q3:(((is.length:Nat):Int)+1==0)=false:=by simp;omega
  have q4:(0:Int)<((is.length:Nat):Int)+1:=by omega
  have hlk:(i:Int)<(ks.length:Int):=by omega
  clear h1 hput hres e3 hkj hx2;rw [List.length_cons];go_enter func87,ntmps87;go_wp2_with fail
  refine rL (show Blk _ w.heap.size (Ro k n (some ⟨b3,o3,none⟩) ks.length c) from (((aC _ 25 _ rfl).alloc _).alloc _)) (show Blk _ (w.heap.size+1) (Ro ku nu U us.length cu) from ((aC _ 25 _ (by simp)).alloc _)) (show Blk _ (w.heap.size+1+1) Zr from (aC _ 25 _ (by simp))) bw3 ?_;intro wx h0x h1x h2x bx hwx;have lx:=h2x.lt;clear hwx;have rx:=hr.below bx;obtain ⟨g0,g1,g2⟩:=iD h0x;go_cut [7] (fun s7 wy=>∃(g7 g c7:Nat) (q:Nat→Prop),s7 = .pointer (some ⟨g7,0,none⟩)∧Blk wy g7 (Ro k n (some ⟨g,0,none⟩) ks.length c7)∧RowT q wy g ks∧¬q g∧(∀b,q b→p b∨wx.heap.size≤b)∧Bw wx wy∧wx.heap.size≤g7∧wx.heap.size≤g∧g≠g7)
  case first=>
   refine dX wx [7,9] [0,1,2,3,4,5] 10 4 (lT:=[_,_,_,_,_,_]) ?_;intro q0 bq0;refine bV (aD ?_);refine kX 6 8 ?_ ?_
   ·have swq1:=bq0.size;go_wp2_with (go_at_call 116;refine (nM p ks _ c _ (by omega) (rx.below bq0) (fun b hb=>by have:=hpw b hb;omega)).mono ?_;rintro e q1 ⟨A7,c7,rfl,hPq1,hbq1⟩;obtain ⟨g,rfl,-,hBg,hgl,hRq1⟩:=hPq1.rowS (by omega))
    refine aY bq0 hbq1 ?_;intro bq1 lq1;refine eS [7] 2 (lT:=[_]) ?_;refine bV (aD ?_);refine bG 8 ?_
    ·have szq2:=bq1.size;go_wp2_with fail
     refine eO ?_;intro q2 hn;have bq2:Bw wx q2:=by rw [hn];exact bq1.alloc szq2 _
     have zq2:Blk q2 q1.heap.size Zr:=by rw [hn];exact aC _ 25 _ rfl
     have eq2:q2.heap.size=q1.heap.size+1:=by rw [hn];simp
     have kq2:Bw q1 q2:=by rw [hn];exact bw1
     have seq2:q1.heap.size<q2.heap.size:=by omega
     clear hn eq2;have Rq2:=hRq1.below kq2;refine aP bq2 ?_;refine cD [9] (lB:=[_]) ?_;obtain ⟨d0,d1,d2,e0,e1,e2,szl⟩:=dA zq2;have szb:wx.heap.size≤q1.heap.size:=by first|exact bq0.size|exact bq1.size
     have sxx:=bx.size;have hgb:wx.heap.size≤g:=by have:=bq0.size;omega
     have hgz:g≠q1.heap.size:=by omega
     have hnz:¬((p q1.heap.size∨q0.heap.size≤q1.heap.size)∧q1.heap.size<q1.heap.size∧q1.heap.size≠g):=by
      rintro ⟨h|h,h2,-⟩
      ·have:=hpw _ h;omega
      ·omega
     go_wp2_with fail
     go_meet
     exact ⟨q1.heap.size,g,c7,_,rfl,((zq2.set_ 0 _).set_ 1 _).set_ 2 _,((Rq2.setCell (a:=⟨q1.heap.size,0,none⟩) hnz hgz _).setCell (a:=⟨q1.heap.size,1,none⟩) hnz hgz _).setCell (a:=⟨q1.heap.size,2,none⟩) hnz hgz _,(fun h=>h.2.2 rfl),(fun b hb=>hb.1.imp id fun h=>Nat.le_trans (by have:=bq0.size;omega) h),(bT bq2),szb,hgb,hgz⟩
   ·have szq3:=bq0.size;go_wp2_with fail
    refine eO ?_;intro q3 hn;have bq3:Bw wx q3:=by rw [hn];exact bq0.alloc szq3 _
    have zq3:Blk q3 q0.heap.size Zr:=by rw [hn];exact aC _ 25 _ rfl
    have eq3:q3.heap.size=q0.heap.size+1:=by rw [hn];simp
    have kq3:Bw q0 q3:=by rw [hn];exact bw1
    have seq3:q0.heap.size<q3.heap.size:=by omega
    clear hn eq3;refine aP bq3 ?_;refine bG 6 ?_
    ·have swq4:=bq3.size;have szzq4:=zq3.lt;go_wp2_with (go_at_call 116;refine (nM p ks _ c _ (by omega) (rx.below bq3) (fun b hb=>by have:=hpw b hb;omega)).mono ?_;rintro e q4 ⟨A7,c7,rfl,hPq4,hbq4⟩;obtain ⟨g,rfl,-,hBg,hgl,hRq4⟩:=hPq4.rowS (by omega))
     have zq4:=zq3.keep hbq4;refine aY bq3 hbq4 ?_;intro bq4 lq4;refine eS [7] 1 (lT:=[_]) ?_;refine bV (aD ?_);refine cD [9] (lB:=[_]) ?_;obtain ⟨d0,d1,d2,e0,e1,e2,szl⟩:=dA zq4;have szb:wx.heap.size≤q0.heap.size:=by first|exact bq0.size|exact bq0.size
     have sxx:=bx.size;have hgb:wx.heap.size≤g:=by have:=bq3.size;omega
     have hgz:g≠q0.heap.size:=by omega
     have hnz:¬((p q0.heap.size∨q3.heap.size≤q0.heap.size)∧q0.heap.size<q4.heap.size∧q0.heap.size≠g):=by
      rintro ⟨h|h,h2,-⟩
      ·have:=hpw _ h;omega
      ·omega
     go_wp2_with fail
     go_meet
     exact ⟨q0.heap.size,g,c7,_,rfl,((zq4.set_ 0 _).set_ 1 _).set_ 2 _,((hRq4.setCell (a:=⟨q0.heap.size,0,none⟩) hnz hgz _).setCell (a:=⟨q0.heap.size,1,none⟩) hnz hgz _).setCell (a:=⟨q0.heap.size,2,none⟩) hnz hgz _,(fun h=>h.2.2 rfl),(fun b hb=>hb.1.imp id fun h=>Nat.le_trans (by have:=bq3.size;omega) h),(bT bq4),szb,hgb,hgz⟩
  case rest=>
   obtain ⟨g7,g,c7,q,rfl,hT7,hRow,hqg,hqp,hxy,hg7,hg,hgne⟩:=hcut;clear g0 g1 g2;go_upto_region 4 with fail
   refine aN ?_;intro wy hwy;subst hwy;have sxy:=hxy.size;have by_:Bw w wy:=bx.trans (hxy.mono bx.size);have h0y:=h0x.keep hxy;have h1y:=h1x.keep hxy;have h2y:=h2x.keep hxy;have ruy:=hru.below by_;have r3y:=hr3.below by_;have hiy:=hti.below by_;obtain ⟨g0,g1,g2⟩:=iD h0y;obtain ⟨v0,v1,v2⟩:=iD h1y;have u0':=aF hT7.three.1;have u1':=aF hT7.three.2.1;have u2':=aF hT7.three.2.2;have y0:=aF ((bU by_) _ _ hc1);have y1:=aF ((bU by_) _ _ hc2);have y2:=aF ((bU by_) _ _ hc3);have p0:=aF ((bU by_) _ _ hp0);have htk:=aD (fun w=>ht w);clear hc1 hc2 hc3 hp0;refine bK (fun w'=>Bw wy w') [0,1,2,3,4,5,6,7,8,9,10,11,12,13,14] [15] [16,17] [_,_,_,_,_,_,_,_,_,_,_,_,_,_,_] [_] [_,_] (by kernel_rfl) (by kernel_rfl) rfl rfl rfl (fun _ _ d _ _ h=>by cases d<;>exact h) (fG _ _).drew ?_;refine bV (aD ?_);refine bF ?_;clear g0 g1 g2 v0 v1 v2 y0 y1 y2 p0 ht u0' u1' u2';have lg7:=hT7.lt;have lg:=hRow.1.lt;go_wp2_with (go_at_call 87;refine (aDt p ku nu us hus is k3 n3 ks3 A3 c3 (some ⟨b,off',none⟩) (cp - 1) U cu wy.drew u0 h1'.out (by omega) (by omega) r3y.drew (hiy.below (fG _ _).drew) ruy.drew (fun b hb=>by have:=hpw b hb;show b<wy.heap.size;omega)).mono ?_;rw [hput'.out];intro e w1 hgo;obtain ⟨A1,c1,rfl,hl1,hq1,hb1⟩:=aIp hgo;have b1:Bw wy w1:=(fG _ _).drew.trans hb1)
   refine aP b1 (cZ ?_);have s1:=b1.size;have hT7a:=hT7.keep b1;have h2a:=h2y.keep b1;have hRow1:=hRow.below b1;obtain ⟨a0,ha0⟩:=hRow1.1.cell (j:=i*3) (by omega);obtain ⟨a1,ha1⟩:=hRow1.1.cell (j:=i*3+1) (by omega);obtain ⟨a2,ha2⟩:=hRow1.1.cell (j:=i*3+2) (by omega);have z0:=hRow1.1.frozen (i*3);have z1:=hRow1.1.frozen (i*3+1);have z2:=hRow1.1.frozen (i*3+2);have q1:¬(fun b=>p b∨wy.heap.size≤b) g:=by rintro (h|h);have:=hpw _ h;have:=bx.size;omega;omega
   have hfin:=hRow1.1.set hqg hik (cu:=c1) hl1 hq1 q1 (r:=fun b=>p b∨wx.heap.size≤b) (fun b hb=>hqp b hb) (fun b hb=>hb.imp id fun h=>Nat.le_trans sxy h) (.inr hg) (ku:=pk) (nu:=pn);obtain ⟨t0,t1,t2⟩:=hT7a.three;obtain ⟨d0,d1,d2,e0,e1,e2⟩:=bW h2a;have sx0:=bx.size;have n1:g≠w.heap.size+1+1:=by omega
   have n2:g7≠w.heap.size+1+1:=by omega
   go_wp2_with fail
   have hnr:∀o,¬(fun b=>p b∨wx.heap.size≤b) (⟨w.heap.size+1+1,o,none⟩:Addr).block:=by
    rintro o (h|h)
    ·have:=hpw _ h;simp at this;omega
    ·simp at h;omega
   refine bodyPost_ret (v:=.agg (Ro k n (some ⟨g,0,none⟩) ks.length c7)) (by simp [results,results87,go_sem,d0,d1,d2,n1,n2]) rfl ?_;rw [hres'.out];refine ⟨some ⟨g,0,none⟩,c7,by simp [Tm.ks,Tm.k,Tm.n],by simp [Tm.ks];omega,?_,?_⟩
   ·exact (((hfin.setCell (hnr 0) _).setCell (hnr 1) _).setCell (hnr 2) _).mono (fun b h=>h.imp id fun h=>by omega)
   ·have hbb:=by_.trans (b1.mono by_.size);exact (((((hbb.setCell (by simp;omega) _).setCell (by simp;omega) _).setCell (by simp;omega) _).setCell (by simp;omega) _).setCell (by simp;omega) _).setCell (by simp;omega) _
theorem kC (N:Nat):∀(k n:Int) (ks:List Tm) (A:Option Addr) (c:Nat) (w:World),aH ks<N→aH ks≤1099511627776→Rd w A 0 ks→
  Calls prog 61 #[.agg (Ro k n A ks.length c)] w (uO w k n ks):=by
 induction N with
 | zero=>intro k n ks A c w hN;exact absurd hN (Nat.not_lt_zero _)
 | succ N ih=>
 intro k n ks A c w hN hM hr;have hlen:=aQ ks;go_enter func61,ntmps61;go_wp2_with fail
 go_loopw [14] (fun i wr=>∃(j:Nat) (v:Value),j≤ks.length∧i = .int .i64 j∧Part (w.heap.size+3) wr v (ks.take j)∧Blk wr (w.heap.size+1+1) #[.int .i64 k,.int .i64 n,v]∧Blk wr (w.heap.size+1) Zr∧Bw w wr)
  (fun i _ => ks.length - (intOf i).toNat)
 case atStart=>exact ⟨0,_,Nat.zero_le _,rfl,Part.nil,aC _ _ _ (by simp),(aC _ _ _ (by simp)).alloc _,bw3⟩
 case round=>
  obtain ⟨j,v,hj,rfl,hp,hB3,hB2,hb⟩:=hrel;by_cases hlt:j<ks.length
  ·obtain ⟨b,off,k',n',ks',A',c',rfl,hkj,hc1,hc2,hc3,hl',hr'⟩:=(hr.below hb).at_ hlt;have hbl:=kY _ _ hc1;have hsz:=cM (iS hlt);rw [hkj] at hsz;simp only [Tm.size] at hsz
   have H3:=aD hkj;clear hkj;have hz:=hB3.lt;have c2:wr.cell? ⟨w.heap.size+1+1,2,none⟩=some v:=hB3.at_ rfl;go_wp2_with fail
   refine aN ?_;intro wx hwx;have hXB:Blk wx wr.heap.size (Ro k' n' A' ks'.length c'):=by rw [hwx];exact aC _ _ _ rfl
   have hpx:Part (w.heap.size+3) wx v (ks.take j):=by rw [hwx];exact hp.alloc _
   have hrx:Rd wx A' 0 ks':=by rw [hwx];exact hr'.alloc _
   have hB3x:Blk wx (w.heap.size+1+1) #[.int .i64 k,.int .i64 n,v]:=by rw [hwx];exact hB3.alloc _
   have hB2x:Blk wx (w.heap.size+1) Zr:=by rw [hwx];exact hB2.alloc _
   have hbx:Bw w wx:=by rw [hwx];exact hb.alloc hb.size _
   have hs1:wr.heap.size<wx.heap.size:=by rw [hwx];simp
   have hs2:w.heap.size+1+1<wx.heap.size:=by omega
   have x2:=hB3x.rule (i:=2) rfl;have y0:=hXB.rule (i:=0) rfl;have y1:=hXB.rule (i:=1) rfl;have y2:=hXB.rule (i:=2) rfl;clear hwx;refine uR (fun w'=>Bw wx w') [0,1,2] [3,4] [5,6,7] [_,_,_] [_,_] [_,_,_] (by kernel_rfl) (by kernel_rfl) rfl rfl rfl (fun _ _ d _ _ h=>by cases d<;>exact h) (fG _ _).drew ?_;repeat (first|((refine aIw (a':=?_) ?_ ?_ ?_);(rotate_left);(· (simp [Region.wanted,yielded];done));(· (simp only [Act.put,List.setIfInBounds_toArray,List.set_cons_zero,List.set_cons_succ];exact rfl)))|((refine aJm (v:=?_) (a':=?_) ?_ ?_ ?_ ?_);(rotate_left 2);(· (simp [Region.wanted,yielded];done));(· (intro w' hS';go_simp;try (with_reducible rfl)));(· (simp only [Act.put,List.setIfInBounds_toArray,List.set_cons_zero,List.set_cons_succ];exact rfl))))
   refine aOy (bF ?_);go_wp2_with (go_at_call 61;refine (ih k' n' ks' A' c' _ (by omega) (by omega) hrx.drew).mono ?_;rintro e w1 ⟨A1,c1,rfl,hl1,hf1,hb1⟩)
   have hx1:Bw wx w1:=(fG wx.heap.size wx).drew.trans hb1;refine aP hx1 (bF ?_);go_wp2_with fail
   refine aP (hx1.alloc hx1.size _) (cZ ?_);refine cL (B:=w.heap.size+3) (m:=j) hpx.drew hb1 (by simp;omega) hf1 hl1 (by simp;omega) (by omega) rfl (.tmp 19) (.tmp 22) rfl rfl rfl ?_;intro A2 c2 w2 hp2 hb2 hg2;have q3:Blk w2 (w.heap.size+1+1) #[.int .i64 k,.int .i64 n,v]:=(hB3x.below hx1 (by omega)).below hb2 (by omega);have q2:Blk w2 (w.heap.size+1) Zr:=(hB2x.below hx1 (by omega)).below hb2 (by omega);have c3:w2.cell? ⟨w.heap.size+1+1,2,none⟩=some v:=q3.at_ rfl;have z3:=q3.frozen 2;have hbf:Bw w w2:=(hbx.trans (hx1.mono (by omega))).trans (hb2.mono (by omega));clear x2 y0 y1 y2 hpx hrx hB3x hB2x hbx;go_wp2_with fail
   go_roundw
   case rel=>exact ⟨j+1,_,by omega,by go_num,by rw [uQ hlt,H3.out];exact hp2.setCell (by simp) _,q3.set_ 2 _,q2.far (by simp) _,hbf.setCell (by simp;omega) _⟩
   case measure=>simp [intOf];omega
  ·have hjl:j=ks.length:=by omega
   subst hjl;rw [List.take_length] at hp;obtain ⟨Ar,cr,rfl,hfr⟩:=hp.fresh;have c0:wr.cell? ⟨w.heap.size+1+1,0,none⟩=some (.int .i64 k):=hB3.at_ rfl;have c1:wr.cell? ⟨w.heap.size+1+1,1,none⟩=some (.int .i64 n):=hB3.at_ rfl;have c2:wr.cell? ⟨w.heap.size+1+1,2,none⟩=some (.slice Ar ks.length cr):=hB3.at_ rfl;have d0:wr.cell? ⟨w.heap.size+1,0,none⟩=some (.int .i64 0):=hB2.at_ rfl;have d1:wr.cell? ⟨w.heap.size+1,1,none⟩=some (.int .i64 0):=hB2.at_ rfl;have d2:wr.cell? ⟨w.heap.size+1,2,none⟩=some (.slice none 0 0):=hB2.at_ rfl;obtain ⟨e0,e1,e2⟩:=lF hB2;go_wp2_with fail
   refine bodyPost_ret (v:=.agg (Ro k n Ar ks.length cr)) (by simp [results,results61,go_sem,d0,d1,d2]) rfl ⟨Ar,cr,rfl,by omega,?_,?_⟩
   ·exact (mU hfr).mono (by omega)
   ·exact bT hb
end Go.Proofs.YtajjhldcjikkpaaGreat
