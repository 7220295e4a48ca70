/- Parts of the proof. No condition. -/
import Derived.Test.YtjlaenhcemacdaaGreatK8
open Go.Proofs.Tryz
namespace Go.Proofs.YtjlaenhcemacdaaGreat
open Go.RowKit
set_option maxHeartbeats 2000000
set_option maxRecDepth 100000
set_option linter.unusedSimpArgs false
set_option linter.unusedVariables false
mutual
def bX (u:Tm):Int→Int→Tm→Tm
 | x,d,.mk k n ks=>if k=1∧n=x then bT d 0 u else .mk k (if k=1∧x<n then n - 1 else n) (cE u k x d 0 ks)
def cE (u:Tm):Int→Int→Int→Nat→List Tm→List Tm|_,_,_,_,[]=>[]|k,x,d,i,t::ts=>bX u (x+aM k i) (d+aM k i) t::cE u k x d (i+1) ts
end
theorem tO (u:Tm)(k x d:Int)(us:List Tm):∀(ts:List Tm) (i:Nat),cE u k x d i (ts++us)=cE u k x d i ts++cE u k x d (i+ts.length) us
 | [],i=>by simp [cE]
 | t::ts,i=>by rw [List.cons_append,cE,cE,tO u k x d us ts (i+1),List.cons_append,List.length_cons,show i+1+ts.length=i+(ts.length+1) from by omega]
theorem dK (u:Tm)(k x d:Int):∀(ts:List Tm) (i:Nat),(cE u k x d i ts).length=ts.length
 | [],i=>by simp [cE]
 | t::ts,i=>by rw [cE,List.length_cons,List.length_cons,dK u k x d ts (i+1)]
theorem yG (u:Tm)(k x d:Int){ks:List Tm}{j:Nat}(hj:j<ks.length):cE u k x d 0 (ks.take (j+1))=cE u k x d 0 (ks.take j)++[bX u (x+aM k j) (d+aM k j) ks[j]]:=by
 rw [tI hj,tO,List.length_take,Nat.min_eq_left (Nat.le_of_lt hj),Nat.zero_add,cE,cE]
theorem vD (u:Tm){m:Nat}(hm:u.size≤m)(h1:1≤m)(t:Tm):∀x d,(bX u x d t).size≤t.size*m:=by
 refine (bA (p:=fun t=>∀x d,(bX u x d t).size≤t.size*m) (q:=fun ts=>∀k x d i,aG (cE u k x d i ts)≤aG ts*m) ?_ ?_ ?_).1 t
 ·intro k n ks ih x d;rw [bX];split
  ·rw [mC,Tm.size,Nat.add_mul];omega
  ·have:=ih k x d 0;rw [Tm.size,Tm.size,Nat.add_mul];omega
 ·intro k x d i;simp [cE,aG]
 ·intro t ts h1 h2 k x d i;have a:=h1 (x+aM k i) (d+aM k i);have b:=h2 k x d (i+1);rw [cE,aG,aG,Nat.add_mul];omega
theorem uQ (ku nu:Int)(us:List Tm)(hus:shape 30 (.mk ku nu us)=true)(huz:aG us≤1000000)(N:Nat):∀(k n:Int) (ks:List Tm) (A:Option Addr) (c:Nat) (U:Option Addr) (cu:Nat) (x d:Int) (q:Nat) (w:World),aG ks<N→aG ks≤1000000→shape q (.mk k n ks)=true→0≤x→x+q≤900→0≤d→d+q≤900→Rd w A 0 ks→Rd w U 0 us→
  ∀(k2 n2:Int) (ks2:List Tm),bX (.mk ku nu us) x d (.mk k n ks) = .mk k2 n2 ks2→
  Calls prog 92 #[.agg (Ro k n A ks.length c),.int .i64 x,.agg (Ro ku nu U us.length cu),.int .i64 d] w (qU w k2 n2 ks2):=by
 induction N with
 | zero=>intro k n ks A c U cu x d q w hN;exact absurd hN (Nat.not_lt_zero _)
 | succ N ih=>
 intro k n ks A c U cu x d q w hN hM hsh hx0 hxq hd0 hdq hr hru kr nr ksr hfl;have hlen:=aJ ks;obtain ⟨q,rfl⟩:∃q',q=q'+1:=by cases q with|zero=>simp [shape] at hsh|succ q=>exact ⟨q,rfl⟩
 obtain ⟨ha,hm1,hm2,hkids⟩:=(bF q k n ks).1 hsh;rw [bX] at hfl;have hus':=aD hus;by_cases hk:k=1
 ·subst hk;have hks:ks=[]:=by
   have h0:aU 1=0:=rfl;rw [h0] at ha;exact lEn (by omega)
  subst hks;have h20:dG 1=20:=rfl;rw [h20] at hm2;clear hkids hsh ha h20;by_cases hnx:n=x
  ·rw [if_pos ⟨rfl,hnx⟩,bT] at hfl;injection hfl with h1 h2 h3;subst h1 h2 h3;obtain ⟨n2,hn2⟩:∃n2,(if ku=1∧0≤nu then nu+d else nu)=n2:=⟨_,rfl⟩;have hn2':=aD hn2;rw [hn2];clear hn2;subst hnx;go_enter func92,ntmps92;go_wp2_with (go_at_call 29;refine (gN _ ku nu us U cu d 0 30 _ (oH _) (by omega) hus'.out (by omega) (by omega) (by omega) (((hru.alloc _).alloc _).alloc _)).mono ?_;rw [hn2'.out];rintro e w1 ⟨A1,c1,rfl,hl1,hf1,hb1⟩;have hT:Blk w1 (w.heap.size+1+1) Zr:=(aC _ 32 _ (by simp)).keep hb1;obtain ⟨d0,d1,d2,e0,e1,e2⟩:=bW hT;replace hf1:Fresh (w.heap.size+3) w1 A1 (bN d ku 0 0 us):=hf1.mono (by simp);replace hb1:Bw w w1:=bw3.trans (hb1.mono (by simp;omega)))
   refine bodyPost_ret (v:=.agg #[.int .i64 ku,.int .i64 n2,.slice A1 (bN d ku 0 0 us).length c1]) (by simp [results,results92,go_sem,d0,d1,d2]) rfl ⟨A1,c1,by simp,hl1,?_,?_⟩
   ·exact (tT hf1).mono (by omega)
   ·exact bP hb1
  ·rw [if_neg (by rintro ⟨-,h⟩;exact hnx h)] at hfl;have q0:(n==x)=false:=by simpa using hnx
   by_cases hxn:x<n
   ·rw [if_pos ⟨rfl,hxn⟩] at hfl;injection hfl with h1 h2 h3;subst h1 h2 h3;have q2:decide (x<n)=true:=by simpa using hxn
    clear hnx;go_enter func92,ntmps92;go_wp2_with fail
    go_loopw [10] (fun i wr=>i = .int .i64 0∧Blk wr (w.heap.size+1+1+1) (Ro 1 (n - 1) none 0 0)∧Blk wr (w.heap.size+1+1) Zr∧Blk wr w.heap.size (Ro 1 n A 0 c)∧Bw w wr)
     (fun _ _=>0)
    case atStart=>exact ⟨rfl,aC _ _ _ (by simp),(aC _ _ _ (by simp)).alloc _,(((aC _ _ _ rfl).alloc _).alloc _).alloc _,bw4⟩
    case round=>
     obtain ⟨rfl,hB3,hB2,hB1,hb⟩:=hrel;have b2:=hB1.at_ (i:=2) rfl;obtain ⟨c0,c1,c2⟩:=hB3.three;obtain ⟨d0,d1,d2,e0,e1,e2⟩:=bW hB2;go_wp2_with fail
     refine bodyPost_ret (v:=.agg (Ro 1 (n - 1) none 0 0)) (by simp [results,results92,go_sem,d0,d1,d2]) rfl ⟨none,0,by simp [cE],by simp [cE],?_,?_⟩
     ·simpa [cE] using (Fresh.nil:Fresh w.heap.size _ none [])
     ·exact bP hb
   ·rw [if_neg (by rintro ⟨-,h⟩;exact hxn h)] at hfl;injection hfl with h1 h2 h3;subst h1 h2 h3;have q2:decide (x<n)=false:=by simpa using hxn
    clear hnx;go_enter func92,ntmps92;go_wp2_with fail
    go_loopw [10] (fun i wr=>i = .int .i64 0∧Blk wr (w.heap.size+1+1+1) (Ro 1 (n) none 0 0)∧Blk wr (w.heap.size+1+1) Zr∧Blk wr w.heap.size (Ro 1 n A 0 c)∧Bw w wr)
     (fun _ _=>0)
    case atStart=>exact ⟨rfl,aC _ _ _ (by simp),(aC _ _ _ (by simp)).alloc _,(((aC _ _ _ rfl).alloc _).alloc _).alloc _,bw4⟩
    case round=>
     obtain ⟨rfl,hB3,hB2,hB1,hb⟩:=hrel;have b2:=hB1.at_ (i:=2) rfl;obtain ⟨c0,c1,c2⟩:=hB3.three;obtain ⟨d0,d1,d2,e0,e1,e2⟩:=bW hB2;go_wp2_with fail
     refine bodyPost_ret (v:=.agg (Ro 1 (n) none 0 0)) (by simp [results,results92,go_sem,d0,d1,d2]) rfl ⟨none,0,by simp [cE],by simp [cE],?_,?_⟩
     ·simpa [cE] using (Fresh.nil:Fresh w.heap.size _ none [])
     ·exact bP hb
 ·have hn:¬(k=1∧n=x):=by rintro ⟨h,-⟩;exact hk h
  rw [if_neg hn,if_neg (by rintro ⟨h,-⟩;exact hk h)] at hfl;injection hfl with h1 h2 h3;subst h1 h2 h3;have hkids':=aD hkids;have hm2':=aD hm2;clear hkids ha hsh hm2;have q1:(k==1)=false:=by simpa using hk
  clear hn hk;go_enter func92,ntmps92;go_wp2_with fail
  go_loopw [10,11] (fun i _ wr=>∃(j:Nat) (v:Value),j≤ks.length∧i = .int .i64 j∧Part (w.heap.size+4) wr v (cE (.mk ku nu us) k x d 0 (ks.take j))∧Blk wr (w.heap.size+1+1+1) #[.int .i64 k,.int .i64 (n),v]∧Blk wr (w.heap.size+1+1) Zr∧Blk wr (w.heap.size+1) (Ro ku nu U us.length cu)∧Blk wr w.heap.size (Ro k n A ks.length c)∧Bw w wr)
   (fun i _ _=>ks.length - (intOf i).toNat)
  case atStart=>exact ⟨0,_,Nat.zero_le _,rfl,Part.nil,aC _ _ _ (by simp),(aC _ _ _ (by simp)).alloc _,((aC _ _ _ (by simp)).alloc _).alloc _,(((aC _ _ _ rfl).alloc _).alloc _).alloc _,bw4⟩
  case round=>
   obtain ⟨j,v,hj,rfl,hp,hB3,hB2,hBu,hB1,hb⟩:=hrel;have c12:=hB1.at_ (i:=2) rfl;have c10:=hB1.at_ (i:=0) rfl;by_cases hlt:j<ks.length
   ·obtain ⟨b,off,k',n',ks',A',c',rfl,hkj,hc1,hc2,hc3,hl',hr'⟩:=(hr.below hb).at_ hlt;have hsz:=cF (iC hlt);have hsk:=hkids'.out _ (iC hlt);rw [hkj] at hsz hsk;simp only [Tm.size] at hsz
    have H3:=aD hkj;have H4:=aD hsk;clear hkj hsk;have hz:=hB3.lt;obtain ⟨k2,n2,ks2,hct⟩:∃k2 n2 ks2,bX (.mk ku nu us) (x+aM k j) (d+aM k j) (.mk k' n' ks') = .mk k2 n2 ks2:=jF _;have hct':=aD hct;clear hct;have hun:=cW k j;go_wp2_with (go_at_call 44;refine (nL _ _ _).mono ?_;rintro e w9 ⟨rfl,rfl⟩)
    have x2:=hB3.rule (i:=2) rfl;have a0:=hBu.rule (i:=0) rfl;have a1:=hBu.rule (i:=1) rfl;have a2:=hBu.rule (i:=2) rfl;have b2:=hB1.rule (i:=2) rfl;obtain ⟨y0,y1,y2⟩:=qD hc1 hc2 hc3;refine bL (fun w'=>Bw wr w') [0,1,2,3,4,5,6,7,8,9,10,11,12,13] [14,15] [16,17,18] [_,_,_,_,_,_,_,_,_,_,_,_,_,_] [_,_] [_,_,_] (by kernel_rfl) (by kernel_rfl) rfl rfl rfl (fun _ _ d _ _ h=>by cases d<;>exact h) (eR _ _).drew ?_;refine bZ (aD ?_);refine bO ?_;go_wp2_with (go_at_call 92;refine (ih k' n' ks' A' c' U cu (x+aM k j) (d+aM k j) q _ (by omega) (by omega) H4.out (by omega) (by omega) (by omega) (by omega) hr'.drew (hru.below hb).drew k2 n2 ks2 hct'.out).mono ?_;rintro e w1 ⟨A1,c1,rfl,hl1,hf1,hb1⟩)
    have hx1:Bw wr w1:=(eR _ _).drew.trans hb1;refine aQ hx1 (bO ?_);go_wp2_with fail
    refine aQ (hx1.alloc hx1.size _) (dL ?_);refine eC (B:=w.heap.size+4) (m:=j) hp.drew hb1 (by simp;omega) hf1 hl1 (by rw [dK];simp;omega) (by omega) rfl (.tmp 54) (.tmp 68) rfl rfl rfl ?_;intro A2 c2 w2 hp2 hb2 hg2;have q3:Blk w2 (w.heap.size+1+1+1) #[.int .i64 k,.int .i64 (n),v]:=(hB3.below hx1 (by omega)).below hb2 (by omega);have q2:Blk w2 (w.heap.size+1+1) Zr:=(hB2.below hx1 (by omega)).below hb2 (by omega);have qu:Blk w2 (w.heap.size+1) (Ro ku nu U us.length cu):=(hBu.below hx1 (by omega)).below hb2 (by omega);have q1':Blk w2 w.heap.size (Ro k n (some ⟨b,off,none⟩) ks.length c):=(hB1.below hx1 (by omega)).below hb2 (by omega);have c3:w2.cell? ⟨w.heap.size+1+1+1,2,none⟩=some v:=q3.at_ rfl;have z3:=q3.frozen 2;have hbf:Bw w w2:=(hb.trans (hx1.mono (by omega))).trans (hb2.mono (by omega));clear x2 y0 y1 y2 b2 a0 a1 a2;go_wp2_with fail
    go_roundw
    case rel=>exact ⟨j+1,_,by omega,by go_num,by rw [yG _ k x d hlt,H3.out,hct'.out];exact hp2.setCell (by simp) _,q3.set_ 2 _,q2.far (by simp) _,qu.far (by simp) _,q1'.far (by simp;omega) _,hbf.setCell (by simp;omega) _⟩
    case measure=>simp [intOf];omega
   ·have hjl:j=ks.length:=by omega
    subst hjl;rw [List.take_length] at hp;obtain ⟨Ar,cr,rfl,hfr⟩:=hp.fresh;obtain ⟨c0,c1,c2⟩:=hB3.three;obtain ⟨d0,d1,d2,e0,e1,e2⟩:=bW hB2;go_wp2_with fail
    refine bodyPost_ret (v:=.agg #[.int .i64 k,.int .i64 (n),.slice Ar (cE (.mk ku nu us) k x d 0 ks).length cr]) (by simp [results,results92,go_sem,d0,d1,d2]) rfl ⟨Ar,cr,rfl,by rw [dK];omega,?_,?_⟩
    ·exact (tT hfr).mono (by omega)
    ·exact bP hb
end Go.Proofs.YtjlaenhcemacdaaGreat
