/- Parts of the proof. No condition. -/
import Derived.Test.YtjlaenhcemacdaaGreatK1
open Go.Proofs.Tryz
namespace Go.Proofs.YtjlaenhcemacdaaGreat
open Go.RowKit
set_option maxHeartbeats 2000000
set_option maxRecDepth 100000
set_option linter.unusedSimpArgs false
set_option linter.unusedVariables false
theorem iY {k m:Int}(h:¬k=m):(k==m)=false:=by simpa using h
def fZ (ks:List Tm)(i:Nat):Int:=(ks.getD i default).k
theorem lL (i:Nat)(ks:List Tm)(h:i<ks.length){k n:Int}{ls:List Tm}(e:ks[i] = .mk k n ls):fZ ks i=k:=by
 simp [fZ,List.getD,qR h,e,Tm.k]
def rdx (k:Int)(ks:List Tm):Int:=
 if k=5 then (if fZ ks 0=4 then 1 else 0) else if k=9 then (if fZ ks 3=7 then 2 else if fZ ks 3=8 then 3 else 0) else
  if k=12 then (if fZ ks 1=11 then 4 else 0) else if k=15 then (if fZ ks 0=14 then 5 else 0) else if k=16 then (if fZ ks 0=14 then 6 else 0) else 0
theorem zL {k:Int}(ks:List Tm)(h:¬(k=5∨k=9∨k=12∨k=15∨k=16)):rdx k ks=0:=by
 unfold rdx;repeat rw [if_neg (by omega)]
theorem dY (k n:Int)(ks:List Tm)(A:Option Addr)(c:Nat)(w:World)(hl:ks.length≤9223372036854775807)(ha:aU k=(ks.length:Int))(hr:Rd w A 0 ks) :
  Calls prog 127 #[.agg (Ro k n A ks.length c)] w fun e w'=>e = .returned (.int .i64 (rdx k ks))∧Bw w w':=by
 by_cases hk:k=5∨k=9∨k=12∨k=15∨k=16
 ·rcases hk with rfl|rfl|rfl|rfl|rfl
  ·have hlen:ks.length=2:=by have:aU 5=2:=rfl;omega
   obtain ⟨b,off,k1,n1,ks1,A1,c1,rfl,hkj,hc1,hc2,hc3,hl1,hr1⟩:=hr.at_ (j:=0) (by omega);have hx:=lL 0 ks (by omega) hkj;have hbl:=mI _ _ hc1;clear hkj hc2 hc3;rw [hlen];simp only [Nat.reduceMul,Nat.zero_mul,Nat.add_zero] at hc1
   by_cases h4:k1=4
   ·subst h4;go_enter func127,ntmps127;go_wp2_with fail
    go_ret
    exact ⟨cL (by rw [rdx];simp [hx, *]),bw1⟩
   ·have n4:=iY h4;go_enter func127,ntmps127;go_wp2_with fail
    go_ret
    exact ⟨cL (by rw [rdx];simp [hx, *]),bw1⟩
  ·have hlen:ks.length=4:=by have:aU 9=4:=rfl;omega
   obtain ⟨b,off,k1,n1,ks1,A1,c1,rfl,hkj,hc1,hc2,hc3,hl1,hr1⟩:=hr.at_ (j:=3) (by omega);have hx:=lL 3 ks (by omega) hkj;have hbl:=mI _ _ hc1;clear hkj hc2 hc3;rw [hlen];simp only [Nat.reduceMul,Nat.zero_mul,Nat.add_zero] at hc1
   by_cases h7:k1=7
   ·subst h7;go_enter func127,ntmps127;go_wp2_with fail
    go_ret
    exact ⟨cL (by rw [rdx];simp [hx, *]),bw1⟩
   ·have n7:=iY h7;by_cases h8:k1=8
    ·subst h8;go_enter func127,ntmps127;go_wp2_with fail
     go_ret
     exact ⟨cL (by rw [rdx];simp [hx, *]),bw1⟩
    ·have n8:=iY h8;go_enter func127,ntmps127;go_wp2_with fail
     go_ret
     exact ⟨cL (by rw [rdx];simp [hx, *]),bw1⟩
  ·have hlen:ks.length=3:=by have:aU 12=3:=rfl;omega
   obtain ⟨b,off,k1,n1,ks1,A1,c1,rfl,hkj,hc1,hc2,hc3,hl1,hr1⟩:=hr.at_ (j:=1) (by omega);have hx:=lL 1 ks (by omega) hkj;have hbl:=mI _ _ hc1;clear hkj hc2 hc3;rw [hlen];simp only [Nat.reduceMul,Nat.zero_mul,Nat.add_zero] at hc1
   by_cases h11:k1=11
   ·subst h11;go_enter func127,ntmps127;go_wp2_with fail
    go_ret
    exact ⟨cL (by rw [rdx];simp [hx, *]),bw1⟩
   ·have n11:=iY h11;go_enter func127,ntmps127;go_wp2_with fail
    go_ret
    exact ⟨cL (by rw [rdx];simp [hx, *]),bw1⟩
  ·have hlen:ks.length=1:=by have:aU 15=1:=rfl;omega
   obtain ⟨b,off,k1,n1,ks1,A1,c1,rfl,hkj,hc1,hc2,hc3,hl1,hr1⟩:=hr.at_ (j:=0) (by omega);have hx:=lL 0 ks (by omega) hkj;have hbl:=mI _ _ hc1;clear hkj hc2 hc3;rw [hlen];simp only [Nat.reduceMul,Nat.zero_mul,Nat.add_zero] at hc1
   by_cases h14:k1=14
   ·subst h14;go_enter func127,ntmps127;go_wp2_with fail
    go_ret
    exact ⟨cL (by rw [rdx];simp [hx, *]),bw1⟩
   ·have n14:=iY h14;go_enter func127,ntmps127;go_wp2_with fail
    go_ret
    exact ⟨cL (by rw [rdx];simp [hx, *]),bw1⟩
  ·have hlen:ks.length=1:=by have:aU 16=1:=rfl;omega
   obtain ⟨b,off,k1,n1,ks1,A1,c1,rfl,hkj,hc1,hc2,hc3,hl1,hr1⟩:=hr.at_ (j:=0) (by omega);have hx:=lL 0 ks (by omega) hkj;have hbl:=mI _ _ hc1;clear hkj hc2 hc3;rw [hlen];simp only [Nat.reduceMul,Nat.zero_mul,Nat.add_zero] at hc1
   by_cases h14:k1=14
   ·subst h14;go_enter func127,ntmps127;go_wp2_with fail
    go_ret
    exact ⟨cL (by rw [rdx];simp [hx, *]),bw1⟩
   ·have n14:=iY h14;go_enter func127,ntmps127;go_wp2_with fail
    go_ret
    exact ⟨cL (by rw [rdx];simp [hx, *]),bw1⟩
 ·have H:=aD hk;have h0:rdx k ks=0:=zL ks hk;have n5:=iY (k:=k) (m:=5) (by omega);have n9:=iY (k:=k) (m:=9) (by omega);have n12:=iY (k:=k) (m:=12) (by omega);have n15:=iY (k:=k) (m:=15) (by omega);have n16:=iY (k:=k) (m:=16) (by omega);clear hk;rw [h0];go_enter func127,ntmps127;go_wp2_with fail
  go_ret
  exact ⟨rfl,bw1⟩
theorem cU (k n:Int)(ks:List Tm)(A:Option Addr)(c:Nat)(w:World)(hl:ks.length≤9223372036854775807)(ha:aU k=(ks.length:Int))(hr:Rd w A 0 ks) :
  Calls prog 110 #[.agg (Ro k n A ks.length c)] w fun e w'=>e = .returned (.int .i64 (rdx k ks))∧Bw w w':=by
 by_cases hk:k=5∨k=9∨k=12∨k=15∨k=16
 ·rcases hk with rfl|rfl|rfl|rfl|rfl
  ·have hlen:ks.length=2:=by have:aU 5=2:=rfl;omega
   obtain ⟨b,off,k1,n1,ks1,A1,c1,rfl,hkj,hc1,hc2,hc3,hl1,hr1⟩:=hr.at_ (j:=0) (by omega);have hx:=lL 0 ks (by omega) hkj;have hbl:=mI _ _ hc1;clear hkj hc2 hc3;rw [hlen];simp only [Nat.reduceMul,Nat.zero_mul,Nat.add_zero] at hc1
   by_cases h4:k1=4
   ·subst h4;go_enter func110,ntmps110;go_wp2_with fail
    go_ret
    exact ⟨cL (by rw [rdx];simp [hx, *]),bw1⟩
   ·have n4:=iY h4;go_enter func110,ntmps110;go_wp2_with fail
    go_ret
    exact ⟨cL (by rw [rdx];simp [hx, *]),bw1⟩
  ·have hlen:ks.length=4:=by have:aU 9=4:=rfl;omega
   obtain ⟨b,off,k1,n1,ks1,A1,c1,rfl,hkj,hc1,hc2,hc3,hl1,hr1⟩:=hr.at_ (j:=3) (by omega);have hx:=lL 3 ks (by omega) hkj;have hbl:=mI _ _ hc1;clear hkj hc2 hc3;rw [hlen];simp only [Nat.reduceMul,Nat.zero_mul,Nat.add_zero] at hc1
   by_cases h7:k1=7
   ·subst h7;go_enter func110,ntmps110;go_wp2_with fail
    go_ret
    exact ⟨cL (by rw [rdx];simp [hx, *]),bw1⟩
   ·have n7:=iY h7;by_cases h8:k1=8
    ·subst h8;go_enter func110,ntmps110;go_wp2_with fail
     go_ret
     exact ⟨cL (by rw [rdx];simp [hx, *]),bw1⟩
    ·have n8:=iY h8;go_enter func110,ntmps110;go_wp2_with fail
     go_ret
     exact ⟨cL (by rw [rdx];simp [hx, *]),bw1⟩
  ·have hlen:ks.length=3:=by have:aU 12=3:=rfl;omega
   obtain ⟨b,off,k1,n1,ks1,A1,c1,rfl,hkj,hc1,hc2,hc3,hl1,hr1⟩:=hr.at_ (j:=1) (by omega);have hx:=lL 1 ks (by omega) hkj;have hbl:=mI _ _ hc1;clear hkj hc2 hc3;rw [hlen];simp only [Nat.reduceMul,Nat.zero_mul,Nat.add_zero] at hc1
   by_cases h11:k1=11
   ·subst h11;go_enter func110,ntmps110;go_wp2_with fail
    go_ret
    exact ⟨cL (by rw [rdx];simp [hx, *]),bw1⟩
   ·have n11:=iY h11;go_enter func110,ntmps110;go_wp2_with fail
    go_ret
    exact ⟨cL (by rw [rdx];simp [hx, *]),bw1⟩
  ·have hlen:ks.length=1:=by have:aU 15=1:=rfl;omega
   obtain ⟨b,off,k1,n1,ks1,A1,c1,rfl,hkj,hc1,hc2,hc3,hl1,hr1⟩:=hr.at_ (j:=0) (by omega);have hx:=lL 0 ks (by omega) hkj;have hbl:=mI _ _ hc1;clear hkj hc2 hc3;rw [hlen];simp only [Nat.reduceMul,Nat.zero_mul,Nat.add_zero] at hc1
   by_cases h14:k1=14
   ·subst h14;go_enter func110,ntmps110;go_wp2_with fail
    go_ret
    exact ⟨cL (by rw [rdx];simp [hx, *]),bw1⟩
   ·have n14:=iY h14;go_enter func110,ntmps110;go_wp2_with fail
    go_ret
    exact ⟨cL (by rw [rdx];simp [hx, *]),bw1⟩
  ·have hlen:ks.length=1:=by have:aU 16=1:=rfl;omega
   obtain ⟨b,off,k1,n1,ks1,A1,c1,rfl,hkj,hc1,hc2,hc3,hl1,hr1⟩:=hr.at_ (j:=0) (by omega);have hx:=lL 0 ks (by omega) hkj;have hbl:=mI _ _ hc1;clear hkj hc2 hc3;rw [hlen];simp only [Nat.reduceMul,Nat.zero_mul,Nat.add_zero] at hc1
   by_cases h14:k1=14
   ·subst h14;go_enter func110,ntmps110;go_wp2_with fail
    go_ret
    exact ⟨cL (by rw [rdx];simp [hx, *]),bw1⟩
   ·have n14:=iY h14;go_enter func110,ntmps110;go_wp2_with fail
    go_ret
    exact ⟨cL (by rw [rdx];simp [hx, *]),bw1⟩
 ·have H:=aD hk;have h0:rdx k ks=0:=zL ks hk;have n5:=iY (k:=k) (m:=5) (by omega);have n9:=iY (k:=k) (m:=9) (by omega);have n12:=iY (k:=k) (m:=12) (by omega);have n15:=iY (k:=k) (m:=15) (by omega);have n16:=iY (k:=k) (m:=16) (by omega);clear hk;rw [h0];go_enter func110,ntmps110;go_wp2_with fail
  go_ret
  exact ⟨rfl,bw1⟩
mutual
def bT (by_:Int):Int→Tm→Tm|cut,.mk k n ks=>.mk k (if k=1∧cut≤n then n+by_ else n) (bN by_ k cut 0 ks)
def bN (by_:Int):Int→Int→Nat→List Tm→List Tm|_,_,_,[]=>[]|k,cut,i,t::ts=>bT by_ (cut+aM k i) t::bN by_ k cut (i+1) ts
end
theorem tJ (by_ k d:Int)(us:List Tm):∀(ts:List Tm) (i:Nat),bN by_ k d i (ts++us)=bN by_ k d i ts++bN by_ k d (i+ts.length) us
 | [],i=>by simp [bN]
 | t::ts,i=>by rw [List.cons_append,bN,bN,tJ by_ k d us ts (i+1),List.cons_append,List.length_cons,show i+1+ts.length=i+(ts.length+1) from by omega]
theorem cO (by_ k d:Int):∀(ts:List Tm) (i:Nat),(bN by_ k d i ts).length=ts.length
 | [],i=>by simp [bN]
 | t::ts,i=>by rw [bN,List.length_cons,List.length_cons,cO by_ k d ts (i+1)]
theorem aIg (by_ k d:Int){ks:List Tm}{j:Nat}(hj:j<ks.length):bN by_ k d 0 (ks.take (j+1))=bN by_ k d 0 (ks.take j)++[bT by_ (d+aM k j) ks[j]]:=by
 rw [tI hj,tJ,List.length_take,Nat.min_eq_left (Nat.le_of_lt hj),Nat.zero_add,bN,bN]
theorem gN (N:Nat):∀(k n:Int) (ks:List Tm) (A:Option Addr) (c:Nat) (by_ cut:Int) (q:Nat) (w:World),aG ks<N→aG ks≤1000000000→shape q (.mk k n ks)=true→-1000≤by_∧by_≤1000→0≤cut→cut+q≤1000→Rd w A 0 ks→
  Calls prog 29 #[.agg (Ro k n A ks.length c),.int .i64 by_,.int .i64 cut] w (qU w k (if k=1∧cut≤n then n+by_ else n) (bN by_ k cut 0 ks)):=by
 induction N with
 | zero=>intro k n ks A c by_ cut q w hN;exact absurd hN (Nat.not_lt_zero _)
 | succ N ih=>
 intro k n ks A c by_ cut q w hN hM hsh hby hc0 hcq hr;have hlen:=aJ ks;obtain ⟨q,rfl⟩:∃q',q=q'+1:=by cases q with|zero=>simp [shape] at hsh|succ q=>exact ⟨q,rfl⟩
 obtain ⟨ha,hm1,hm2,hkids⟩:=(bF q k n ks).1 hsh;by_cases hk:k=1
 ·subst hk;have hks:ks=[]:=by
   have h0:aU 1=0:=rfl;rw [h0] at ha;exact lEn (by omega)
  subst hks;have h20:dG 1=20:=rfl;rw [h20] at hm2;clear hkids hsh ha h20;by_cases hcn:cut≤n
  ·rw [if_pos ⟨rfl,hcn⟩];have q0:decide (cut≤n)=true:=by simpa using hcn
   go_enter func29,ntmps29;go_wp2_with fail
   go_loopw [8] (fun i wr=>i = .int .i64 0∧Blk wr (w.heap.size+1+1) (Ro 1 (n+by_) none 0 0)∧Blk wr (w.heap.size+1) Zr∧Blk wr w.heap.size (Ro 1 n A 0 c)∧Bw w wr)
    (fun _ _=>0)
   case atStart=>exact ⟨rfl,aC _ _ _ (by simp),(aC _ _ _ (by simp)).alloc _,((aC _ _ _ rfl).alloc _).alloc _,bw3⟩
   case round=>
    obtain ⟨rfl,hB3,hB2,hB1,hb⟩:=hrel;have b2:=hB1.at_ (i:=2) rfl;have c0:wr.cell? ⟨w.heap.size+1+1,0,none⟩=some (.int .i64 1):=hB3.at_ rfl;have c1:wr.cell? ⟨w.heap.size+1+1,1,none⟩=some (.int .i64 (n+by_)):=hB3.at_ rfl;have c2:wr.cell? ⟨w.heap.size+1+1,2,none⟩=some (.slice none 0 0):=hB3.at_ rfl;have d0:wr.cell? ⟨w.heap.size+1,0,none⟩=some (.int .i64 0):=hB2.at_ rfl;have d1:wr.cell? ⟨w.heap.size+1,1,none⟩=some (.int .i64 0):=hB2.at_ rfl;have d2:wr.cell? ⟨w.heap.size+1,2,none⟩=some (.slice none 0 0):=hB2.at_ rfl;obtain ⟨e0,e1,e2⟩:=bkf hB2;go_wp2_with fail
    refine bodyPost_ret (v:=.agg (Ro 1 (n+by_) none 0 0)) (by simp [results,results29,go_sem,d0,d1,d2]) rfl ⟨none,0,by simp [bN],by simp [bN],?_,?_⟩
    ·simpa [bN] using (Fresh.nil:Fresh w.heap.size _ none [])
    ·exact bP hb
  ·rw [if_neg (by rintro ⟨-,h⟩;exact hcn h)];have q0:decide (cut≤n)=false:=by simpa using hcn
   go_enter func29,ntmps29;go_wp2_with fail
   go_loopw [8] (fun i wr=>i = .int .i64 0∧Blk wr (w.heap.size+1+1) (Ro 1 (n) none 0 0)∧Blk wr (w.heap.size+1) Zr∧Blk wr w.heap.size (Ro 1 n A 0 c)∧Bw w wr)
    (fun _ _=>0)
   case atStart=>exact ⟨rfl,aC _ _ _ (by simp),(aC _ _ _ (by simp)).alloc _,((aC _ _ _ rfl).alloc _).alloc _,bw3⟩
   case round=>
    obtain ⟨rfl,hB3,hB2,hB1,hb⟩:=hrel;have b2:=hB1.at_ (i:=2) rfl;have c0:wr.cell? ⟨w.heap.size+1+1,0,none⟩=some (.int .i64 1):=hB3.at_ rfl;have c1:wr.cell? ⟨w.heap.size+1+1,1,none⟩=some (.int .i64 (n)):=hB3.at_ rfl;have c2:wr.cell? ⟨w.heap.size+1+1,2,none⟩=some (.slice none 0 0):=hB3.at_ rfl;have d0:wr.cell? ⟨w.heap.size+1,0,none⟩=some (.int .i64 0):=hB2.at_ rfl;have d1:wr.cell? ⟨w.heap.size+1,1,none⟩=some (.int .i64 0):=hB2.at_ rfl;have d2:wr.cell? ⟨w.heap.size+1,2,none⟩=some (.slice none 0 0):=hB2.at_ rfl;obtain ⟨e0,e1,e2⟩:=bkf hB2;go_wp2_with fail
    refine bodyPost_ret (v:=.agg (Ro 1 (n) none 0 0)) (by simp [results,results29,go_sem,d0,d1,d2]) rfl ⟨none,0,by simp [bN],by simp [bN],?_,?_⟩
    ·simpa [bN] using (Fresh.nil:Fresh w.heap.size _ none [])
    ·exact bP hb
 have hkids':=aD hkids;have hm2':=aD hm2;clear hkids ha hsh hm2;have hk':=hk;by_cases hk:k=1
 ·exact absurd hk hk'
 ·have hn:(if k=1∧cut≤n then n+by_ else n)=n:=by rw [if_neg];rintro ⟨h,-⟩;exact hk h
  have q1:(k==1)=false:=by simpa using hk
  rw [hn];clear hn hk;go_enter func29,ntmps29;go_wp2_with fail
  go_loopw [8] (fun i wr=>∃(j:Nat) (v:Value),j≤ks.length∧i = .int .i64 j∧Part (w.heap.size+3) wr v (bN by_ k cut 0 (ks.take j))∧Blk wr (w.heap.size+1+1) #[.int .i64 k,.int .i64 (n),v]∧Blk wr (w.heap.size+1) Zr∧Blk wr w.heap.size (Ro k n A ks.length c)∧Bw w wr)
   (fun i _=>ks.length - (intOf i).toNat)
  case atStart=>exact ⟨0,_,Nat.zero_le _,rfl,Part.nil,aC _ _ _ (by simp),(aC _ _ _ (by simp)).alloc _,((aC _ _ _ rfl).alloc _).alloc _,bw3⟩
  case round=>
   obtain ⟨j,v,hj,rfl,hp,hB3,hB2,hB1,hb⟩:=hrel;have c12:=hB1.at_ (i:=2) rfl;by_cases hlt:j<ks.length
   ·obtain ⟨b,off,k',n',ks',A',c',rfl,hkj,hc1,hc2,hc3,hl',hr'⟩:=(hr.below hb).at_ hlt;have hsz:=cF (iC hlt);have hsk:=hkids'.out _ (iC hlt);rw [hkj] at hsz hsk;simp only [Tm.size] at hsz
    have H3:=aD hkj;have H4:=aD hsk;clear hkj hsk;have hz:=hB3.lt;go_wp2_with fail
    have x2:=hB3.rule (i:=2) rfl;have b0:=hB1.rule (i:=0) rfl;have b2:=hB1.rule (i:=2) rfl;obtain ⟨y0,y1,y2⟩:=qD hc1 hc2 hc3;have hun:=cW k j;refine bL (fun w'=>Bw wr w') [0,1,2,3,4,5,6,7,8,9,10,11,12,13] [14,15] [16,17,18] [_,_,_,_,_,_,_,_,_,_,_,_,_,_] [_,_] [_,_,_] (by kernel_rfl) (by kernel_rfl) rfl rfl rfl (fun _ _ d _ _ h=>by cases d<;>exact h) (eR _ _).drew ?_;repeat (first|((refine kP (a':=?_) ?_ ?_ ?_);(rotate_left);(· (simp [Region.wanted,yielded];done));(· (simp only [List.getElem_toArray,List.getElem_cons_zero,List.getElem_cons_succ,Act.put,List.setIfInBounds_toArray,List.set_cons_zero,List.set_cons_succ];exact rfl)))|((refine kU (v:=?_) (a':=?_) ?_ ?_ ?_ ?_);(rotate_left 2);(· (simp [Region.wanted,yielded];done));(· (intro w' hS';go_simp;try (with_reducible rfl)));(· (simp only [List.getElem_toArray,List.getElem_cons_zero,List.getElem_cons_succ,Act.put,List.setIfInBounds_toArray,List.set_cons_zero,List.set_cons_succ];exact rfl)))|((refine mN (v:=?_) (a':=?_) 44 ?_ ?_ ?_ ?_ ?_ ?_);(rotate_left 3);(· (simp [Region.wanted,yielded];done));(· (intro w' hS';go_simp;try (with_reducible rfl)));(· (intro w' hS';exact nL _ _ _));(· (simp only [List.getElem_toArray,List.getElem_cons_zero,List.getElem_cons_succ,Act.put,List.setIfInBounds_toArray,List.set_cons_zero,List.set_cons_succ];exact rfl))))
    refine mA (bO ?_);obtain ⟨n2,hn2⟩:∃n2,(if k'=1∧cut+aM k j≤n' then n'+by_ else n')=n2:=⟨_,rfl⟩;have hn2':=aD hn2;clear hn2;go_wp2_with (go_at_call 29;refine (ih k' n' ks' A' c' by_ (cut+aM k j) q _ (by omega) (by omega) H4.out hby (by omega) (by omega) hr'.drew).mono ?_;rw [hn2'.out];rintro e w1 ⟨A1,c1,rfl,hl1,hf1,hb1⟩)
    have hx1:Bw wr w1:=(eR _ _).drew.trans hb1;refine aQ hx1 (bO ?_);go_wp2_with fail
    refine aQ (hx1.alloc hx1.size _) (dL ?_);refine eC (B:=w.heap.size+3) (m:=j) hp.drew hb1 (by simp;omega) hf1 hl1 (by rw [cO];simp;omega) (by omega) rfl (.tmp 36) (.tmp 50) rfl rfl rfl ?_;intro A2 c2 w2 hp2 hb2 hg2;have q3:Blk w2 (w.heap.size+1+1) #[.int .i64 k,.int .i64 (n),v]:=(hB3.below hx1 (by omega)).below hb2 (by omega);have q2:Blk w2 (w.heap.size+1) Zr:=(hB2.below hx1 (by omega)).below hb2 (by omega);have q1':Blk w2 w.heap.size (Ro k n (some ⟨b,off,none⟩) ks.length c):=(hB1.below hx1 (by omega)).below hb2 (by omega);have c3:w2.cell? ⟨w.heap.size+1+1,2,none⟩=some v:=q3.at_ rfl;have z3:=q3.frozen 2;have hbf:Bw w w2:=(hb.trans (hx1.mono (by omega))).trans (hb2.mono (by omega));clear x2 y0 y1 y2 b0 b2;go_wp2_with fail
    go_roundw
    case rel=>exact ⟨j+1,_,by omega,by go_num,by rw [aIg by_ k cut hlt,H3.out,bT,hn2'.out];exact hp2.setCell (by simp) _,q3.set_ 2 _,q2.far (by simp) _,q1'.far (by simp;omega) _,hbf.setCell (by simp;omega) _⟩
    case measure=>simp [intOf];omega
   ·have hjl:j=ks.length:=by omega
    subst hjl;rw [List.take_length] at hp;obtain ⟨Ar,cr,rfl,hfr⟩:=hp.fresh;have c0:wr.cell? ⟨w.heap.size+1+1,0,none⟩=some (.int .i64 k):=hB3.at_ rfl;have c1:wr.cell? ⟨w.heap.size+1+1,1,none⟩=some (.int .i64 (n)):=hB3.at_ rfl;have c2:wr.cell? ⟨w.heap.size+1+1,2,none⟩=some (.slice Ar (bN by_ k cut 0 ks).length cr):=hB3.at_ rfl;have d0:wr.cell? ⟨w.heap.size+1,0,none⟩=some (.int .i64 0):=hB2.at_ rfl;have d1:wr.cell? ⟨w.heap.size+1,1,none⟩=some (.int .i64 0):=hB2.at_ rfl;have d2:wr.cell? ⟨w.heap.size+1,2,none⟩=some (.slice none 0 0):=hB2.at_ rfl;obtain ⟨e0,e1,e2⟩:=bkf hB2;go_wp2_with fail
    refine bodyPost_ret (v:=.agg #[.int .i64 k,.int .i64 (n),.slice Ar (bN by_ k cut 0 ks).length cr]) (by simp [results,results29,go_sem,d0,d1,d2]) rfl ⟨Ar,cr,rfl,by rw [cO];omega,?_,?_⟩
    ·exact (tT hfr).mono (by omega)
    ·exact bP hb
end Go.Proofs.YtjlaenhcemacdaaGreat
