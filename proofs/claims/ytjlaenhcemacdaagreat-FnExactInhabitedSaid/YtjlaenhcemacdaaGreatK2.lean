/- Parts of the proof. No condition. -/
import Derived.Test.YtjlaenhcemacdaaGreatK1
open Go.Proofs.Tryz
namespace Go.Proofs.YtjlaenhcemacdaaGreat
open Go.RowKit
set_option maxHeartbeats 2000000
set_option maxRecDepth 100000
set_option linter.unusedSimpArgs false
set_option linter.unusedVariables false
mutual
def bR (by_:Int):Int->Tm->Tm|cut,.mk k n ks=>.mk k (if k=1/\cut<=n then n+by_ else n) (bK by_ k cut 0 ks)
def bK (by_:Int):Int->Int->Nat->List Tm->List Tm|_,_,_,[]=>[]|k,cut,i,t::ts=>bR by_ (cut+aN k i) t::bK by_ k cut (i+1) ts
end
theorem uV (by_ k d:Int)(us:List Tm):∀(ts:List Tm) (i:Nat),bK by_ k d i (ts++us)=bK by_ k d i ts++bK by_ k d (i+ts.length) us
 | [],i=>by simp [bK]
 | t::ts,i=>by rw [List.cons_append,bK,bK,uV by_ k d us ts (i+1),List.cons_append,List.length_cons,show i+1+ts.length=i+(ts.length+1) from by omega]
theorem cT (by_ k d:Int):∀(ts:List Tm) (i:Nat),(bK by_ k d i ts).length=ts.length
 | [],i=>by simp [bK]
 | t::ts,i=>by rw [bK,List.length_cons,List.length_cons,cT by_ k d ts (i+1)]
theorem aJv (by_ k d:Int){ks:List Tm}{j:Nat}(hj:j<ks.length):bK by_ k d 0 (ks.take (j+1))=bK by_ k d 0 (ks.take j)++[bR by_ (d+aN k j) ks[j]]:=by
 rw [tM hj,uV,List.length_take,Nat.min_eq_left (Nat.le_of_lt hj),Nat.zero_add,bK,bK]
theorem gI (N:Nat):∀(k n:Int) (ks:List Tm) (A:Ba) (c:Nat) (by_ cut:Int) (q:Nat) (w:Bb),aG ks<N->aG ks<=1000000000->shape q (.mk k n ks)=true->-1000<=by_/\by_<=1000->0<=cut->cut+q<=1000->Rd w A 0 ks->
  Calls prog 29 #[.agg (Ro k n A ks.length c),.int .i64 by_,.int .i64 cut] w (rQ w k (if k=1/\cut<=n then n+by_ else n) (bK by_ k cut 0 ks)):=by
 induction N with
 | zero=>intro k n ks A c by_ cut q w hN;exact absurd hN (Nat.not_lt_zero _)
 | succ N ih=>
 intro k n ks A c by_ cut q w hN hM hsh hby hc0 hcq hr;have hlen:=aJ ks;obtain ⟨q,rfl⟩:∃q',q=q'+1:=by cases q with|zero=>simp [shape] at hsh|succ q=>exact ⟨q,rfl⟩
 obtain ⟨ha,hm1,hm2,hkids⟩:=(bH q k n ks).1 hsh;by_cases hk:k=1
 ·subst hk;have hks:ks=[]:=by
   have h0:aX 1=0:=rfl;rw [h0] at ha;exact lEn Ac
  subst hks;have h20:dL 1=20:=rfl;rw [h20] at hm2;clear hkids hsh ha h20;by_cases hcn:cut<=n
  ·rw [Av ⟨rfl,hcn⟩];have q0:decide (cut<=n)=true:=by simpa using hcn
   go_enter func29,ntmps29;go_wp2_with fail;go_loopw [8] (λi wr=>i = .int .i64 0/\Blk wr (w.heap.size+1+1) (Ro 1 (n+by_) none 0 0)/\Blk wr (w.heap.size+1) Zr/\Blk wr w.heap.size (Ro 1 n A 0 c)/\Bw w wr)
    (λ_ _=>0)
   case atStart=>exact ⟨rfl,aC _ _ _ Ag,(aC _ _ _ Ag).alloc _,((aC _ _ _ rfl).alloc _).alloc _,bw3⟩
   case round=>
    obtain ⟨rfl,hB3,hB2,hB1,hb⟩:=hrel;have b2:=hB1.at_ (i:=2) rfl;have c0:wr.cell? ⟨w.heap.size+1+1,0,none⟩=some (.int .i64 1):=hB3.at_ rfl;have c1:wr.cell? ⟨w.heap.size+1+1,1,none⟩=some (.int .i64 (n+by_)):=hB3.at_ rfl;have c2:wr.cell? ⟨w.heap.size+1+1,2,none⟩=some (.slice none 0 0):=hB3.at_ rfl;have d0:wr.cell? ⟨w.heap.size+1,0,none⟩=some (.int .i64 0):=hB2.at_ rfl;have d1:wr.cell? ⟨w.heap.size+1,1,none⟩=some (.int .i64 0):=hB2.at_ rfl;have d2:wr.cell? ⟨w.heap.size+1,2,none⟩=some (.slice none 0 0):=hB2.at_ rfl;obtain ⟨e0,e1,e2⟩:=bkf hB2;go_wp2_with fail;refine bodyPost_ret (v:=.agg (Ro 1 (n+by_) none 0 0)) (by simp [results,results29,go_sem,d0,d1,d2]) rfl ⟨none,0,by simp [bK],by simp [bK],?_,?_⟩
    ·simpa [bK] using (Fresh.nil:Fresh w.heap.size _ none [])
    ·exact bV hb
  ·rw [Aw (by rintro ⟨-,h⟩;exact hcn h)];have q0:decide (cut<=n)=false:=by simpa using hcn
   go_enter func29,ntmps29;go_wp2_with fail;go_loopw [8] (λi wr=>i = .int .i64 0/\Blk wr (w.heap.size+1+1) (Ro 1 (n) none 0 0)/\Blk wr (w.heap.size+1) Zr/\Blk wr w.heap.size (Ro 1 n A 0 c)/\Bw w wr)
    (λ_ _=>0)
   case atStart=>exact ⟨rfl,aC _ _ _ Ag,(aC _ _ _ Ag).alloc _,((aC _ _ _ rfl).alloc _).alloc _,bw3⟩
   case round=>
    obtain ⟨rfl,hB3,hB2,hB1,hb⟩:=hrel;have b2:=hB1.at_ (i:=2) rfl;have c0:wr.cell? ⟨w.heap.size+1+1,0,none⟩=some (.int .i64 1):=hB3.at_ rfl;have c1:wr.cell? ⟨w.heap.size+1+1,1,none⟩=some (.int .i64 (n)):=hB3.at_ rfl;have c2:wr.cell? ⟨w.heap.size+1+1,2,none⟩=some (.slice none 0 0):=hB3.at_ rfl;have d0:wr.cell? ⟨w.heap.size+1,0,none⟩=some (.int .i64 0):=hB2.at_ rfl;have d1:wr.cell? ⟨w.heap.size+1,1,none⟩=some (.int .i64 0):=hB2.at_ rfl;have d2:wr.cell? ⟨w.heap.size+1,2,none⟩=some (.slice none 0 0):=hB2.at_ rfl;obtain ⟨e0,e1,e2⟩:=bkf hB2;go_wp2_with fail;refine bodyPost_ret (v:=.agg (Ro 1 (n) none 0 0)) (by simp [results,results29,go_sem,d0,d1,d2]) rfl ⟨none,0,by simp [bK],by simp [bK],?_,?_⟩
    ·simpa [bK] using (Fresh.nil:Fresh w.heap.size _ none [])
    ·exact bV hb
 have hkids':=aD hkids;have hm2':=aD hm2;clear hkids ha hsh hm2;have hk':=hk;by_cases hk:k=1
 ·exact absurd hk hk'
 ·have hn:(if k=1/\cut<=n then n+by_ else n)=n:=by rw [Aw];rintro ⟨h,-⟩;exact hk h
  have q1:(k==1)=false:=by simpa using hk
  rw [hn];clear hn hk;go_enter func29,ntmps29;go_wp2_with fail;go_loopw [8] (λi wr=>∃(j:Nat) (v:Value),j<=ks.length/\i = .int .i64 j/\Part (w.heap.size+3) wr v (bK by_ k cut 0 (ks.take j))/\Blk wr (w.heap.size+1+1) #[.int .i64 k,.int .i64 (n),v]/\Blk wr (w.heap.size+1) Zr/\Blk wr w.heap.size (Ro k n A ks.length c)/\Bw w wr)
   (λi _=>ks.length - (intOf i).toNat)
  case atStart=>exact ⟨0,_,Nat.zero_le _,rfl,Part.nil,aC _ _ _ Ag,(aC _ _ _ Ag).alloc _,((aC _ _ _ rfl).alloc _).alloc _,bw3⟩
  case round=>
   obtain ⟨j,v,hj,rfl,hp,hB3,hB2,hB1,hb⟩:=hrel;have c12:=hB1.at_ (i:=2) rfl;by_cases hlt:j<ks.length
   ·obtain ⟨b,off,k',n',ks',A',c',rfl,hkj,hc1,hc2,hc3,hl',hr'⟩:=(hr.below hb).at_ hlt;have hsz:=cG (gM hlt);have hsk:=hkids'.out _ (gM hlt);rw [hkj] at hsz hsk;simp only [Tm.size] at hsz;have H3:=aD hkj;have H4:=aD hsk;clear hkj hsk;have hz:=hB3.lt;go_wp2_with fail
    have x2:=hB3.rule (i:=2) rfl;have b0:=hB1.rule (i:=0) rfl;have b2:=hB1.rule (i:=2) rfl;obtain ⟨y0,y1,y2⟩:=pG hc1 hc2 hc3;have hun:=dA k j;refine bQ (λw'=>Bw wr w') [0,1,2,3,4,5,6,7,8,9,10,11,12,13] [14,15] [16,17,18] [_,_,_,_,_,_,_,_,_,_,_,_,_,_] [_,_] [_,_,_] (by kernel_rfl) (by kernel_rfl) rfl rfl rfl (λ_ _ d _ _ h=>by cases d<;>exact h) (eI _ _).drew ?_;repeat (first|((refine lU (a':=?_) ?_ ?_ ?_);(rotate_left);(· (simp [Region.wanted,yielded];done));(· (simp only [List.getElem_toArray,List.getElem_cons_zero,List.getElem_cons_succ,Act.put,List.setIfInBounds_toArray,List.set_cons_zero,List.set_cons_succ];exact rfl)))|((refine lM (v:=?_) (a':=?_) ?_ ?_ ?_ ?_);(rotate_left 2);(· (simp [Region.wanted,yielded];done));(· (intro w' hS';go_simp;try (with_reducible rfl)));(· (simp only [List.getElem_toArray,List.getElem_cons_zero,List.getElem_cons_succ,Act.put,List.setIfInBounds_toArray,List.set_cons_zero,List.set_cons_succ];exact rfl)))|((refine oM (v:=?_) (a':=?_) 44 ?_ ?_ ?_ ?_ ?_ ?_);(rotate_left 3);(· (simp [Region.wanted,yielded];done));(· (intro w' hS';go_simp;try (with_reducible rfl)));(· (intro w' hS';exact nR _ _ _));(· (simp only [List.getElem_toArray,List.getElem_cons_zero,List.getElem_cons_succ,Act.put,List.setIfInBounds_toArray,List.set_cons_zero,List.set_cons_succ];exact rfl))))
    refine nL (bO ?_);obtain ⟨n2,hn2⟩:∃n2,(if k'=1/\cut+aN k j<=n' then n'+by_ else n')=n2:=⟨_,rfl⟩;have hn2':=aD hn2;clear hn2;go_wp2_with (go_at_call 29;refine (ih k' n' ks' A' c' by_ (cut+aN k j) q _ Ac Ac H4.out hby Ac Ac hr'.drew).mono ?_;rw [hn2'.out];rintro e w1 ⟨A1,c1,rfl,hl1,hf1,hb1⟩);have hx1:Bw wr w1:=(eI _ _).drew.trans hb1;refine aS hx1 (bO ?_);go_wp2_with fail;refine aS (hx1.alloc hx1.size _) (eB ?_);refine cZ (B:=w.heap.size+3) (m:=j) hp.drew hb1 Ai hf1 hl1 (by rw [cT];simp;omega) Ac rfl (.tmp 36) (.tmp 50) rfl rfl rfl ?_;intro A2 c2 w2 hp2 hb2 hg2;have q3:Blk w2 (w.heap.size+1+1) #[.int .i64 k,.int .i64 (n),v]:=(hB3.below hx1 Ac).below hb2 Ac;have q2:Blk w2 (w.heap.size+1) Zr:=(hB2.below hx1 Ac).below hb2 Ac;have q1':Blk w2 w.heap.size (Ro k n (some ⟨b,off,none⟩) ks.length c):=(hB1.below hx1 Ac).below hb2 Ac;have c3:w2.cell? ⟨w.heap.size+1+1,2,none⟩=some v:=q3.at_ rfl;have z3:=q3.frozen 2;have hbf:Bw w w2:=(hb.trans (hx1.mono Ac)).trans (hb2.mono Ac);clear x2 y0 y1 y2 b0 b2;go_wp2_with fail;go_roundw
    case rel=>exact ⟨j+1,_,by omega,by go_num,by rw [aJv by_ k cut hlt,H3.out,bR,hn2'.out];exact hp2.setCell Ag _,q3.set_ 2 _,q2.far Ag _,q1'.far Ai _,hbf.setCell Ai _⟩
    case measure=>simp [intOf];omega
   ·have hjl:j=ks.length:=by omega
    subst hjl;rw [List.take_length] at hp;obtain ⟨Ar,cr,rfl,hfr⟩:=hp.fresh;have c0:wr.cell? ⟨w.heap.size+1+1,0,none⟩=some (.int .i64 k):=hB3.at_ rfl;have c1:wr.cell? ⟨w.heap.size+1+1,1,none⟩=some (.int .i64 (n)):=hB3.at_ rfl;have c2:wr.cell? ⟨w.heap.size+1+1,2,none⟩=some (.slice Ar (bK by_ k cut 0 ks).length cr):=hB3.at_ rfl;have d0:wr.cell? ⟨w.heap.size+1,0,none⟩=some (.int .i64 0):=hB2.at_ rfl;have d1:wr.cell? ⟨w.heap.size+1,1,none⟩=some (.int .i64 0):=hB2.at_ rfl;have d2:wr.cell? ⟨w.heap.size+1,2,none⟩=some (.slice none 0 0):=hB2.at_ rfl;obtain ⟨e0,e1,e2⟩:=bkf hB2;go_wp2_with fail;refine bodyPost_ret (v:=.agg #[.int .i64 k,.int .i64 (n),.slice Ar (bK by_ k cut 0 ks).length cr]) (by simp [results,results29,go_sem,d0,d1,d2]) rfl ⟨Ar,cr,rfl,by rw [cT];omega,?_,?_⟩
    ·exact (vF hfr).mono Ac
    ·exact bV hb
theorem jO {k m:Int}(h:¬k=m):(k==m)=false:=by simpa using h
def gN (ks:List Tm)(i:Nat):Int:=(ks.getD i default).k
theorem mO (i:Nat)(ks:List Tm)(h:i<ks.length){k n:Int}{ls:List Tm}(e:ks[i] = .mk k n ls):gN ks i=k:=by
 simp [gN,List.getD,sE h,e,Tm.k]
def rdx (k:Int)(ks:List Tm):Int:=
 if k=5 then (if gN ks 0=4 then 1 else 0) else if k=9 then (if gN ks 3=7 then 2 else if gN ks 3=8 then 3 else 0) else
  if k=12 then (if gN ks 1=11 then 4 else 0) else if k=15 then (if gN ks 0=14 then 5 else 0) else if k=16 then (if gN ks 0=14 then 6 else 0) else 0
theorem aCv {k:Int}(ks:List Tm)(h:¬(k=5\/k=9\/k=12\/k=15\/k=16)):rdx k ks=0:=by
 unfold rdx;repeat rw [Aw Ac]
theorem eG (k n:Int)(ks:List Tm)(A:Ba)(c:Nat)(w:Bb)(hl:ks.length<=9223372036854775807)(ha:aX k=(ks.length:Int))(hr:Rd w A 0 ks) :
  Calls prog 127 #[.agg (Ro k n A ks.length c)] w λe w'=>e = .returned (.int .i64 (rdx k ks))/\Bw w w':=by
 by_cases hk:k=5\/k=9\/k=12\/k=15\/k=16
 ·rcases hk with rfl|rfl|rfl|rfl|rfl
  ·have hlen:ks.length=2:=by have:aX 5=2:=rfl;omega
   obtain ⟨b,off,k1,n1,ks1,A1,c1,rfl,hkj,hc1,hc2,hc3,hl1,hr1⟩:=hr.at_ (j:=0) Ac;have hx:=mO 0 ks Ac hkj;have hbl:=kF _ _ hc1;clear hkj hc2 hc3;rw [hlen];simp only [Nat.reduceMul,Nat.zero_mul,Nat.add_zero] at hc1;by_cases h4:k1=4
   ·subst h4;go_enter func127,ntmps127;go_wp2_with fail;go_ret;exact ⟨cN (by rw [rdx];simp [hx, *]),bw1⟩
   ·have n4:=jO h4;go_enter func127,ntmps127;go_wp2_with fail;go_ret;exact ⟨cN (by rw [rdx];simp [hx, *]),bw1⟩
  ·have hlen:ks.length=4:=by have:aX 9=4:=rfl;omega
   obtain ⟨b,off,k1,n1,ks1,A1,c1,rfl,hkj,hc1,hc2,hc3,hl1,hr1⟩:=hr.at_ (j:=3) Ac;have hx:=mO 3 ks Ac hkj;have hbl:=kF _ _ hc1;clear hkj hc2 hc3;rw [hlen];simp only [Nat.reduceMul,Nat.zero_mul,Nat.add_zero] at hc1;by_cases h7:k1=7
   ·subst h7;go_enter func127,ntmps127;go_wp2_with fail;go_ret;exact ⟨cN (by rw [rdx];simp [hx, *]),bw1⟩
   ·have n7:=jO h7;by_cases h8:k1=8
    ·subst h8;go_enter func127,ntmps127;go_wp2_with fail;go_ret;exact ⟨cN (by rw [rdx];simp [hx, *]),bw1⟩
    ·have n8:=jO h8;go_enter func127,ntmps127;go_wp2_with fail;go_ret;exact ⟨cN (by rw [rdx];simp [hx, *]),bw1⟩
  ·have hlen:ks.length=3:=by have:aX 12=3:=rfl;omega
   obtain ⟨b,off,k1,n1,ks1,A1,c1,rfl,hkj,hc1,hc2,hc3,hl1,hr1⟩:=hr.at_ (j:=1) Ac;have hx:=mO 1 ks Ac hkj;have hbl:=kF _ _ hc1;clear hkj hc2 hc3;rw [hlen];simp only [Nat.reduceMul,Nat.zero_mul,Nat.add_zero] at hc1;by_cases h11:k1=11
   ·subst h11;go_enter func127,ntmps127;go_wp2_with fail;go_ret;exact ⟨cN (by rw [rdx];simp [hx, *]),bw1⟩
   ·have n11:=jO h11;go_enter func127,ntmps127;go_wp2_with fail;go_ret;exact ⟨cN (by rw [rdx];simp [hx, *]),bw1⟩
  ·have hlen:ks.length=1:=by have:aX 15=1:=rfl;omega
   obtain ⟨b,off,k1,n1,ks1,A1,c1,rfl,hkj,hc1,hc2,hc3,hl1,hr1⟩:=hr.at_ (j:=0) Ac;have hx:=mO 0 ks Ac hkj;have hbl:=kF _ _ hc1;clear hkj hc2 hc3;rw [hlen];simp only [Nat.reduceMul,Nat.zero_mul,Nat.add_zero] at hc1;by_cases h14:k1=14
   ·subst h14;go_enter func127,ntmps127;go_wp2_with fail;go_ret;exact ⟨cN (by rw [rdx];simp [hx, *]),bw1⟩
   ·have n14:=jO h14;go_enter func127,ntmps127;go_wp2_with fail;go_ret;exact ⟨cN (by rw [rdx];simp [hx, *]),bw1⟩
  ·have hlen:ks.length=1:=by have:aX 16=1:=rfl;omega
   obtain ⟨b,off,k1,n1,ks1,A1,c1,rfl,hkj,hc1,hc2,hc3,hl1,hr1⟩:=hr.at_ (j:=0) Ac;have hx:=mO 0 ks Ac hkj;have hbl:=kF _ _ hc1;clear hkj hc2 hc3;rw [hlen];simp only [Nat.reduceMul,Nat.zero_mul,Nat.add_zero] at hc1;by_cases h14:k1=14
   ·subst h14;go_enter func127,ntmps127;go_wp2_with fail;go_ret;exact ⟨cN (by rw [rdx];simp [hx, *]),bw1⟩
   ·have n14:=jO h14;go_enter func127,ntmps127;go_wp2_with fail;go_ret;exact ⟨cN (by rw [rdx];simp [hx, *]),bw1⟩
 ·have H:=aD hk;have h0:rdx k ks=0:=aCv ks hk;have n5:=jO (k:=k) (m:=5) Ac;have n9:=jO (k:=k) (m:=9) Ac;have n12:=jO (k:=k) (m:=12) Ac;have n15:=jO (k:=k) (m:=15) Ac;have n16:=jO (k:=k) (m:=16) Ac;clear hk;rw [h0];go_enter func127,ntmps127;go_wp2_with fail;go_ret;exact ⟨rfl,bw1⟩
theorem cY (k n:Int)(ks:List Tm)(A:Ba)(c:Nat)(w:Bb)(hl:ks.length<=9223372036854775807)(ha:aX k=(ks.length:Int))(hr:Rd w A 0 ks) :
  Calls prog 110 #[.agg (Ro k n A ks.length c)] w λe w'=>e = .returned (.int .i64 (rdx k ks))/\Bw w w':=by
 by_cases hk:k=5\/k=9\/k=12\/k=15\/k=16
 ·rcases hk with rfl|rfl|rfl|rfl|rfl
  ·have hlen:ks.length=2:=by have:aX 5=2:=rfl;omega
   obtain ⟨b,off,k1,n1,ks1,A1,c1,rfl,hkj,hc1,hc2,hc3,hl1,hr1⟩:=hr.at_ (j:=0) Ac;have hx:=mO 0 ks Ac hkj;have hbl:=kF _ _ hc1;clear hkj hc2 hc3;rw [hlen];simp only [Nat.reduceMul,Nat.zero_mul,Nat.add_zero] at hc1;by_cases h4:k1=4
   ·subst h4;go_enter func110,ntmps110;go_wp2_with fail;go_ret;exact ⟨cN (by rw [rdx];simp [hx, *]),bw1⟩
   ·have n4:=jO h4;go_enter func110,ntmps110;go_wp2_with fail;go_ret;exact ⟨cN (by rw [rdx];simp [hx, *]),bw1⟩
  ·have hlen:ks.length=4:=by have:aX 9=4:=rfl;omega
   obtain ⟨b,off,k1,n1,ks1,A1,c1,rfl,hkj,hc1,hc2,hc3,hl1,hr1⟩:=hr.at_ (j:=3) Ac;have hx:=mO 3 ks Ac hkj;have hbl:=kF _ _ hc1;clear hkj hc2 hc3;rw [hlen];simp only [Nat.reduceMul,Nat.zero_mul,Nat.add_zero] at hc1;by_cases h7:k1=7
   ·subst h7;go_enter func110,ntmps110;go_wp2_with fail;go_ret;exact ⟨cN (by rw [rdx];simp [hx, *]),bw1⟩
   ·have n7:=jO h7;by_cases h8:k1=8
    ·subst h8;go_enter func110,ntmps110;go_wp2_with fail;go_ret;exact ⟨cN (by rw [rdx];simp [hx, *]),bw1⟩
    ·have n8:=jO h8;go_enter func110,ntmps110;go_wp2_with fail;go_ret;exact ⟨cN (by rw [rdx];simp [hx, *]),bw1⟩
  ·have hlen:ks.length=3:=by have:aX 12=3:=rfl;omega
   obtain ⟨b,off,k1,n1,ks1,A1,c1,rfl,hkj,hc1,hc2,hc3,hl1,hr1⟩:=hr.at_ (j:=1) Ac;have hx:=mO 1 ks Ac hkj;have hbl:=kF _ _ hc1;clear hkj hc2 hc3;rw [hlen];simp only [Nat.reduceMul,Nat.zero_mul,Nat.add_zero] at hc1;by_cases h11:k1=11
   ·subst h11;go_enter func110,ntmps110;go_wp2_with fail;go_ret;exact ⟨cN (by rw [rdx];simp [hx, *]),bw1⟩
   ·have n11:=jO h11;go_enter func110,ntmps110;go_wp2_with fail;go_ret;exact ⟨cN (by rw [rdx];simp [hx, *]),bw1⟩
  ·have hlen:ks.length=1:=by have:aX 15=1:=rfl;omega
   obtain ⟨b,off,k1,n1,ks1,A1,c1,rfl,hkj,hc1,hc2,hc3,hl1,hr1⟩:=hr.at_ (j:=0) Ac;have hx:=mO 0 ks Ac hkj;have hbl:=kF _ _ hc1;clear hkj hc2 hc3;rw [hlen];simp only [Nat.reduceMul,Nat.zero_mul,Nat.add_zero] at hc1;by_cases h14:k1=14
   ·subst h14;go_enter func110,ntmps110;go_wp2_with fail;go_ret;exact ⟨cN (by rw [rdx];simp [hx, *]),bw1⟩
   ·have n14:=jO h14;go_enter func110,ntmps110;go_wp2_with fail;go_ret;exact ⟨cN (by rw [rdx];simp [hx, *]),bw1⟩
  ·have hlen:ks.length=1:=by have:aX 16=1:=rfl;omega
   obtain ⟨b,off,k1,n1,ks1,A1,c1,rfl,hkj,hc1,hc2,hc3,hl1,hr1⟩:=hr.at_ (j:=0) Ac;have hx:=mO 0 ks Ac hkj;have hbl:=kF _ _ hc1;clear hkj hc2 hc3;rw [hlen];simp only [Nat.reduceMul,Nat.zero_mul,Nat.add_zero] at hc1;by_cases h14:k1=14
   ·subst h14;go_enter func110,ntmps110;go_wp2_with fail;go_ret;exact ⟨cN (by rw [rdx];simp [hx, *]),bw1⟩
   ·have n14:=jO h14;go_enter func110,ntmps110;go_wp2_with fail;go_ret;exact ⟨cN (by rw [rdx];simp [hx, *]),bw1⟩
 ·have H:=aD hk;have h0:rdx k ks=0:=aCv ks hk;have n5:=jO (k:=k) (m:=5) Ac;have n9:=jO (k:=k) (m:=9) Ac;have n12:=jO (k:=k) (m:=12) Ac;have n15:=jO (k:=k) (m:=15) Ac;have n16:=jO (k:=k) (m:=16) Ac;clear hk;rw [h0];go_enter func110,ntmps110;go_wp2_with fail;go_ret;exact ⟨rfl,bw1⟩
structure OnlyIn (fp:List Nat) (w w':Bb):Prop where
 os:w'.os=w.os
 tape:w'.tape=w.tape
 output:w'.output=w.output
 size:w.heap.size<=w'.heap.size
 block:∀b,b<w.heap.size->b ∉ fp->w'.heap[b]?=w.heap[b]?
theorem OnlyIn.refl (fp:List Nat)(w:Bb):OnlyIn fp w w:=⟨rfl,rfl,rfl,mC _,λ_ _ _=>rfl⟩
theorem OnlyIn.trans {fp:List Nat}{a b c:Bb}(h:OnlyIn fp a b)(k:OnlyIn fp b c):OnlyIn fp a c:=
 ⟨k.os.trans h.os,k.tape.trans h.tape,k.output.trans h.output,Nat.le_trans h.size k.size,λi hi hn=>(k.block i (vM hi h.size) hn).trans (h.block i hi hn)⟩
theorem OnlyIn.mono {fp fq:List Nat}{w w':Bb}(h:OnlyIn fp w w')(hs:∀b,b∈fp->b∈fq):OnlyIn fq w w':=⟨h.os,h.tape,h.output,h.size,λb hb hn=>h.block b hb λhm=>hn (hs b hm)⟩
theorem OnlyIn.setCell {fp:List Nat}{a w:Bb}(h:OnlyIn fp a w){p:Addr}(hp:p.block∈fp)(u:Value):OnlyIn fp a (w.setCell p u):=
 ⟨h.os,h.tape,h.output,by simpa [World.setCell] using h.size,λi hi hn=>(sC w p u i (λe=>hn (e▸hp))).trans (h.block i hi hn)⟩
theorem OnlyIn.below {fp:List Nat}{w w':Bb}{B:Nat}(h:OnlyIn fp w w')(hB:B<=w.heap.size)(hf:∀b,b∈fp->B<=b):Below B w w':=
 ⟨h.os,h.tape,h.output,h.size,λb hb=>h.block b Ac λhm=>by have:=hf b hm;omega⟩
theorem OnlyIn.allocd {fp:List Nat}{w w':Bb}{o:Obj}(h:OnlyIn fp (w.alloc o) w'):OnlyIn fp w w':=
 ⟨h.os,h.tape,h.output,Nat.le_trans Ag h.size,λb hb hn=>(h.block b Ai hn).trans (Below.heap_alloc w o b hb)⟩
theorem pQ {w:Bb}{t:Tm}{us:List Tm}:∀{ts:List Tm} {xs:List Value} {fp:List Nat},OwX w (ts++t::us) xs fp->
  ∃x0 x1 x2 f0 f1 f2,xs=x0++(x1++x2)/\fp=f0++(f1++f2)/\OwX w ts x0 f0/\OwT w t x1 f1/\OwX w us x2 f2
 | [],xs,fp,h=>by
  obtain ⟨x1,x2,f1,f2,rfl,rfl,h1,h2⟩:=OwX.cons_iff.1 h;exact ⟨[],x1,x2,[],f1,f2,rfl,rfl,OwX.nil,h1,h2⟩
 | s::ts,xs,fp,h=>by
  obtain ⟨y1,y2,e1,e2,rfl,rfl,k1,k2⟩:=OwX.cons_iff.1 h;obtain ⟨x0,x1,x2,f0,f1,f2,rfl,rfl,h0,h1,h2⟩:=pQ k2;exact ⟨y1++x0,x1,x2,e1++f0,f1,f2,by rw [List.append_assoc],by rw [List.append_assoc],OwX.cons_iff.2 ⟨y1,x0,e1,f0,rfl,rfl,k1,h0⟩,h1,h2⟩
theorem xH {w:Bb}{t:Tm}{us ts:List Tm}{x0 x1 x2:List Value}{f0 f1 f2:List Nat}(h0:OwX w ts x0 f0)(h1:OwT w t x1 f1)(h2:OwX w us x2 f2):OwX w (ts++t::us) (x0++(x1++x2)) (f0++(f1++f2)):=
 h0.append (OwX.cons_iff.2 ⟨x1,x2,f1,f2,rfl,rfl,h1,h2⟩)
mutual
def aAn:Int->Tm->Tm|m,.mk _ _ ks=>.mk m (m+1) (eX (m+2) ks)
def eX:Int->List Tm->List Tm|_,[]=>[]|m,t::ts=>aAn m t::eX (m+2*t.size) ts
end
theorem fK:∀(ts:List Tm) (m:Int),(eX m ts).length=ts.length
 | [],m=>by simp [eX]
 | t::ts,m=>by rw [eX,List.length_cons,List.length_cons,fK ts]
theorem sX:∀(ts us:List Tm) (m:Int),eX m (ts++us)=eX m ts++eX (m+2*aG ts) us
 | [],us,m=>by simp [eX,aG]
 | t::ts,us,m=>by
  rw [List.cons_append,eX,eX,sX ts us,List.cons_append,aG];congr 3;push_cast
  omega
theorem mark_sizes:(∀t m,(aAn m t).size=t.size)/\(∀ts m,aG (eX m ts)=aG ts):=by
 refine bA (λk n ks ih m=>?_) (λm=>by simp [eX]) (λt ts h1 h2 m=>?_)
 ·rw [aAn,Tm.size,Tm.size,ih]
 ·rw [eX,aG,aG,h1,h2]
theorem aOu {cur:Array Value}{n j:Nat}{x0 x1 x2:List Value}(h:cur.toList.take n=x0++(x1++x2))(h0:x0.length=j)(i:Nat)(v:Value)(hi:x1[i]?=some v):cur[j+i]?=some v:=by
 have hlt:i<x1.length:=(List.getElem?_eq_some_iff.1 hi).1;have h2:(cur.toList.take n)[j+i]?=some v:=by
  rw [h,List.getElem?_append_right Ac,List.getElem?_append_left Ac,h0,Nat.add_sub_cancel_left];exact hi
 rw [List.getElem?_take] at h2;split at h2
 ·simpa using h2
 ·cases h2
theorem aXr {cur:Array Value}{n j:Nat}{x0 x2:List Value}{a b c a' b':Value}(h:cur.toList.take n=x0++([a,b,c]++x2))(h0:x0.length=j) :
  ((cur.setIfInBounds j a').setIfInBounds (j + 1) b').toList.take n = x0 ++ ([a', b', c] ++ x2) := by
 rw [Array.toList_setIfInBounds,Array.toList_setIfInBounds,List.take_set,List.take_set,h];subst h0;simp [List.set_append]
structure OwF (w:Bb) (A:Ba) (ks:List Tm) (fp:List Nat) (lo hi:Nat):Prop where
 ow:Ow w A ks fp
 nodup:fp.Nodup
 lo:∀b,b∈fp->lo<=b
 hi:∀b,b∈fp->b<hi
theorem Fresh.owf {B:Nat}{w:Bb}{A:Ba}{ks:List Tm}(h:Fresh B w A ks):∃fp,OwF w A ks fp B w.heap.size:=by
 obtain ⟨fp,h1,h2,h3⟩:=h;exact ⟨fp,h1,h2,h3,h1.lt⟩
variable {w w':Bb}{A:Ba}{ks:List Tm}{fp fq:List Nat}{lo hi:Nat}
theorem OwF.rd (h:OwF w A ks fp lo hi):Rd w A 0 ks:=h.ow.rd
theorem OwF.keep (h:OwF w A ks fp lo hi)(hb:Bw w w'):OwF w' A ks fp lo hi:=⟨h.ow.frame λb hm=>hb.block b (h.ow.lt b hm),h.nodup,h.lo,h.hi⟩
theorem OwF.alloc (h:OwF w A ks fp lo hi)(o:Obj):OwF (w.alloc o) A ks fp lo hi:=⟨h.ow.frame λb hm=>Below.heap_alloc w o b (h.ow.lt b hm),h.nodup,h.lo,h.hi⟩
theorem OwF.only (h:OwF w A ks fp lo hi)(ho:OnlyIn fq w w')(hd:∀b,b∈fp->b ∉ fq):OwF w' A ks fp lo hi:=⟨h.ow.frame λb hm=>ho.block b (h.ow.lt b hm) (hd b hm),h.nodup,h.lo,h.hi⟩
theorem OwF.marked {m:Int}(h:OwF w A ks fp lo hi)(ho:Ow w' A (eX m ks) fp):OwF w' A (eX m ks) fp lo hi:=⟨ho,h.nodup,h.lo,h.hi⟩
theorem OwF.apart' {A':Ba}{ks':List Tm}{lo' hi':Nat}(h:OwF w A ks fp lo hi)(h':OwF w' A' ks' fq lo' hi')(hh:hi'<=lo):∀b,b∈fp->b ∉ fq:=λb h1 h2=>by have:=h.lo b h1;have:=h'.hi b h2;omega
theorem OwF.out (h:OwF w A ks fp lo hi){g:Nat}(hg:g<lo\/hi<=g):g ∉ fp:=λh1=>by have:=h.lo g h1;have:=h.hi g h1;omega
theorem Blk.only {g:Nat}{cs:Array Value}(h:Blk w g cs)(ho:OnlyIn fq w w')(hg:g ∉ fq):Blk w' g cs:=by have hl:=h.lt;obtain ⟨t,h⟩:=h;exact ⟨t,(ho.block g hl hg).trans h⟩
theorem jW (N:Nat):∀(k n:Int) (ks:List Tm) (A:Ba) (c:Nat) (w:Bb),aG ks<N->aG ks<=1099511627776->Rd w A 0 ks->
  Calls prog 63 #[.agg (Ro k n A ks.length c)] w (rQ w k n ks):=by
 induction N with
 | zero=>intro k n ks A c w hN;exact absurd hN (Nat.not_lt_zero _)
 | succ N ih=>
 intro k n ks A c w hN hM hr;have hlen:=aJ ks;go_enter func63,ntmps63;go_wp2_with fail;go_loopw [14] (λi wr=>∃(j:Nat) (v:Value),j<=ks.length/\i = .int .i64 j/\Part (w.heap.size+3) wr v (ks.take j)/\Blk wr (w.heap.size+1+1) #[.int .i64 k,.int .i64 n,v]/\Blk wr (w.heap.size+1) Zr/\Bw w wr)
  (λi _ => ks.length - (intOf i).toNat)
 case atStart=>exact ⟨0,_,Nat.zero_le _,rfl,Part.nil,aC _ _ _ Ag,(aC _ _ _ Ag).alloc _,bw3⟩
 case round=>
  obtain ⟨j,v,hj,rfl,hp,hB3,hB2,hb⟩:=hrel;by_cases hlt:j<ks.length
  ·obtain ⟨b,off,k',n',ks',A',c',rfl,hkj,hc1,hc2,hc3,hl',hr'⟩:=(hr.below hb).at_ hlt;have hbl:=kF _ _ hc1;have hsz:=cG (gM hlt);rw [hkj] at hsz;simp only [Tm.size] at hsz;have H3:=aD hkj;clear hkj;have hz:=hB3.lt;have c2:wr.cell? ⟨w.heap.size+1+1,2,none⟩=some v:=hB3.at_ rfl;go_wp2_with fail;refine aU ?_;intro wx hwx;have hXB:Blk wx wr.heap.size (Ro k' n' A' ks'.length c'):=by rw [hwx];exact aC _ _ _ rfl
   have hpx:Part (w.heap.size+3) wx v (ks.take j):=by rw [hwx];exact hp.alloc _
   have hrx:Rd wx A' 0 ks':=by rw [hwx];exact hr'.alloc _
   have hB3x:Blk wx (w.heap.size+1+1) #[.int .i64 k,.int .i64 n,v]:=by rw [hwx];exact hB3.alloc _
   have hB2x:Blk wx (w.heap.size+1) Zr:=by rw [hwx];exact hB2.alloc _
   have hbx:Bw w wx:=by rw [hwx];exact hb.alloc hb.size _
   have hs1:wr.heap.size<wx.heap.size:=by rw [hwx];simp
   have hs2:w.heap.size+1+1<wx.heap.size:=by omega
   have x2:=hB3x.rule (i:=2) rfl;have y0:=hXB.rule (i:=0) rfl;have y1:=hXB.rule (i:=1) rfl;have y2:=hXB.rule (i:=2) rfl;clear hwx;refine pE (λw'=>Bw wx w') [0,1,2] [3,4] [5,6,7] [_,_,_] [_,_] [_,_,_] (by kernel_rfl) (by kernel_rfl) rfl rfl rfl (λ_ _ d _ _ h=>by cases d<;>exact h) (eI _ _).drew ?_;repeat (first|((refine aAj (a':=?_) ?_ ?_ ?_);(rotate_left);(· (simp [Region.wanted,yielded];done));(· (simp only [Act.put,List.setIfInBounds_toArray,List.set_cons_zero,List.set_cons_succ];exact rfl)))|((refine zI (v:=?_) (a':=?_) ?_ ?_ ?_ ?_);(rotate_left 2);(· (simp [Region.wanted,yielded];done));(· (intro w' hS';go_simp;try (with_reducible rfl)));(· (simp only [Act.put,List.setIfInBounds_toArray,List.set_cons_zero,List.set_cons_succ];exact rfl))))
   refine aDh (bO ?_);go_wp2_with (go_at_call 63;refine (ih k' n' ks' A' c' _ Ac Ac hrx.drew).mono ?_;rintro e w1 ⟨A1,c1,rfl,hl1,hf1,hb1⟩);have hx1:Bw wx w1:=(eI wx.heap.size wx).drew.trans hb1;refine aS hx1 (bO ?_);go_wp2_with fail;refine aS (hx1.alloc hx1.size _) (eB ?_);refine cZ (B:=w.heap.size+3) (m:=j) hpx.drew hb1 Ai hf1 hl1 Ai Ac rfl (.tmp 19) (.tmp 22) rfl rfl rfl ?_;intro A2 c2 w2 hp2 hb2 hg2;have q3:Blk w2 (w.heap.size+1+1) #[.int .i64 k,.int .i64 n,v]:=(hB3x.below hx1 Ac).below hb2 Ac;have q2:Blk w2 (w.heap.size+1) Zr:=(hB2x.below hx1 Ac).below hb2 Ac;have c3:w2.cell? ⟨w.heap.size+1+1,2,none⟩=some v:=q3.at_ rfl;have z3:=q3.frozen 2;have hbf:Bw w w2:=(hbx.trans (hx1.mono Ac)).trans (hb2.mono Ac);clear x2 y0 y1 y2 hpx hrx hB3x hB2x hbx;go_wp2_with fail;go_roundw
   case rel=>exact ⟨j+1,_,by omega,by go_num,by rw [tM hlt,H3.out];exact hp2.setCell Ag _,q3.set_ 2 _,q2.far Ag _,hbf.setCell Ai _⟩
   case measure=>simp [intOf];omega
  ·have hjl:j=ks.length:=by omega
   subst hjl;rw [List.take_length] at hp;obtain ⟨Ar,cr,rfl,hfr⟩:=hp.fresh;have c0:wr.cell? ⟨w.heap.size+1+1,0,none⟩=some (.int .i64 k):=hB3.at_ rfl;have c1:wr.cell? ⟨w.heap.size+1+1,1,none⟩=some (.int .i64 n):=hB3.at_ rfl;have c2:wr.cell? ⟨w.heap.size+1+1,2,none⟩=some (.slice Ar ks.length cr):=hB3.at_ rfl;have d0:wr.cell? ⟨w.heap.size+1,0,none⟩=some (.int .i64 0):=hB2.at_ rfl;have d1:wr.cell? ⟨w.heap.size+1,1,none⟩=some (.int .i64 0):=hB2.at_ rfl;have d2:wr.cell? ⟨w.heap.size+1,2,none⟩=some (.slice none 0 0):=hB2.at_ rfl;obtain ⟨e0,e1,e2⟩:=bkf hB2;go_wp2_with fail;refine bodyPost_ret (v:=.agg (Ro k n Ar ks.length cr)) (by simp [results,results63,go_sem,d0,d1,d2]) rfl ⟨Ar,cr,rfl,by omega,?_,?_⟩
   ·exact (vF hfr).mono Ac
   ·exact bV hb
end Go.Proofs.YtjlaenhcemacdaaGreat
