/- Parts of the proof. No condition. -/
import Derived.Test.YtajjhldcjikkpaaGreatK5
import Derived.Test.YtajjhldcjikkpaaGreatK7
open Go.Proofs.Tryz
namespace Go.Proofs.YtajjhldcjikkpaaGreat
open Go.RowKit
set_option maxHeartbeats 8000000
set_option maxRecDepth 100000
set_option linter.unusedSimpArgs false
set_option linter.unusedVariables false
theorem aBj (ku nu:Int)(us:List Tm)(hus:shape 31 (.mk ku nu us)=true)(huz:aH us≤1000000)(N:Nat):∀(k n:Int) (ks:List Tm) (A:Option Addr) (c:Nat) (U:Option Addr) (cu:Nat) (x d:Int) (q:Nat) (w:World),aH ks<N→aH ks≤1000000→shape q (.mk k n ks)=true→0≤x→x+q≤900→0≤d→d+q≤900→Rd w A 0 ks→Rd w U 0 us→
  ∀(k2 n2:Int) (ks2:List Tm),cZ (.mk ku nu us) x d (.mk k n ks) = .mk k2 n2 ks2→
  Calls prog 127 #[.agg (Ro k n A ks.length c),.int .i64 x,.agg (Ro ku nu U us.length cu),.int .i64 d] w (vM w k2 n2 ks2):=by
 induction N with
 | zero=>intro k n ks A c U cu x d q w hN;exact absurd hN (Nat.not_lt_zero _)
 | succ N ih=>
 intro k n ks A c U cu x d q w hN hM hsh hx0 hxq hd0 hdq hr hru kr nr ksr hfl;have hlen:=aQ ks;obtain ⟨q,rfl⟩:∃q',q=q'+1:=by cases q with|zero=>simp [shape] at hsh|succ q=>exact ⟨q,rfl⟩
 obtain ⟨ha,hm1,hm2,hkids⟩:=(bA q k n ks).1 hsh;rw [cZ] at hfl;have hus':=aD hus;by_cases hk:k=1
 ·subst hk;have hks:ks=[]:=by
   have h0:aK 1=0:=rfl;rw [h0] at ha;exact lEn (by omega)
  subst hks;have h20:dS 1=20:=rfl;rw [h20] at hm2;clear hkids hsh ha h20;by_cases hnx:n=x
  ·rw [if_pos ⟨rfl,hnx⟩,eZ] at hfl;injection hfl with h1 h2 h3;subst h1 h2 h3;obtain ⟨n2,hn2⟩:∃n2,(if ku=1∧0≤nu then nu+d else nu)=n2:=⟨_,rfl⟩;have hn2':=aD hn2;rw [hn2];clear hn2;subst hnx;go_enter func127,ntmps127;go_wp2_with (go_at_call 142;refine (kJ _ ku nu us U cu d 0 31 _ (qN _) (by omega) hus'.out (by omega) (by omega) (by omega) (((hru.alloc _).alloc _).alloc _)).mono ?_;rw [hn2'.out];rintro e w1 ⟨A1,c1,rfl,hl1,hf1,hb1⟩;have hT:=pN hb1;obtain ⟨d0,d1,d2,e0,e1,e2⟩:=bW hT;replace hf1:Fresh (w.heap.size+3) w1 A1 (cP d ku 0 0 us):=hf1.mono (by simp);replace hb1:Bw w w1:=bw3.trans (hb1.mono (by simp;omega)))
   refine bodyPost_ret (v:=.agg #[.int .i64 ku,.int .i64 n2,.slice A1 (cP d ku 0 0 us).length c1]) (by simp [results,results127,go_sem,d0,d1,d2]) rfl ⟨A1,c1,by simp,hl1,?_,?_⟩
   ·exact (nM hf1).mono (by omega)
   ·exact bV hb1
  ·rw [if_neg (by rintro ⟨-,h⟩;exact hnx h)] at hfl;have q0:(n==x)=false:=by simpa using hnx
   by_cases hxn:x<n
   ·rw [if_pos ⟨rfl,hxn⟩] at hfl;injection hfl with h1 h2 h3;subst h1 h2 h3;have q2:decide (x<n)=true:=by simpa using hxn
    clear hnx;go_enter func127,ntmps127;go_wp2_with fail
    go_loopw [10] (fun i wr=>i = .int .i64 0∧Blk wr (w.heap.size+1+1+1) (Ro 1 (n - 1) none 0 0)∧Blk wr (w.heap.size+1+1) Zr∧Blk wr w.heap.size (Ro 1 n A 0 c)∧Bw w wr)
     (fun _ _=>0)
    case atStart=>exact ⟨rfl,aC _ _ _ (by simp),(aC _ _ _ (by simp)).alloc _,(((aC _ _ _ rfl).alloc _).alloc _).alloc _,bw4⟩
    case round=>
     obtain ⟨rfl,hB3,hB2,hB1,hb⟩:=hrel;have b2:=hB1.at_ (i:=2) rfl;obtain ⟨c0,c1,c2⟩:=hB3.three;obtain ⟨d0,d1,d2,e0,e1,e2⟩:=bW hB2;go_wp2_with fail
     refine bodyPost_ret (v:=.agg (Ro 1 (n - 1) none 0 0)) (by simp [results,results127,go_sem,d0,d1,d2]) rfl ⟨none,0,by simp [cO],by simp [cO],?_,?_⟩
     ·simpa [cO] using (Fresh.nil:Fresh w.heap.size _ none [])
     ·exact bV hb
   ·rw [if_neg (by rintro ⟨-,h⟩;exact hxn h)] at hfl;injection hfl with h1 h2 h3;subst h1 h2 h3;have q2:decide (x<n)=false:=by simpa using hxn
    clear hnx;go_enter func127,ntmps127;go_wp2_with fail
    go_loopw [10] (fun i wr=>i = .int .i64 0∧Blk wr (w.heap.size+1+1+1) (Ro 1 (n) none 0 0)∧Blk wr (w.heap.size+1+1) Zr∧Blk wr w.heap.size (Ro 1 n A 0 c)∧Bw w wr)
     (fun _ _=>0)
    case atStart=>exact ⟨rfl,aC _ _ _ (by simp),(aC _ _ _ (by simp)).alloc _,(((aC _ _ _ rfl).alloc _).alloc _).alloc _,bw4⟩
    case round=>
     obtain ⟨rfl,hB3,hB2,hB1,hb⟩:=hrel;have b2:=hB1.at_ (i:=2) rfl;obtain ⟨c0,c1,c2⟩:=hB3.three;obtain ⟨d0,d1,d2,e0,e1,e2⟩:=bW hB2;go_wp2_with fail
     refine bodyPost_ret (v:=.agg (Ro 1 (n) none 0 0)) (by simp [results,results127,go_sem,d0,d1,d2]) rfl ⟨none,0,by simp [cO],by simp [cO],?_,?_⟩
     ·simpa [cO] using (Fresh.nil:Fresh w.heap.size _ none [])
     ·exact bV hb
 ·have hn:¬(k=1∧n=x):=by rintro ⟨h,-⟩;exact hk h
  rw [if_neg hn,if_neg (by rintro ⟨h,-⟩;exact hk h)] at hfl;injection hfl with h1 h2 h3;subst h1 h2 h3;have hkids':=aD hkids;have hm2':=aD hm2;clear hkids ha hsh hm2;have q1:(k==1)=false:=by simpa using hk
  clear hn hk;go_enter func127,ntmps127;go_wp2_with fail
  go_loopw [10,11] (fun i _ wr=>∃(j:Nat) (v:Value),j≤ks.length∧i = .int .i64 j∧Part (w.heap.size+4) wr v (cO (.mk ku nu us) k x d 0 (ks.take j))∧Blk wr (w.heap.size+1+1+1) #[.int .i64 k,.int .i64 (n),v]∧Blk wr (w.heap.size+1+1) Zr∧Blk wr (w.heap.size+1) (Ro ku nu U us.length cu)∧Blk wr w.heap.size (Ro k n A ks.length c)∧Bw w wr)
   (fun i _ _=>ks.length - (intOf i).toNat)
  case atStart=>exact ⟨0,_,Nat.zero_le _,rfl,Part.nil,aC _ _ _ (by simp),(aC _ _ _ (by simp)).alloc _,((aC _ _ _ (by simp)).alloc _).alloc _,(((aC _ _ _ rfl).alloc _).alloc _).alloc _,bw4⟩
  case round=>
   obtain ⟨j,v,hj,rfl,hp,hB3,hB2,hBu,hB1,hb⟩:=hrel;have c12:=hB1.at_ (i:=2) rfl;have c10:=hB1.at_ (i:=0) rfl;by_cases hlt:j<ks.length
   ·obtain ⟨b,off,k',n',ks',A',c',rfl,hkj,hc1,hc2,hc3,hl',hr'⟩:=(hr.below hb).at_ hlt;have hsz:=cQ (iP hlt);have hsk:=hkids'.out _ (iP hlt);rw [hkj] at hsz hsk;simp only [Tm.size] at hsz
    have H3:=aD hkj;have H4:=aD hsk;clear hkj hsk;have hz:=hB3.lt;obtain ⟨k2,n2,ks2,hct⟩:∃k2 n2 ks2,cZ (.mk ku nu us) (x+aR k j) (d+aR k j) (.mk k' n' ks') = .mk k2 n2 ks2:=iT _;have hct':=aD hct;clear hct;have hun:=dT k j;go_wp2_with (go_at_call 144;refine (rF _ _ _).mono ?_;rintro e w9 ⟨rfl,rfl⟩)
    have x2:=hB3.rule (i:=2) rfl;have a0:=hBu.rule (i:=0) rfl;have a1:=hBu.rule (i:=1) rfl;have a2:=hBu.rule (i:=2) rfl;have b2:=hB1.rule (i:=2) rfl;obtain ⟨y0,y1,y2⟩:=rI hc1 hc2 hc3;refine bL (fun w'=>Bw wr w') [0,1,2,3,4,5,6,7,8,9,10,11,12,13] [14,15] [16,17,18] [_,_,_,_,_,_,_,_,_,_,_,_,_,_] [_,_] [_,_,_] (by kernel_rfl) (by kernel_rfl) rfl rfl rfl (fun _ _ d _ _ h=>by cases d<;>exact h) (fJ _ _).drew ?_;refine bU (aD ?_);refine bF ?_;go_wp2_with (go_at_call 127;refine (ih k' n' ks' A' c' U cu (x+aR k j) (d+aR k j) q _ (by omega) (by omega) H4.out (by omega) (by omega) (by omega) (by omega) hr'.drew (hru.below hb).drew k2 n2 ks2 hct'.out).mono ?_;rintro e w1 ⟨A1,c1,rfl,hl1,hf1,hb1⟩)
    have hx1:Bw wr w1:=(fJ _ _).drew.trans hb1;refine aP hx1 (bF ?_);go_wp2_with fail
    refine aP (hx1.alloc hx1.size _) (dD ?_);refine cL (B:=w.heap.size+4) (m:=j) hp.drew hb1 (by simp;omega) hf1 hl1 (by rw [dI];simp;omega) (by omega) rfl (.tmp 54) (.tmp 68) rfl rfl rfl ?_;intro A2 c2 w2 hp2 hb2 hg2;have q3:Blk w2 (w.heap.size+1+1+1) #[.int .i64 k,.int .i64 (n),v]:=(hB3.below hx1 (by omega)).below hb2 (by omega);have q2:Blk w2 (w.heap.size+1+1) Zr:=(hB2.below hx1 (by omega)).below hb2 (by omega);have qu:Blk w2 (w.heap.size+1) (Ro ku nu U us.length cu):=(hBu.below hx1 (by omega)).below hb2 (by omega);have q1':Blk w2 w.heap.size (Ro k n (some ⟨b,off,none⟩) ks.length c):=(hB1.below hx1 (by omega)).below hb2 (by omega);have c3:w2.cell? ⟨w.heap.size+1+1+1,2,none⟩=some v:=q3.at_ rfl;have z3:=q3.frozen 2;have hbf:Bw w w2:=(hb.trans (hx1.mono (by omega))).trans (hb2.mono (by omega));clear x2 y0 y1 y2 b2 a0 a1 a2;go_wp2_with fail
    go_roundw
    case rel=>exact ⟨j+1,_,by omega,by go_num,by rw [yY _ k x d hlt,H3.out,hct'.out];exact hp2.setCell (by simp) _,q3.set_ 2 _,q2.far (by simp) _,qu.far (by simp) _,q1'.far (by simp;omega) _,hbf.setCell (by simp;omega) _⟩
    case measure=>simp [intOf];omega
   ·have hjl:j=ks.length:=by omega
    subst hjl;rw [List.take_length] at hp;obtain ⟨Ar,cr,rfl,hfr⟩:=hp.fresh;obtain ⟨c0,c1,c2⟩:=hB3.three;obtain ⟨d0,d1,d2,e0,e1,e2⟩:=bW hB2;go_wp2_with fail
    refine bodyPost_ret (v:=.agg #[.int .i64 k,.int .i64 (n),.slice Ar (cO (.mk ku nu us) k x d 0 ks).length cr]) (by simp [results,results127,go_sem,d0,d1,d2]) rfl ⟨Ar,cr,rfl,by rw [dI];omega,?_,?_⟩
    ·exact (nM hfr).mono (by omega)
    ·exact bV hb
end Go.Proofs.YtajjhldcjikkpaaGreat
