/- Parts of the proof. No condition. -/
import Derived.Test.YtajjhldcjikkpaaGreatK5
import Derived.Test.YtajjhldcjikkpaaGreatK7
open Go.Proofs.Tryz
namespace Go.Proofs.YtajjhldcjikkpaaGreat
open Go.RowKit
set_option maxHeartbeats 8000000
set_option maxRecDepth 100000
set_option linter.unusedSimpArgs false
set_option linter.unusedVariables false
mutual
def mxT:Int→Int→Tm→Int|d,a,.mk k n ks=>vG k d 0 (if k=1∧d≤n then max a (n - d+1) else a) ks
def vG:Int→Int→Nat→Int→List Tm→Int|_,_,_,a,[]=>a|k,d,i,a,t::ts=>vG k d (i+1) (mxT (d+aR k i) a t) ts
end
theorem vZ (k d:Int)(us:List Tm):∀(ts:List Tm) (i:Nat) (a:Int),vG k d i a (ts++us)=vG k d (i+ts.length) (vG k d i a ts) us
 | [],i,a=>by simp [vG]
 | t::ts,i,a=>by rw [List.cons_append,vG,vG,vZ k d us ts (i+1),List.length_cons,show i+1+ts.length=i+(ts.length+1) from by omega]
theorem aNm (k d a:Int){ks:List Tm}{j:Nat}(hj:j<ks.length):vG k d 0 a (ks.take (j+1))=mxT (d+aR k j) (vG k d 0 a (ks.take j)) ks[j]:=by
 rw [uQ hj,vZ,List.length_take,Nat.min_eq_left (Nat.le_of_lt hj),Nat.zero_add,vG,vG]
theorem mx_le:(∀(t:Tm) (q:Nat) (d a:Int),shape q t=true→0≤d→0≤a→a≤21→0≤mxT d a t∧mxT d a t≤21)∧
  (∀ (ts : List Tm) (q : Nat) (k d a : Int) (i : Nat), (∀ t, t ∈ ts → shape q t = true) → 0 ≤ d → 0 ≤ a → a ≤ 21 → 0 ≤ vG k d i a ts ∧ vG k d i a ts ≤ 21) := by
 refine bO (fun k n ks ih q d a h hd h0 h1=>?_) (fun q k d a i _ _ h0 h1=>by rw [vG];exact ⟨h0,h1⟩) (fun t ts h1 h2 q k d a i hk hd h0 h3=>?_)
 ·obtain ⟨q,rfl,ha,hn0,hm,hk⟩:=bX h;rw [mxT];refine ih q k d _ 0 hk hd ?_ ?_
  ·split<;>omega
  ·split
   ·rename_i hc
    have:dN k=20:=by rw [hc.1];rfl
    omega
   ·exact h1
 ·rw [vG];have:=dH k i;have h4:=h1 q (d+aR k i) a (hk t List.mem_cons_self) (by omega) h0 h3;exact h2 q k d _ (i+1) (fun t ht=>hk t (List.mem_cons_of_mem _ ht)) hd h4.1 h4.2
theorem aCc {w w':World}{g B:Nat}(h:w.grownBy w' (some g))(hB:B≤w.heap.size)(hg:B≤g):Below B w w':=
 ⟨h.os,h.tape,h.output,h.size,fun b hb=>h.block b (by omega) (by simp;omega)⟩
def aTb:Value:=.tuple #[]
theorem aNh (z cc:Int)(g:Nat)(w:World)(hg:Blk w g #[.int .i64 cc])(h0:0≤cc)(h1:cc≤1000)(hz:0≤z)(hz1:z≤1000) :
  Calls prog 50 #[.int .i64 z,.pointer (some ⟨g,0,none⟩)] w fun e w'=>e = .returned aTb∧Blk w' g #[.int .i64 (max cc (z+1))]∧w.grownBy w' (some g):=by
 have a1:=hg.at_ (i:=0) rfl;have a2:=hg.frozen 0;go_enter func50,ntmps50;all_goals go_wp2_with fail
 all_goals first|(refine bodyPost_ret (results_none rfl _ _ _) rfl ?_)|(refine bodyPost_end (results_none rfl _ _ _) rfl ?_)
 all_goals exact ⟨rfl,by first|(exact hg.set_ 0 _)|(rw [show max cc (z+1)=z+1 from by omega];exact hg.set_ 0 _)|(rw [show max cc (z+1)=cc from by omega];exact hg.set_ 0 _),aG (iM _ _) (.inl rfl) _⟩
def aUy (g:Nat)(cc:Int)(w:World)(e:Ending)(w':World):Prop:=e = .returned aTb∧Blk w' g #[.int .i64 cc]∧w.grownBy w' (some g)
theorem aIy (N:Nat):∀(k n:Int) (ks:List Tm) (A:Option Addr) (c:Nat) (d:Int) (q:Nat) (g:Nat) (cc:Int) (w:World),aH ks<N→aH ks≤1000000→shape q (.mk k n ks)=true→0≤d→d+q≤1000→Blk w g #[.int .i64 cc]→0≤cc→cc≤21→RdP (·≠g) w A 0 ks→
  Calls prog 49 #[.agg (Ro k n A ks.length c),.int .i64 d,.func (.func 50) #[] #[.pointer (some ⟨g,0,none⟩)]] w (aUy g (mxT d cc (.mk k n ks)) w):=by
 induction N with
 | zero=>intro k n ks A c d q g cc w hN;exact absurd hN (Nat.not_lt_zero _)
 | succ N ih=>
 intro k n ks A c d q g cc w hN hZM hsh hd hdq hg h0 hM hr;have hrun:=fO func50 (by kernel_rfl) (by kernel_rfl);have hlen:=aQ ks;obtain ⟨q,rfl,ha,hm1,hm2,hkids⟩:=bX hsh;have hgl:=hg.lt;rw [mxT];by_cases hk:k=1
 ·subst hk;have:=uY ha;subst this;have hn2:n≤20:=by simpa [dN] using hm2
  rw [vG];clear hkids hsh ha hm2;by_cases h1:d≤n
  ·have q1:decide (d≤n)=true:=decide_eq_true h1;rw [if_pos ⟨rfl,h1⟩];generalize hcv:max cc (n - d+1)=cv
   have hcv':=aD hcv;have h1':=aD h1;have hnd:0≤n - d∧n - d≤20:=by omega
   clear hcv h1;go_enter func49,ntmps49;go_wp2_with (refine (aNh (n - d) cc g _ (hg.alloc _) h0 (by omega) hnd.1 (by omega)).mono ?_;rw [hcv'.out];rintro e w1 ⟨rfl,hg1,hb1⟩;have hB1:=(aC (n:=w.heap.size) w 25 (Ro 1 n A 0 c) rfl).grown hb1 (by simp;omega);replace hb1:=gF (aM (iM _ _) _) hb1;have b2:=hB1.at_ (i:=2) rfl)
   go_loopw [26] (fun i wr=>i = .int .i64 0∧Blk wr g #[.int .i64 (cv)]∧w.grownBy wr (some g)) (fun _ _=>0)
   case atStart=>exact ⟨rfl,hg1,hb1⟩
   case round=>
    obtain ⟨rfl,hG,hgr⟩:=hrel;go_wp2_with fail
    first|(refine bodyPost_ret (results_none rfl _ _ _) rfl ?_)|(refine bodyPost_end (results_none rfl _ _ _) rfl ?_)
    exact ⟨rfl,hG,hgr⟩
  ·have q1:decide (d≤n)=false:=decide_eq_false h1;rw [if_neg (by rintro ⟨-,h⟩;exact h1 h)];clear h1;go_enter func49,ntmps49;go_wp2_with fail
   have hb1:w.grownBy (w.alloc (.cells (Ro 1 n A 0 c) 25)) (some g):=aM (iM _ _) _;have hg1:=hg.alloc (.cells (Ro 1 n A 0 c) 25);go_loopw [26] (fun i wr=>i = .int .i64 0∧Blk wr g #[.int .i64 (cc)]∧w.grownBy wr (some g)) (fun _ _=>0)
   case atStart=>exact ⟨rfl,hg1,hb1⟩
   case round=>
    obtain ⟨rfl,hG,hgr⟩:=hrel;go_wp2_with fail
    first|(refine bodyPost_ret (results_none rfl _ _ _) rfl ?_)|(refine bodyPost_end (results_none rfl _ _ _) rfl ?_)
    exact ⟨rfl,hG,hgr⟩
 ·have q1:(k==1)=false:=by simpa using hk
  rw [if_neg (by rintro ⟨h,-⟩;exact hk h)];have hkids':=aD hkids;clear hk hkids hsh ha hm2;go_enter func49,ntmps49;go_wp2_with fail
  go_loopw [26] (fun i wr=>∃(j:Nat),j≤ks.length∧i = .int .i64 j∧Blk wr g #[.int .i64 (vG k d 0 cc (ks.take j))]∧Blk wr w.heap.size (Ro k n A ks.length c)∧w.grownBy wr (some g)) (fun i _=>ks.length - (intOf i).toNat)
  case atStart=>exact ⟨0,Nat.zero_le _,rfl,by simpa [vG] using hg.alloc _,aC _ _ _ rfl,aM (iM _ _) _⟩
  case round=>
   obtain ⟨j,hj,rfl,hG,hB1,hgr⟩:=hrel;by_cases hlt:j<ks.length
   ·obtain ⟨b,off,k1,n1,ks1,A1,c1,rfl,hkj,hc1,hc2,hc3,hl1,hr1⟩:=(hr.grown hgr (fun b hb e=>hb (by injection e))).at_ hlt;have hbl:=kY _ _ hc1;have hsz:=cM (iS hlt);have hcs:=mx_le.2 (ks.take j) q k d cc 0 (fun t ht=>hkids'.out t (List.mem_of_mem_take ht)) hd h0 hM;have hsk:=hkids'.out _ (iS hlt);have hnx:=aD (aNm k d cc hlt);generalize vG k d 0 cc (ks.take j)=cj at hG hcs hnx
    rw [hkj] at hsz hsk;simp only [Tm.size] at hsz
    have H3:=aD hkj;have H4:=aD hsk;clear hkj hsk;go_wp2_with fail
    have hNew:=aC (n:=wr.heap.size) wr 25 (Ro k1 n1 A1 ks1.length c1) rfl;have hB1a:=hB1.alloc (.cells (Ro k1 n1 A1 ks1.length c1) 25);have hGa:=hG.alloc (.cells (Ro k1 n1 A1 ks1.length c1) 25);have hra:=hr1.alloc (.cells (Ro k1 n1 A1 ks1.length c1) 25);have hwa:wr.grownBy (wr.alloc (.cells (Ro k1 n1 A1 ks1.length c1) 25)) (some g):=aM (iM _ _) _;generalize wr.alloc (.cells (Ro k1 n1 A1 ks1.length c1) 25)=wa at hNew hB1a hGa hra hwa⊢
    have r7:=hB1a.rule (i:=0) rfl;have r1:=hNew.rule (i:=0) rfl;have r2:=hNew.rule (i:=1) rfl;have r3:=hNew.rule (i:=2) rfl;have hun:=dH k j;refine bK (fun w'=>Bw wa w') [0,1,2,3,4,5,6,7] [] [8] [_,_,_,_,_,_,_,_] [] [_] (by kernel_rfl) (by kernel_rfl) rfl rfl rfl (fun _ _ d _ _ h=>by cases d<;>exact h) (fG _ _).drew ?_;repeat (first|((refine nE (a':=?_) ?_ ?_ ?_);(rotate_left);(· (simp [Region.wanted,yielded,Go.undef];done));(· (simp only [List.getElem_toArray,List.getElem_cons_zero,List.getElem_cons_succ,Act.put,List.setIfInBounds_toArray,List.set_cons_zero,List.set_cons_succ];exact rfl)))|((refine nF (v:=?_) (a':=?_) ?_ ?_ ?_ ?_);(rotate_left 2);(· (simp [Region.wanted,yielded,Go.undef];done));(· (intro w' hS';go_simp;try (with_reducible rfl)));(· (simp only [List.getElem_toArray,List.getElem_cons_zero,List.getElem_cons_succ,Act.put,List.setIfInBounds_toArray,List.set_cons_zero,List.set_cons_succ];exact rfl)))|((refine qK (v:=?_) (a':=?_) 73 ?_ ?_ ?_ ?_ ?_ ?_);(rotate_left 3);(· (simp [Region.wanted,yielded,Go.undef];done));(· (intro w' hS';go_simp;try (with_reducible rfl)));(· (intro w' hS';exact kS _ _ _));(· (simp only [List.getElem_toArray,List.getElem_cons_zero,List.getElem_cons_succ,Act.put,List.setIfInBounds_toArray,List.set_cons_zero,List.set_cons_succ];exact rfl))))
    refine pN (cZ ?_);clear r1 r2 r3 r7;go_wp2_with (go_at_call 49;refine (ih k1 n1 ks1 A1 c1 (d+aR k j) q g cj _ (by omega) (by omega) H4.out (by omega) (by omega) hGa.drew hcs.1 hcs.2 hra.drew).mono ?_;rintro e w1 ⟨rfl,hg1,hb1⟩)
    have hb1':wr.grownBy w1 (some g):=gF hwa (gF (dR (iM _ _)) hb1);go_roundw
    case rel=>exact ⟨j+1,by omega,by go_num,by rw [hnx.out,H3.out];exact hg1,hB1.grown hb1' (by simp;omega),gF hgr hb1'⟩
    case measure=>simp [intOf];omega
   ·go_wp2_with fail
    first|(refine bodyPost_ret (results_none rfl _ _ _) rfl ?_)|(refine bodyPost_end (results_none rfl _ _ _) rfl ?_)
    have hjl:j=ks.length:=by omega
    subst hjl;rw [List.take_length] at hG;exact ⟨rfl,hG,hgr⟩
def mfT (t:Tm):Int:=mxT 0 0 t
theorem aAp (k n:Int)(ks:List Tm)(A:Option Addr)(c:Nat)(w:World)(hv:aE (.mk k n ks)=true)(hr:Rd w A 0 ks) :
  Calls prog 29 #[.agg (Ro k n A ks.length c)] w fun e w'=>e = .returned (.int .i64 (mfT (.mk k n ks)))∧Bw w w':=by
 have hsh:shape 30 (.mk k n ks)=true:=by simp only [aE,Bool.and_eq_true] at hv;exact hv.1
 have hzv:=aJ hv;have hRp:RdP (·≠w.heap.size+1) w A 0 ks:=hr.rdp.mono (fun b hb=>by omega);have hshh:=aD hsh;clear hv hsh;rw [mfT];go_enter func29,ntmps29;go_wp2_with (go_at_call 49;refine (aIy _ k n ks A c 0 30 (w.heap.size+1) 0 _ (qG _) (by omega) hshh.out (by omega) (by omega) (aC _ _ _ (by simp)) (by omega) (by omega) ((hRp.alloc _).alloc _)).mono ?_;rintro e w1 ⟨rfl,hg1,hb1⟩;have g0:=hg1.at_ (i:=0) rfl)
 go_ret
 exact ⟨rfl,bw2.trans (aCc hb1 (by simp;omega) (by omega))⟩
theorem aBe (k n:Int)(ks:List Tm)(A:Option Addr)(c:Nat)(w:World)(hM:aH ks≤1000000)(hr:Rd w A 0 ks) :
  Calls prog 9 #[.agg (Ro k n A ks.length c)] w fun e w'=>e = .returned (.int .i64 (if aE (.mk k n ks)=true then mfT (.mk k n ks) else -1))∧Bw w w':=by
 by_cases hv:aE (.mk k n ks)=true
 ·rw [if_pos hv];have hvh:=aD hv;clear hv;go_enter func9,ntmps9;go_wp2_with (first
   | (go_at_call 29;have _t:=tok1;refine (aAp k n ks A c _ hvh.out ((hr.alloc _).below hb1)).mono ?_;rintro e w2 ⟨rfl,hb2⟩)
   | (go_at_call 28;refine (bM k n ks A c _ (by omega) (hr.alloc _)).mono ?_;rw [hvh.out];rintro e w1 ⟨rfl,hb1⟩;have hX:=(aC w 25 (Ro k n A ks.length c) rfl).keep hb1;have g1:Bw w w1:=bQ bw1 hb1;obtain ⟨x0,x1,x2⟩:=hX.three;have tok1:=trivial))
  go_ret
  exact ⟨rfl,g1.trans (hb2.mono g1.size)⟩
 ·rw [if_neg hv];have hvh:=aD (show aE (.mk k n ks)=false by simpa using hv);clear hv;go_enter func9,ntmps9;go_wp2_with (go_at_call 28;refine (bM k n ks A c _ (by omega) (hr.alloc _)).mono ?_;rw [hvh.out];rintro e w1 ⟨rfl,hb1⟩;have g1:Bw w w1:=bQ bw1 hb1)
  go_ret
  exact ⟨rfl,g1⟩
theorem aCn (ku nu:Int)(us:List Tm)(hus:shape 31 (.mk ku nu us)=true)(huz:aH us≤1000000)(N:Nat):∀(k n:Int) (ks:List Tm) (A:Option Addr) (c:Nat) (U:Option Addr) (cu:Nat) (x d:Int) (q:Nat) (w:World),aH ks<N→aH ks≤1000000→shape q (.mk k n ks)=true→0≤x→x+q≤900→0≤d→d+q≤900→Rd w A 0 ks→Rd w U 0 us→
  ∀(k2 n2:Int) (ks2:List Tm),dC (.mk ku nu us) x d (.mk k n ks) = .mk k2 n2 ks2→
  Calls prog 127 #[.agg (Ro k n A ks.length c),.int .i64 x,.agg (Ro ku nu U us.length cu),.int .i64 d] w (uO w k2 n2 ks2):=by
 induction N with
 | zero=>intro k n ks A c U cu x d q w hN;exact absurd hN (Nat.not_lt_zero _)
 | succ N ih=>
 intro k n ks A c U cu x d q w hN hM hsh hx0 hxq hd0 hdq hr hru kr nr ksr hfl;have hlen:=aQ ks;obtain ⟨q,rfl⟩:∃q',q=q'+1:=by cases q with|zero=>simp [shape] at hsh|succ q=>exact ⟨q,rfl⟩
 obtain ⟨ha,hm1,hm2,hkids⟩:=(bA q k n ks).1 hsh;rw [dC] at hfl;have hus':=aD hus;by_cases hk:k=1
 ·subst hk;have hks:ks=[]:=by
   have h0:aK 1=0:=rfl;rw [h0] at ha;exact lEn (by omega)
  subst hks;have h20:dN 1=20:=rfl;rw [h20] at hm2;clear hkids hsh ha h20;by_cases hnx:n=x
  ·rw [if_pos ⟨rfl,hnx⟩,eZ] at hfl;injection hfl with h1 h2 h3;subst h1 h2 h3;obtain ⟨n2,hn2⟩:∃n2,(if ku=1∧0≤nu then nu+d else nu)=n2:=⟨_,rfl⟩;have hn2':=aD hn2;rw [hn2];clear hn2;subst hnx;go_enter func127,ntmps127;go_wp2_with (go_at_call 142;refine (kO _ ku nu us U cu d 0 31 _ (qG _) (by omega) hus'.out (by omega) (by omega) (by omega) (((hru.alloc _).alloc _).alloc _)).mono ?_;rw [hn2'.out];rintro e w1 ⟨A1,c1,rfl,hl1,hf1,hb1⟩;have hT:=pW hb1;obtain ⟨d0,d1,d2,e0,e1,e2⟩:=bW hT;replace hf1:Fresh (w.heap.size+3) w1 A1 (cP d ku 0 0 us):=hf1.mono (by simp);replace hb1:Bw w w1:=bw3.trans (hb1.mono (by simp;omega)))
   refine bodyPost_ret (v:=.agg #[.int .i64 ku,.int .i64 n2,.slice A1 (cP d ku 0 0 us).length c1]) (by simp [results,results127,go_sem,d0,d1,d2]) rfl ⟨A1,c1,by simp,hl1,?_,?_⟩
   ·exact (mU hf1).mono (by omega)
   ·exact bT hb1
  ·rw [if_neg (by rintro ⟨-,h⟩;exact hnx h)] at hfl;have q0:(n==x)=false:=by simpa using hnx
   by_cases hxn:x<n
   ·rw [if_pos ⟨rfl,hxn⟩] at hfl;injection hfl with h1 h2 h3;subst h1 h2 h3;have q2:decide (x<n)=true:=by simpa using hxn
    clear hnx;go_enter func127,ntmps127;go_wp2_with fail
    go_loopw [10] (fun i wr=>i = .int .i64 0∧Blk wr (w.heap.size+1+1+1) (Ro 1 (n - 1) none 0 0)∧Blk wr (w.heap.size+1+1) Zr∧Blk wr w.heap.size (Ro 1 n A 0 c)∧Bw w wr)
     (fun _ _=>0)
    case atStart=>exact ⟨rfl,aC _ _ _ (by simp),(aC _ _ _ (by simp)).alloc _,(((aC _ _ _ rfl).alloc _).alloc _).alloc _,bw4⟩
    case round=>
     obtain ⟨rfl,hB3,hB2,hB1,hb⟩:=hrel;have b2:=hB1.at_ (i:=2) rfl;obtain ⟨c0,c1,c2⟩:=hB3.three;obtain ⟨d0,d1,d2,e0,e1,e2⟩:=bW hB2;go_wp2_with fail
     refine bodyPost_ret (v:=.agg (Ro 1 (n - 1) none 0 0)) (by simp [results,results127,go_sem,d0,d1,d2]) rfl ⟨none,0,by simp [cQ],by simp [cQ],?_,?_⟩
     ·simpa [cQ] using (Fresh.nil:Fresh w.heap.size _ none [])
     ·exact bT hb
   ·rw [if_neg (by rintro ⟨-,h⟩;exact hxn h)] at hfl;injection hfl with h1 h2 h3;subst h1 h2 h3;have q2:decide (x<n)=false:=by simpa using hxn
    clear hnx;go_enter func127,ntmps127;go_wp2_with fail
    go_loopw [10] (fun i wr=>i = .int .i64 0∧Blk wr (w.heap.size+1+1+1) (Ro 1 (n) none 0 0)∧Blk wr (w.heap.size+1+1) Zr∧Blk wr w.heap.size (Ro 1 n A 0 c)∧Bw w wr)
     (fun _ _=>0)
    case atStart=>exact ⟨rfl,aC _ _ _ (by simp),(aC _ _ _ (by simp)).alloc _,(((aC _ _ _ rfl).alloc _).alloc _).alloc _,bw4⟩
    case round=>
     obtain ⟨rfl,hB3,hB2,hB1,hb⟩:=hrel;have b2:=hB1.at_ (i:=2) rfl;obtain ⟨c0,c1,c2⟩:=hB3.three;obtain ⟨d0,d1,d2,e0,e1,e2⟩:=bW hB2;go_wp2_with fail
     refine bodyPost_ret (v:=.agg (Ro 1 (n) none 0 0)) (by simp [results,results127,go_sem,d0,d1,d2]) rfl ⟨none,0,by simp [cQ],by simp [cQ],?_,?_⟩
     ·simpa [cQ] using (Fresh.nil:Fresh w.heap.size _ none [])
     ·exact bT hb
 ·have hn:¬(k=1∧n=x):=by rintro ⟨h,-⟩;exact hk h
  rw [if_neg hn,if_neg (by rintro ⟨h,-⟩;exact hk h)] at hfl;injection hfl with h1 h2 h3;subst h1 h2 h3;have hkids':=aD hkids;have hm2':=aD hm2;clear hkids ha hsh hm2;have q1:(k==1)=false:=by simpa using hk
  clear hn hk;go_enter func127,ntmps127;go_wp2_with fail
  go_loopw [10,11] (fun i _ wr=>∃(j:Nat) (v:Value),j≤ks.length∧i = .int .i64 j∧Part (w.heap.size+4) wr v (cQ (.mk ku nu us) k x d 0 (ks.take j))∧Blk wr (w.heap.size+1+1+1) #[.int .i64 k,.int .i64 (n),v]∧Blk wr (w.heap.size+1+1) Zr∧Blk wr (w.heap.size+1) (Ro ku nu U us.length cu)∧Blk wr w.heap.size (Ro k n A ks.length c)∧Bw w wr)
   (fun i _ _=>ks.length - (intOf i).toNat)
  case atStart=>exact ⟨0,_,Nat.zero_le _,rfl,Part.nil,aC _ _ _ (by simp),(aC _ _ _ (by simp)).alloc _,((aC _ _ _ (by simp)).alloc _).alloc _,(((aC _ _ _ rfl).alloc _).alloc _).alloc _,bw4⟩
  case round=>
   obtain ⟨j,v,hj,rfl,hp,hB3,hB2,hBu,hB1,hb⟩:=hrel;have c12:=hB1.at_ (i:=2) rfl;have c10:=hB1.at_ (i:=0) rfl;by_cases hlt:j<ks.length
   ·obtain ⟨b,off,k',n',ks',A',c',rfl,hkj,hc1,hc2,hc3,hl',hr'⟩:=(hr.below hb).at_ hlt;have hsz:=cM (iS hlt);have hsk:=hkids'.out _ (iS hlt);rw [hkj] at hsz hsk;simp only [Tm.size] at hsz
    have H3:=aD hkj;have H4:=aD hsk;clear hkj hsk;have hz:=hB3.lt;obtain ⟨k2,n2,ks2,hct⟩:∃k2 n2 ks2,dC (.mk ku nu us) (x+aR k j) (d+aR k j) (.mk k' n' ks') = .mk k2 n2 ks2:=jF _;have hct':=aD hct;clear hct;have hun:=dH k j;go_wp2_with (go_at_call 144;refine (qN _ _ _).mono ?_;rintro e w9 ⟨rfl,rfl⟩)
    have x2:=hB3.rule (i:=2) rfl;have a0:=hBu.rule (i:=0) rfl;have a1:=hBu.rule (i:=1) rfl;have a2:=hBu.rule (i:=2) rfl;have b2:=hB1.rule (i:=2) rfl;obtain ⟨y0,y1,y2⟩:=rN hc1 hc2 hc3;refine bK (fun w'=>Bw wr w') [0,1,2,3,4,5,6,7,8,9,10,11,12,13] [14,15] [16,17,18] [_,_,_,_,_,_,_,_,_,_,_,_,_,_] [_,_] [_,_,_] (by kernel_rfl) (by kernel_rfl) rfl rfl rfl (fun _ _ d _ _ h=>by cases d<;>exact h) (fG _ _).drew ?_;refine bV (aD ?_);refine bF ?_;go_wp2_with (go_at_call 127;refine (ih k' n' ks' A' c' U cu (x+aR k j) (d+aR k j) q _ (by omega) (by omega) H4.out (by omega) (by omega) (by omega) (by omega) hr'.drew (hru.below hb).drew k2 n2 ks2 hct'.out).mono ?_;rintro e w1 ⟨A1,c1,rfl,hl1,hf1,hb1⟩)
    have hx1:Bw wr w1:=(fG _ _).drew.trans hb1;refine aP hx1 (bF ?_);go_wp2_with fail
    refine aP (hx1.alloc hx1.size _) (cZ ?_);refine cL (B:=w.heap.size+4) (m:=j) hp.drew hb1 (by simp;omega) hf1 hl1 (by rw [dK];simp;omega) (by omega) rfl (.tmp 54) (.tmp 68) rfl rfl rfl ?_;intro A2 c2 w2 hp2 hb2 hg2;have q3:Blk w2 (w.heap.size+1+1+1) #[.int .i64 k,.int .i64 (n),v]:=(hB3.below hx1 (by omega)).below hb2 (by omega);have q2:Blk w2 (w.heap.size+1+1) Zr:=(hB2.below hx1 (by omega)).below hb2 (by omega);have qu:Blk w2 (w.heap.size+1) (Ro ku nu U us.length cu):=(hBu.below hx1 (by omega)).below hb2 (by omega);have q1':Blk w2 w.heap.size (Ro k n (some ⟨b,off,none⟩) ks.length c):=(hB1.below hx1 (by omega)).below hb2 (by omega);have c3:w2.cell? ⟨w.heap.size+1+1+1,2,none⟩=some v:=q3.at_ rfl;have z3:=q3.frozen 2;have hbf:Bw w w2:=(hb.trans (hx1.mono (by omega))).trans (hb2.mono (by omega));clear x2 y0 y1 y2 b2 a0 a1 a2;go_wp2_with fail
    go_roundw
    case rel=>exact ⟨j+1,_,by omega,by go_num,by rw [zS _ k x d hlt,H3.out,hct'.out];exact hp2.setCell (by simp) _,q3.set_ 2 _,q2.far (by simp) _,qu.far (by simp) _,q1'.far (by simp;omega) _,hbf.setCell (by simp;omega) _⟩
    case measure=>simp [intOf];omega
   ·have hjl:j=ks.length:=by omega
    subst hjl;rw [List.take_length] at hp;obtain ⟨Ar,cr,rfl,hfr⟩:=hp.fresh;obtain ⟨c0,c1,c2⟩:=hB3.three;obtain ⟨d0,d1,d2,e0,e1,e2⟩:=bW hB2;go_wp2_with fail
    refine bodyPost_ret (v:=.agg #[.int .i64 k,.int .i64 (n),.slice Ar (cQ (.mk ku nu us) k x d 0 ks).length cr]) (by simp [results,results127,go_sem,d0,d1,d2]) rfl ⟨Ar,cr,rfl,by rw [dK];omega,?_,?_⟩
    ·exact (mU hfr).mono (by omega)
    ·exact bT hb
end Go.Proofs.YtajjhldcjikkpaaGreat
