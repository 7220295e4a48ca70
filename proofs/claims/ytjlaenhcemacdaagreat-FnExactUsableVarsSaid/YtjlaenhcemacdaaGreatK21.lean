/- Parts of the proof. No condition. -/
import Derived.Test.YtjlaenhcemacdaaGreatK18
import Derived.Test.YtjlaenhcemacdaaGreatK20
open Go.Proofs.Tryz
namespace Go.Proofs.YtjlaenhcemacdaaGreat
open Go.RowKit
set_option maxHeartbeats 8000000
set_option maxRecDepth 100000
set_option linter.unusedSimpArgs false
set_option linter.unusedVariables false
mutual
def sX:Int→Tm→Int|y,.mk k n ks=>(if k=1∧n=y then 1 else 0)+pM y k 0 ks
def pM:Int→Int→Nat→List Tm→Int|_,_,_,[]=>0|y,k,i,t::ts=>sX (y+aM k i) t+pM y k (i+1) ts
end
theorem wC (y k:Int)(us:List Tm):∀(ts:List Tm) (i:Nat),pM y k i (ts++us)=pM y k i ts+pM y k (i+ts.length) us
 | [],i=>by simp [pM]
 | t::ts,i=>by rw [List.cons_append,pM,pM,wC y k us ts (i+1),List.length_cons,show i+1+ts.length=i+(ts.length+1) from by omega];omega
theorem aDh (y k:Int){ks:List Tm}{j:Nat}(hj:j<ks.length):pM y k 0 (ks.take (j+1))=pM y k 0 (ks.take j)+sX (y+aM k j) ks[j]:=by
 rw [tI hj,wC,List.length_take,Nat.min_eq_left (Nat.le_of_lt hj),Nat.zero_add,pM,pM];omega
theorem tm_le:(∀(t:Tm) (y:Int),0≤sX y t∧sX y t≤t.size)∧(∀(ts:List Tm) (y k:Int) (i:Nat),0≤pM y k i ts∧pM y k i ts≤aG ts):=by
 refine bA (fun k n ks ih y=>?_) (fun y k i=>by rw [pM];simp [aG]) (fun t ts h1 h2 y k i=>?_)
 ·rw [sX];have:=ih y k 0;simp only [Tm.size]
  split<;>omega
 ·rw [pM];have a1:=h1 (y+aM k i);have a2:=h2 y k (i+1);simp only [aG]
  omega
theorem zE {w w':World}{g B:Nat}(h:w.grownBy w' (some g))(hB:B≤w.heap.size)(hg:B≤g):Below B w w':=
 ⟨h.os,h.tape,h.output,h.size,fun b hb=>h.block b (by omega) (by simp;omega)⟩
def aPo:Value:=.tuple #[]
theorem aIz (z x cc:Int)(g nb:Nat)(w:World)(hg:Blk w g #[.int .i64 cc])(hn:Blk w nb #[.int .i64 x])(h0:0≤cc)(h1:cc≤2000000) :
  Calls prog 90 #[.int .i64 z,.pointer (some ⟨nb,0,none⟩),.pointer (some ⟨g,0,none⟩)] w fun e w'=>e = .returned aPo∧Blk w' g #[.int .i64 (cc+if z=x then 1 else 0)]∧w.grownBy w' (some g):=by
 have a1:=hg.at_ (i:=0) rfl;have a2:=hg.frozen 0;have a3:=hn.at_ (i:=0) rfl;by_cases hz:z=x
 ·rw [if_pos hz];subst hz;go_enter func90,ntmps90;go_wp2_with fail
  first|(refine bodyPost_ret (results_none rfl _ _ _) rfl ?_)|(refine bodyPost_end (results_none rfl _ _ _) rfl ?_)
  exact ⟨rfl,hg.set_ 0 _,aK (mJ _ _) (.inl rfl) _⟩
 ·rw [if_neg hz,Int.add_zero];have q1:(z==x)=false:=by simpa using hz
  clear hz;go_enter func90,ntmps90;go_wp2_with fail
  first|(refine bodyPost_ret (results_none rfl _ _ _) rfl ?_)|(refine bodyPost_end (results_none rfl _ _ _) rfl ?_)
  exact ⟨rfl,hg,mJ _ _⟩
def aPz (g:Nat)(cc:Int)(w:World)(e:Ending)(w':World):Prop:=e = .returned aPo∧Blk w' g #[.int .i64 cc]∧w.grownBy w' (some g)
theorem aIe (N:Nat):∀(k n:Int) (ks:List Tm) (A:Option Addr) (c:Nat) (d:Int) (q:Nat) (g nb:Nat) (x cc:Int) (w:World),aG ks<N→aG ks≤1000000→shape q (.mk k n ks)=true→0≤d→d+q≤1000→Blk w g #[.int .i64 cc]→Blk w nb #[.int .i64 x]→nb≠g→0≤x→0≤cc→cc+aG ks+1≤2000000→RdP (·≠g) w A 0 ks→
  Calls prog 89 #[.agg (Ro k n A ks.length c),.int .i64 d,.func (.func 90) #[] #[.pointer (some ⟨nb,0,none⟩),.pointer (some ⟨g,0,none⟩)]] w (aPz g (cc+sX (d+x) (.mk k n ks)) w):=by
 induction N with
 | zero=>intro k n ks A c d q g nb x cc w hN;exact absurd hN (Nat.not_lt_zero _)
 | succ N ih=>
 intro k n ks A c d q g nb x cc w hN hZM hsh hd hdq hg hnb hne hx h0 hM hr;have hrun:=fG func90 (by kernel_rfl) (by kernel_rfl);have hlen:=aJ ks;obtain ⟨q,rfl,ha,hm1,hm2,hkids⟩:=bY hsh;have hgl:=hg.lt;rw [sX];by_cases hk:k=1
 ·subst hk;have:=rN ha;subst this;have hn2:n≤20:=by simpa [dG] using hm2
  rw [pM,Int.add_zero];clear hkids hsh ha hm2;by_cases h1:d≤n
  ·have q1:decide (d≤n)=true:=decide_eq_true h1;have hcv':=aD (show cc+(if n - d=x then 1 else 0)=cc+(if (1:Int)=1∧n=d+x then 1 else 0) from by
    by_cases h:n - d=x
    ·rw [if_pos h,if_pos ⟨rfl,by omega⟩]
    ·rw [if_neg h,if_neg (by rintro ⟨-,h2⟩;omega)])
   generalize cc+(if (1:Int)=1∧n=d+x then 1 else 0)=cv at *
   clear h1;go_enter func89,ntmps89;go_wp2_with (refine (aIz (n - d) x cc g nb _ (hg.alloc _) (hnb.alloc _) h0 (by omega)).mono ?_;rw [hcv'.out];rintro e w1 ⟨rfl,hg1,hb1⟩;have hB1:=(aC (n:=w.heap.size) w 32 (Ro 1 n A 0 c) rfl).grown hb1 (by simp;omega);replace hb1:=fV (bE (mJ _ _) _) hb1;have b2:=hB1.at_ (i:=2) rfl)
   go_loopw [26] (fun i wr=>i = .int .i64 0∧Blk wr g #[.int .i64 (cv)]∧w.grownBy wr (some g)) (fun _ _=>0)
   case atStart=>exact ⟨rfl,hg1,hb1⟩
   case round=>
    obtain ⟨rfl,hG,hgr⟩:=hrel;go_wp2_with fail
    first|(refine bodyPost_ret (results_none rfl _ _ _) rfl ?_)|(refine bodyPost_end (results_none rfl _ _ _) rfl ?_)
    exact ⟨rfl,hG,hgr⟩
  ·have q1:decide (d≤n)=false:=decide_eq_false h1;have hx0:=aD (show cc+(if (1:Int)=1∧n=d+x then 1 else 0)=cc from by rw [if_neg (by rintro ⟨-,h⟩;omega),Int.add_zero]);rw [hx0.out];clear h1;go_enter func89,ntmps89;go_wp2_with fail
   have hb1:w.grownBy (w.alloc (.cells (Ro 1 n A 0 c) 32)) (some g):=bE (mJ _ _) _;have hg1:=hg.alloc (.cells (Ro 1 n A 0 c) 32);go_loopw [26] (fun i wr=>i = .int .i64 0∧Blk wr g #[.int .i64 (cc)]∧w.grownBy wr (some g)) (fun _ _=>0)
   case atStart=>exact ⟨rfl,hg1,hb1⟩
   case round=>
    obtain ⟨rfl,hG,hgr⟩:=hrel;go_wp2_with fail
    first|(refine bodyPost_ret (results_none rfl _ _ _) rfl ?_)|(refine bodyPost_end (results_none rfl _ _ _) rfl ?_)
    exact ⟨rfl,hG,hgr⟩
 ·have q1:(k==1)=false:=by simpa using hk
  rw [if_neg (by rintro ⟨h,-⟩;exact hk h),Int.zero_add];have hkids':=aD hkids;clear hk hkids hsh ha hm2;go_enter func89,ntmps89;go_wp2_with fail
  go_loopw [26] (fun i wr=>∃(j:Nat),j≤ks.length∧i = .int .i64 j∧Blk wr g #[.int .i64 (cc+pM (d+x) k 0 (ks.take j))]∧Blk wr w.heap.size (Ro k n A ks.length c)∧w.grownBy wr (some g)) (fun i _=>ks.length - (intOf i).toNat)
  case atStart=>exact ⟨0,Nat.zero_le _,rfl,by simpa [pM] using hg.alloc _,aC _ _ _ rfl,bE (mJ _ _) _⟩
  case round=>
   obtain ⟨j,hj,rfl,hG,hB1,hgr⟩:=hrel;by_cases hlt:j<ks.length
   ·obtain ⟨b,off,k1,n1,ks1,A1,c1,rfl,hkj,hc1,hc2,hc3,hl1,hr1⟩:=(hr.grown hgr (fun b hb e=>hb (by injection e))).at_ hlt;have hbl:=mI _ _ hc1;have hsz:=cF (iC hlt);have hcs:=tm_le.2 (ks.take j) (d+x) k 0;have hst:=nX ks j hlt;have hst2:=fI ks (j+1);have hsk:=hkids'.out _ (iC hlt);have hnx:=aD (show cc+pM (d+x) k 0 (ks.take (j+1))=cc+pM (d+x) k 0 (ks.take j)+sX (d+aM k j+x) ks[j] from by rw [aDh (d+x) k hlt,show d+x+aM k j=d+aM k j+x from by omega];omega);have hcj:cc+pM (d+x) k 0 (ks.take j)≤cc+aG (ks.take j):=by omega
    have hcj0:0≤cc+pM (d+x) k 0 (ks.take j):=by omega
    rw [hkj] at hst;simp only [Tm.size] at hst
    clear hcs;generalize cc+pM (d+x) k 0 (ks.take j)=cj at hG hcj hcj0 hnx
    rw [hkj] at hsz hsk;simp only [Tm.size] at hsz
    have H3:=aD hkj;have H4:=aD hsk;clear hkj hsk;go_wp2_with fail
    have hNew:=aC (n:=wr.heap.size) wr 32 (Ro k1 n1 A1 ks1.length c1) rfl;have hB1a:=hB1.alloc (.cells (Ro k1 n1 A1 ks1.length c1) 32);have hNa:=(hnb.grown hgr (fun e=>hne (by injection e))).alloc (.cells (Ro k1 n1 A1 ks1.length c1) 32);have hGa:=hG.alloc (.cells (Ro k1 n1 A1 ks1.length c1) 32);have hra:=hr1.alloc (.cells (Ro k1 n1 A1 ks1.length c1) 32);have hwa:wr.grownBy (wr.alloc (.cells (Ro k1 n1 A1 ks1.length c1) 32)) (some g):=bE (mJ _ _) _;generalize wr.alloc (.cells (Ro k1 n1 A1 ks1.length c1) 32)=wa at hNew hB1a hGa hNa hra hwa⊢
    have r7:=hB1a.rule (i:=0) rfl;have r1:=hNew.rule (i:=0) rfl;have r2:=hNew.rule (i:=1) rfl;have r3:=hNew.rule (i:=2) rfl;have hun:=cW k j;refine bL (fun w'=>Bw wa w') [0,1,2,3,4,5,6,7] [] [8] [_,_,_,_,_,_,_,_] [] [_] (by kernel_rfl) (by kernel_rfl) rfl rfl rfl (fun _ _ d _ _ h=>by cases d<;>exact h) (eR _ _).drew ?_;repeat (first|((refine kP (a':=?_) ?_ ?_ ?_);(rotate_left);(· (simp [Region.wanted,yielded,Go.undef];done));(· (simp only [List.getElem_toArray,List.getElem_cons_zero,List.getElem_cons_succ,Act.put,List.setIfInBounds_toArray,List.set_cons_zero,List.set_cons_succ];exact rfl)))|((refine kU (v:=?_) (a':=?_) ?_ ?_ ?_ ?_);(rotate_left 2);(· (simp [Region.wanted,yielded,Go.undef];done));(· (intro w' hS';go_simp;try (with_reducible rfl)));(· (simp only [List.getElem_toArray,List.getElem_cons_zero,List.getElem_cons_succ,Act.put,List.setIfInBounds_toArray,List.set_cons_zero,List.set_cons_succ];exact rfl)))|((refine mN (v:=?_) (a':=?_) 108 ?_ ?_ ?_ ?_ ?_ ?_);(rotate_left 3);(· (simp [Region.wanted,yielded,Go.undef];done));(· (intro w' hS';go_simp;try (with_reducible rfl)));(· (intro w' hS';exact kM _ _ _));(· (simp only [List.getElem_toArray,List.getElem_cons_zero,List.getElem_cons_succ,Act.put,List.setIfInBounds_toArray,List.set_cons_zero,List.set_cons_succ];exact rfl))))
    refine mA (dL ?_);clear r1 r2 r3 r7;go_wp2_with (go_at_call 89;refine (ih k1 n1 ks1 A1 c1 (d+aM k j) q g nb x cj _ (by omega) (by omega) H4.out (by omega) (by omega) hGa.drew hNa.drew hne hx hcj0 (by omega) hra.drew).mono ?_;rintro e w1 ⟨rfl,hg1,hb1⟩)
    have hb1':wr.grownBy w1 (some g):=fV hwa (fV (pI (mJ _ _)) hb1);go_roundw
    case rel=>exact ⟨j+1,by omega,by go_num,by rw [hnx.out,H3.out];exact hg1,hB1.grown hb1' (by simp;omega),fV hgr hb1'⟩
    case measure=>simp [intOf];omega
   ·go_wp2_with fail
    first|(refine bodyPost_ret (results_none rfl _ _ _) rfl ?_)|(refine bodyPost_end (results_none rfl _ _ _) rfl ?_)
    have hjl:j=ks.length:=by omega
    subst hjl;rw [List.take_length] at hG;exact ⟨rfl,hG,hgr⟩
theorem zT (k n:Int)(ks:List Tm)(A:Option Addr)(c:Nat)(x:Int)(hx:0≤x)(w:World)(hv:aE (.mk k n ks)=true)(hr:Rd w A 0 ks) :
  Calls prog 53 #[.agg (Ro k n A ks.length c),.int .i64 x] w fun e w'=>e = .returned (.int .i64 (sX x (.mk k n ks)))∧Bw w w':=by
 have hsh:shape 30 (.mk k n ks)=true:=by simp only [aE,Bool.and_eq_true] at hv;exact hv.1
 have hzv:=aH hv;have hRp:RdP (·≠w.heap.size+1+1) w A 0 ks:=hr.rdp.mono (fun b hb=>by have hb:b<w.heap.size:=hb;show b≠_;omega);have hshh:=aD hsh;clear hv hsh;go_enter func53,ntmps53;go_wp2_with (go_at_call 89;refine (aIe _ k n ks A c 0 30 (w.heap.size+1+1) (w.heap.size+1) x 0 _ (oH _) (by omega) hshh.out (by omega) (by omega) (aC _ _ _ (by simp)) ((aC _ _ _ (by simp)).alloc _) (by omega) hx (by omega) (by omega) (((hRp.alloc _).alloc _).alloc _)).mono ?_;rintro e w1 ⟨rfl,hg1,hb1⟩;rw [Int.zero_add,Int.zero_add] at hg1;have g0:=hg1.at_ (i:=0) rfl)
 go_ret
 exact ⟨rfl,bw3.trans (zE hb1 (by simp;omega) (by omega))⟩
def lft (s:Nat→Tm):Nat→Tm
 | 0=>.mk 1 0 []
 | n+1=>bT 1 0 (s n)
mutual
def ins (s:Nat→Tm):Tm→Tm
 | .mk k n ks=>if k=1 then s n.toNat else .mk k n (eD s k 0 ks)
def eD (s:Nat→Tm)(k:Int):Nat→List Tm→List Tm
 | _,[]=>[]
 | i,t::ts=>ins (if aM k (i:Int)=0 then s else lft s) t::eD s k (i+1) ts
end
mutual
def cV:Tm→Bool
 | .mk k n ks=>(if k=1 then decide (0≤n) && ks.isEmpty else true) && oK ks
def oK:List Tm→Bool
 | []=>true
 | t::ts=>cV t && oK ts
end
theorem wf_iff {k n:Int}{ks:List Tm}:cV (.mk k n ks)=true↔(k=1→0≤n∧ks=[])∧oK ks=true:=by
 rw [cV,Bool.and_eq_true];by_cases h:k=1
 ·simp only [h,if_true,Bool.and_eq_true,decide_eq_true_eq,List.isEmpty_iff,forall_const]
 ·simp only [h,if_false,true_and,false_imp_iff]
theorem wfL_iff:∀{ts:List Tm},oK ts=true↔∀t,t∈ts→cV t=true
 | []=>⟨fun _ t ht=>absurd ht List.not_mem_nil,fun _=>rfl⟩
 | t::ts=>by
  rw [oK,Bool.and_eq_true,wfL_iff (ts:=ts)];exact ⟨fun h u hu=>(List.mem_cons.1 hu).elim (fun e=>e▸h.1) (h.2 u),fun h=>⟨h t List.mem_cons_self,fun u hu=>h u (List.mem_cons_of_mem _ hu)⟩⟩
theorem cN {k n:Int}{ks:List Tm}(h:cV (.mk k n ks)=true)(i:Nat):cV (aI ks i)=true:=by
 by_cases hi:i<ks.length
 ·exact wfL_iff.1 (wf_iff.1 h).2 _ (gF hi)
 ·rw [iL (by omega)];rfl
theorem aBv:∀(d:Nat) (t:Tm),shape d t=true→cV t=true
 | d,.mk k n ks,h=>by
  obtain ⟨q,rfl,ha,h0,h1,hk⟩:=bY h;refine wf_iff.2 ⟨fun e=>⟨h0,?_⟩,wfL_iff.2 fun t ht=>aBv q t (hk t ht)⟩;subst e;exact List.length_eq_zero_iff.1 (by have:aU 1=0:=rfl;omega)
theorem aDa {t:Tm}(h:aE t=true):cV t=true:=aBv 30 t (aY h)
theorem eE {s:Nat→Tm}{n:Int}{ks:List Tm}:ins s (.mk 1 n ks)=s n.toNat:=by rw [ins,if_pos rfl]
theorem dH {s:Nat→Tm}{k n:Int}{ks:List Tm}(h:k≠1):ins s (.mk k n ks) = .mk k n (eD s k 0 ks):=by rw [ins,if_neg h]
theorem eG (s:Nat→Tm)(k:Int):∀(ts:List Tm) (i:Nat),(eD s k i ts).length=ts.length
 | [],i=>rfl
 | t::ts,i=>by rw [eD,List.length_cons,List.length_cons,eG s k ts (i+1)]
theorem aDg (s:Nat→Tm)(k:Int):∀(ts:List Tm) (i j:Nat),aI (eD s k i ts) j=if j<ts.length then ins (if aM k ((i+j:Nat):Int)=0 then s else lft s) (aI ts j) else default
 | [],i,j=>by rw [eD,uO,if_neg (by simp)]
 | t::ts,i,0=>by rw [eD,kH,kH];exact (if_pos (Nat.zero_lt_succ _)).symm
 | t::ts,i,j+1=>by
  rw [eD,gR,gR,aDg s k ts (i+1) j,show i+1+j=i+(j+1) by omega];by_cases h:j<ts.length
  ·rw [if_pos h];exact (if_pos (Nat.succ_lt_succ h)).symm
  ·rw [if_neg h];exact (if_neg fun h2=>h (Nat.lt_of_succ_lt_succ h2)).symm
theorem aCg (s:Nat→Tm):ins s default=default:=by
 show ins s (.mk 0 0 [])=_
 rw [dH (by decide),eD];rfl
theorem kL (s:Nat→Tm)(k:Int)(ts:List Tm)(j:Nat):aI (eD s k 0 ts) j=ins (if aM k (j:Int)=0 then s else lft s) (aI ts j):=by
 rw [aDg,Nat.zero_add];by_cases h:j<ts.length
 ·rw [if_pos h]
 ·rw [if_neg h,iL (by omega),aCg]
theorem fE {s:Nat→Tm}{k:Int}{ts:List Tm}(hb:binds k=false)(j:Nat):aI (eD s k 0 ts) j=ins s (aI ts j):=by
 rw [kL,if_pos (by unfold aM;rw [if_neg (by rw [hb];rintro ⟨-,h⟩;cases h)])]
theorem aAv {s:Nat→Tm}{t:Tm}(h:t.k≠1)(j:Nat):aI (ins s t).ks j=ins (if aM t.k (j:Int)=0 then s else lft s) (aI t.ks j):=by
 obtain ⟨k,n,ks⟩:=t;have h':k≠1:=h;rw [dH h'];exact kL s k ks j
theorem aPp {s:Nat→Tm}{t:Tm}(h:t.k≠1):(ins s t).k=t.k:=by
 obtain ⟨k,n,ks⟩:=t;have h':k≠1:=h;rw [dH h'];rfl
theorem ins_ext:(∀(t:Tm) (s s':Nat→Tm),(∀n,s n=s' n)→ins s t=ins s' t)∧∀(ts:List Tm) (k:Int) (i:Nat) (s s':Nat→Tm),(∀n,s n=s' n)→eD s k i ts=eD s' k i ts:=by
 refine bA (fun k n ks ih s s' h=>?_) (fun k i s s' h=>?_) (fun t ts h1 h2 k i s s' h=>?_)
 ·rw [ins,ins,ih k 0 s s' h,h]
 ·rfl
 ·rw [eD,eD,h2 k (i+1) s s' h];congr 1
  split
  ·exact h1 _ _ h
  ·refine h1 _ _ fun n=>?_
   cases n with
   | zero=>rfl
   | succ n=>rw [lft,lft,h]
theorem aFa (b:Int)(hb:0≤b):(∀(t:Tm) (s:Nat→Tm) (c:Int),cV t=true→0≤c→bT b c (ins s t)=ins (fun n=>bT b c (s n)) t)∧
  ∀(ts:List Tm) (k:Int) (i:Nat) (s:Nat→Tm) (c:Int),oK ts=true→0≤c→bN b k c i (eD s k i ts)=eD (fun n=>bT b c (s n)) k i ts:=by
 refine bA (fun k n ks ih s c hw hc=>?_) (fun k i s c hw hc=>?_) (fun t ts h1 h2 k i s c hw hc=>?_)
 ·by_cases hk:k=1
  ·subst hk;rw [eE,eE]
  ·rw [dH hk,dH hk,eJ hk,ih k 0 s c (wf_iff.1 hw).2 hc]
 ·simp only [eD,bN]
 ·rw [oK,Bool.and_eq_true] at hw;simp only [eD,bN]
  rw [h2 k (i+1) s c hw.2 hc];congr 1
  rcases uI k i with hu|hu
  ·rw [hu,if_pos rfl,if_pos rfl,Int.add_zero,h1 _ _ hw.1 hc]
  ·rw [hu,if_neg (by decide),if_neg (by decide),h1 _ _ hw.1 (by omega)];refine ins_ext.1 t _ _ fun n=>?_
   cases n with
   | zero=>rw [lft,nO (by omega),lft,bN]
   | succ n=>rw [lft,lft,(aFk 1 b (by decide) hb).1 (s n) 0 c hc]
theorem aKg (v:Tm):(∀(t:Tm) (s:Nat→Tm) (x d:Int),cV t=true→0≤d→d≤x→bX v x d (ins s t)=ins (fun n=>bX v x d (s n)) t)∧
  ∀(ts:List Tm) (k:Int) (i:Nat) (s:Nat→Tm) (x d:Int),oK ts=true→0≤d→d≤x→cE v k x d i (eD s k i ts)=eD (fun n=>bX v x d (s n)) k i ts:=by
 refine bA (fun k n ks ih s x d hw hd hx=>?_) (fun k i s x d hw hd hx=>?_) (fun t ts h1 h2 k i s x d hw hd hx=>?_)
 ·by_cases hk:k=1
  ·subst hk;rw [eE,eE]
  ·rw [dH hk,dH hk,lS hk,ih k 0 s x d (wf_iff.1 hw).2 hd hx]
 ·simp only [eD,cE]
 ·rw [oK,Bool.and_eq_true] at hw;simp only [eD,cE]
  rw [h2 k (i+1) s x d hw.2 hd hx];congr 1
  rcases uI k i with hu|hu
  ·rw [hu,if_pos rfl,if_pos rfl,Int.add_zero,Int.add_zero,h1 _ _ _ hw.1 hd hx]
  ·rw [hu,if_neg (by decide),if_neg (by decide),h1 _ _ _ hw.1 (by omega) (by omega)];refine ins_ext.1 t _ _ fun n=>?_
   cases n with
   | zero=>rw [lft,gJ (by omega),lft,cE]
   | succ n=>rw [lft,lft,(aEi v 1 (by decide)).1 (s n) 0 d x (by omega) hd hx]
def sC (v:Tm)(s:Nat→Tm):Nat→Tm
 | 0=>v
 | n+1=>s n
theorem tL (t:Tm)(c:Int):bT 0 c t=t:=(show (∀(t:Tm) (c:Int),bT 0 c t=t)∧(∀(ts:List Tm) (k c:Int) (i:Nat),bN 0 k c i ts=ts) by
 refine bA (fun k n ks ih c=>?_) (fun k c i=>?_) (fun t ts h1 h2 k c i=>?_)
 ·rw [bT,ih];simp
 ·rw [bN]
 ·rw [bN,h1,h2]).1 t c
theorem aAm (v:Tm)(s:Nat→Tm){t:Tm}(hw:cV t=true):bX v 0 0 (ins (lft s) t)=ins (sC v s) t:=by
 rw [(aKg v).1 t (lft s) 0 0 hw (by decide) (by decide)];refine ins_ext.1 t _ _ fun n=>?_
 cases n with
 | zero=>rw [lft,vB rfl,sC,tL]
 | succ n=>
  rw [lft,sC];have:=(uN v 0 (by decide)).1 (s n) 0 0 0 (by decide) (by decide);rw [Int.zero_add] at this;rw [this,tL]
def lfn:Nat→(Nat→Tm)→Nat→Tm
 | 0,s=>s
 | e+1,s=>lft (lfn e s)
theorem wL:∀(e:Nat) (s:Nat→Tm) (n:Nat),n<e→lfn e s n = .mk 1 (n:Int) []
 | e+1,s,0,_=>rfl
 | e+1,s,n+1,h=>by
  rw [lfn,lft,wL e s n (by omega),kO (by omega),bN];rfl
theorem qJ:∀(e:Nat) (s:Nat→Tm) (n:Nat),lfn e s (n+e)=bT (e:Int) 0 (s n)
 | 0,s,n=>by rw [lfn,Nat.add_zero];exact (tL _ _).symm
 | e+1,s,n=>by
  rw [lfn,show n+(e+1)=(n+e)+1 by omega,lft,qJ e s n,(lW 1 (e:Int) (by omega)).1 _ 0 0 (by decide) (by omega)];congr 1;omega
theorem aQz (b:Nat):(∀(t:Tm) (s:Nat→Tm) (e:Nat),cV t=true→ins (lfn e s) (bT (b:Int) (e:Int) t)=ins (lfn e fun n=>s (n+b)) t)∧
  ∀(ts:List Tm) (k:Int) (i:Nat) (s:Nat→Tm) (e:Nat),oK ts=true→eD (lfn e s) k i (bN (b:Int) k (e:Int) i ts)=eD (lfn e fun n=>s (n+b)) k i ts:=by
 refine bA (fun k n ks ih s e hw=>?_) (fun k i s e hw=>?_) (fun t ts h1 h2 k i s e hw=>?_)
 ·by_cases hk:k=1
  ·subst hk;obtain ⟨h0,rfl⟩:=(wf_iff.1 hw).1 rfl;obtain ⟨m,rfl⟩:=Int.eq_ofNat_of_zero_le h0;by_cases hm:e≤m
   ·rw [kO (by omega),eE,eE,show ((m:Int)+(b:Int)).toNat=(m - e+b)+e by omega,qJ,Int.toNat_natCast];conv=>rhs;rw [show m=(m - e)+e by omega,qJ]
   ·rw [nO (by omega),eE,eE,Int.toNat_natCast,wL _ _ _ (by omega),wL _ _ _ (by omega)]
  ·rw [eJ hk,dH hk,dH hk,ih k 0 s e (wf_iff.1 hw).2]
 ·simp only [eD,bN]
 ·rw [oK,Bool.and_eq_true] at hw;simp only [eD,bN]
  rw [h2 k (i+1) s e hw.2];congr 1
  rcases uI k i with hu|hu
  ·rw [hu,if_pos rfl,if_pos rfl,Int.add_zero,h1 s e hw.1]
  ·rw [hu,if_neg (by decide),if_neg (by decide)];exact h1 s (e+1) hw.1
theorem rZ (b:Nat)(s:Nat→Tm){t:Tm}(hw:cV t=true):ins s (bT (b:Int) 0 t)=ins (fun n=>s (n+b)) t:=(aQz b).1 t s 0 hw
theorem aRr (u:Tm)(hu:cV u=true):(∀(t:Tm) (s:Nat→Tm) (e:Nat),cV t=true→ins (lfn e s) (bX u (e:Int) (e:Int) t)=ins (lfn e (sC (ins s u) s)) t)∧
  ∀(ts:List Tm) (k:Int) (i:Nat) (s:Nat→Tm) (e:Nat),oK ts=true→eD (lfn e s) k i (cE u k (e:Int) (e:Int) i ts)=eD (lfn e (sC (ins s u) s)) k i ts:=by
 refine bA (fun k n ks ih s e hw=>?_) (fun k i s e hw=>?_) (fun t ts h1 h2 k i s e hw=>?_)
 ·by_cases hk:k=1
  ·subst hk;obtain ⟨h0,rfl⟩:=(wf_iff.1 hw).1 rfl;obtain ⟨m,rfl⟩:=Int.eq_ofNat_of_zero_le h0;rw [show ins (lfn e (sC (ins s u) s)) (.mk 1 (m:Int) [])=lfn e (sC (ins s u) s) m from eE];by_cases hm:m<e
   ·rw [gJ (by omega),cE,eE,Int.toNat_natCast,wL _ _ _ hm,wL _ _ _ hm]
   ·by_cases he:m=e
    ·subst he;have h2:lfn m (sC (ins s u) s) m=bT (m:Int) 0 (ins s u):=by
      have:=qJ m (sC (ins s u) s) 0;rw [Nat.zero_add] at this;exact this
     rw [vB rfl,h2,rZ m _ hu,(aFa (m:Int) (by omega)).1 u s 0 hu (by decide)];exact ins_ext.1 u _ _ fun n=>qJ m s n
    ·rw [iF (by omega),cE,eE,show ((m:Int) - 1).toNat=(m - 1 - e)+e by omega,qJ];conv=>rhs;rw [show m=(m - 1 - e+1)+e by omega,qJ]
     rfl
  ·rw [lS hk,dH hk,dH hk,ih k 0 s e (wf_iff.1 hw).2]
 ·simp only [eD,cE]
 ·rw [oK,Bool.and_eq_true] at hw;simp only [eD,cE]
  rw [h2 k (i+1) s e hw.2];congr 1
  rcases uI k i with hu|hu
  ·rw [hu,if_pos rfl,if_pos rfl,Int.add_zero,h1 s e hw.1]
  ·rw [hu,if_neg (by decide),if_neg (by decide)];exact h1 s (e+1) hw.1
theorem uL (s:Nat→Tm){u t:Tm}(hu:cV u=true)(ht:cV t=true):ins s (bX u 0 0 t)=bX (ins s u) 0 0 (ins (lft s) t):=by
 rw [aAm _ _ ht];exact (aRr u hu).1 t s 0 ht
def idS:Nat→Tm:=fun n=>.mk 1 (n:Int) []
theorem ins_id:(∀(t:Tm) (s:Nat→Tm),cV t=true→(∀n,s n = .mk 1 (n:Int) [])→ins s t=t)∧∀(ts:List Tm) (k:Int) (i:Nat) (s:Nat→Tm),oK ts=true→(∀n,s n = .mk 1 (n:Int) [])→eD s k i ts=ts:=by
 refine bA (fun k n ks ih s hw hs=>?_) (fun k i s hw hs=>?_) (fun t ts h1 h2 k i s hw hs=>?_)
 ·by_cases hk:k=1
  ·subst hk;obtain ⟨h0,rfl⟩:=(wf_iff.1 hw).1 rfl;rw [eE,hs,Int.toNat_of_nonneg h0]
  ·rw [dH hk,ih k 0 s (wf_iff.1 hw).2 hs]
 ·rfl
 ·rw [oK,Bool.and_eq_true] at hw;rw [eD,h2 k (i+1) s hw.2 hs];congr 1
  split
  ·exact h1 s hw.1 hs
  ·refine h1 _ hw.1 fun n=>?_
   cases n with
   | zero=>rfl
   | succ n=>rw [lft,hs,kO (by omega),bN];rfl
inductive Pr:Tm→Tm→Prop
 | node {k n:Int} {ks ls:List Tm}:ks.length=ls.length→(∀i,i<ks.length→Pr (aI ks i) (aI ls i))→Pr (.mk k n ks) (.mk k n ls)
 | red {k n:Int} {ks ls:List Tm}:rdx k ks≠0→ks.length=ls.length→(∀i,i<ks.length→Pr (aI ks i) (aI ls i))→Pr (.mk k n ks) (eA (.mk k n ls))
theorem Pr.refl:∀t,Pr t t:=jM fun k n ks ih=>.node rfl fun i hi=>ih _ (gF hi)
def PrL (ks ls:List Tm):Prop:=ks.length=ls.length∧∀i,Pr (aI ks i) (aI ls i)
theorem PrL.of {ks ls:List Tm}(h:ks.length=ls.length)(hk:∀i,i<ks.length→Pr (aI ks i) (aI ls i)):PrL ks ls:=⟨h,fun i=>by
 by_cases hi:i<ks.length
 ·exact hk i hi
 ·rw [iL (by omega),iL (by omega)];exact .refl _⟩
theorem PrL.node {ks ls:List Tm}(k n:Int)(h:PrL ks ls):Pr (.mk k n ks) (.mk k n ls):=.node h.1 fun i _=>h.2 i
theorem PrL.red {ks ls:List Tm}{k:Int}(n:Int)(hr:rdx k ks≠0)(h:PrL ks ls):Pr (.mk k n ks) (eA (.mk k n ls)):=.red hr h.1 fun i _=>h.2 i
theorem PrL.refl (ks:List Tm):PrL ks ks:=⟨rfl,fun i=>.refl _⟩
theorem tP {k:Int}{ks:List Tm}(h:rdx k ks≠0):k=5∨k=9∨k=12∨k=15∨k=16:=by
 rcases eX h with h|h|h|h|h|h<;>omega
theorem Pr.stay {t u:Tm}(h:Pr t u)(hk:¬(t.k=5∨t.k=9∨t.k=12∨t.k=15∨t.k=16)):u.k=t.k∧u.n=t.n∧PrL t.ks u.ks:=by
 cases h with
 | node h1 h2=>exact ⟨rfl,rfl,PrL.of h1 h2⟩
 | red hr _ _=>exact absurd (tP hr) hk
theorem PrL.rdx {k:Int}{ks ls:List Tm}(h:PrL ks ls)(hr:rdx k ks≠0):rdx k ls=rdx k ks:=by
 have hs:∀i (m:Int),fZ ks i=m→(m=4∨m=7∨m=8∨m=11∨m=14)→fZ ls i=m:=fun i m e hm=>by
  have h1:=((h.2 i).stay (by have:(aI ks i).k=m:=e;omega)).1;exact h1.trans e
 rcases eX hr with ⟨h1,rfl,h2⟩|⟨h1,rfl,h2⟩|⟨h1,rfl,h2⟩|⟨h1,rfl,h2⟩|⟨h1,rfl,h2⟩|⟨h1,rfl,h2⟩<;>
  (have h3 := hs _ _ h2 (by decide); unfold Go.Proofs.YtjlaenhcemacdaaGreat.rdx; simp [h2, h3])
theorem Pr.sh {t u:Tm}(h:Pr t u){b:Int}(hb:0≤b):∀{c:Int},0≤c→Pr (bT b c t) (bT b c u):=by
 induction h with
 | @node k n ks ls hl hk ih=>
  intro c hc;rw [bT,bT];refine (PrL.of (by rw [cO,cO];exact hl) fun i hi=>?_).node k _;rw [cO] at hi;rw [mY,mY];exact ih i hi (by have:=cW k i;omega)
 | @red k n ks ls hr hl hk ih=>
  intro c hc;have hP:PrL ks ls:=PrL.of hl hk;have h1:k≠1:=by have:=tP hr;omega
  rw [aJw hb hc (by rw [hP.rdx hr];exact hr),eJ h1,eJ h1];refine (PrL.of (by rw [cO,cO];exact hl) fun i hi=>?_).red n (by rw [aAu];exact hr);rw [cO] at hi;rw [mY,mY];exact ih i hi (by have:=cW k i;omega)
theorem Pr.sb {t t' u u':Tm}(h:Pr t t')(hu:Pr u u'):∀{x d:Int},0≤d→d≤x→Pr (bX u x d t) (bX u' x d t'):=by
 induction h with
 | @node k n ks ls hl hk ih=>
  intro x d hd hx;have hP:PrL (cE u k x d 0 ks) (cE u' k x d 0 ls):=PrL.of (by rw [dK,dK];exact hl) fun i hi=>by
   rw [dK] at hi;rw [nP,nP];have:=cW k i;exact ih i hi (by omega) (by omega)
  rw [bX,bX];by_cases h1:k=1∧n=x
  ·rw [if_pos h1,if_pos h1];exact hu.sh hd (by omega)
  ·rw [if_neg h1,if_neg h1];exact hP.node k _
 | @red k n ks ls hr hl hk ih=>
  intro x d hd hx;have hP:PrL ks ls:=PrL.of hl hk;have h1:k≠1:=by have:=tP hr;omega
  rw [aLb hd hx (by rw [hP.rdx hr];exact hr),lS h1,lS h1];refine (PrL.of (by rw [dK,dK];exact hl) fun i hi=>?_).red n (by rw [aEp hr];exact hr);rw [dK] at hi;rw [nP,nP];have:=cW k i;exact ih i hi (by omega) (by omega)
theorem aTj {a b a' b':Tm}(h1:Pr a a')(h2:Pr b b'):PrL [a,b] [a',b']:=PrL.of rfl fun i hi=>by
 have:i=0∨i=1:=by have:i<2:=hi;omega
 rcases this with rfl|rfl
 ·exact h1
 ·exact h2
theorem aUc {a b c e a' b' c' e':Tm}(h1:Pr a a')(h2:Pr b b')(h3:Pr c c')(h4:Pr e e'):PrL [a,b,c,e] [a',b',c',e']:=PrL.of rfl fun i hi=>by
 have:i=0∨i=1∨i=2∨i=3:=by have:i<4:=hi;omega
 rcases this with rfl|rfl|rfl|rfl
 ·exact h1
 ·exact h2
 ·exact h3
 ·exact h4
theorem PrL.ctr {k n:Int}{ls ms:List Tm}(h:PrL ls ms)(hr:Go.Proofs.YtjlaenhcemacdaaGreat.rdx k ls≠0):Pr (eA (.mk k n ls)) (eA (.mk k n ms)):=by
 have hm:=h.rdx hr;have hin:∀i j (m:Int),fZ ls i=m→(m=4∨m=7∨m=8∨m=11∨m=14)→Pr (aI (aI ls i).ks j) (aI (aI ms i).ks j):=fun i j m e hm=>((h.2 i).stay (by have:(aI ls i).k=m:=e;omega)).2.2.2 j
 rcases eX hr with ⟨h1,rfl,h2⟩|⟨h1,rfl,h2⟩|⟨h1,rfl,h2⟩|⟨h1,rfl,h2⟩|⟨h1,rfl,h2⟩|⟨h1,rfl,h2⟩
 ·rw [nU h1,nU (hm.trans h1)];exact (hin 0 1 4 h2 (by decide)).sb (h.2 1) (by decide) (by decide)
 ·rw [nM h1,nM (hm.trans h1)];exact h.2 1
 ·rw [mT h1,mT (hm.trans h1)];have h3:=hin 3 0 8 h2 (by decide);exact (aTj ((aTj (h.2 2) h3).node 5 0) ((aUc (h.2 0) (h.2 1) (h.2 2) h3).node 9 0)).node 5 0
 ·rw [nF h1,nF (hm.trans h1)];exact h.2 2
 ·rw [nW h1,nW (hm.trans h1)];exact hin 0 1 14 h2 (by decide)
 ·rw [mM h1,mM (hm.trans h1)];exact hin 0 2 14 h2 (by decide)
mutual
def dv:Tm→Tm
 | .mk k n ks=>if rdx k ks=0 then .mk k n (dvL ks) else eA (.mk k n (dvL ks))
def dvL:List Tm→List Tm
 | []=>[]
 | t::ts=>dv t::dvL ts
end
theorem qC:∀ks,(dvL ks).length=ks.length
 | []=>rfl
 | t::ts=>by rw [dvL,List.length_cons,List.length_cons,qC ts]
theorem aAl:∀(ks:List Tm) (i:Nat),i<ks.length→aI (dvL ks) i=dv (aI ks i)
 | t::ts,0,_=>by rw [dvL];rfl
 | t::ts,i+1,h=>by rw [dvL,gR,gR];exact aAl ts i (by simpa using h)
theorem Pr.dev {t u:Tm}(h:Pr t u):Pr u (dv t):=by
 induction h with
 | @node k n ks ls hl hk ih=>
  have hP:PrL ks ls:=PrL.of hl hk;have hQ:PrL ls (dvL ks):=PrL.of (by rw [qC];exact hl.symm) fun i hi=>by rw [aAl _ _ (by omega)];exact ih i (by omega)
  rw [dv];by_cases h0:Go.Proofs.YtjlaenhcemacdaaGreat.rdx k ks=0
  ·rw [if_pos h0];exact hQ.node k n
  ·rw [if_neg h0];exact hQ.red n (by rw [hP.rdx h0];exact h0)
 | @red k n ks ls hr hl hk ih=>
  have hP:PrL ks ls:=PrL.of hl hk;have hQ:PrL ls (dvL ks):=PrL.of (by rw [qC];exact hl.symm) fun i hi=>by rw [aAl _ _ (by omega)];exact ih i (by omega)
  rw [dv,if_neg hr];exact hQ.ctr (by rw [hP.rdx hr];exact hr)
inductive Ps:Tm→Tm→Prop
 | refl (t:Tm):Ps t t
 | step {t u v:Tm}:Pr t u→Ps u v→Ps t v
theorem Ps.one {t u:Tm}(h:Pr t u):Ps t u:=.step h (.refl _)
theorem Ps.trans {t u v:Tm}(h:Ps t u)(h2:Ps u v):Ps t v:=by
 induction h with
 | refl t=>exact h2
 | step h1 _ ih=>exact .step h1 (ih h2)
theorem aSk {t u v:Tm}(h:Pr t u)(h2:Ps t v):∃w,Ps u w∧Pr v w:=by
 induction h2 generalizing u with
 | refl t=>exact ⟨u,.refl _,h⟩
 | @step t a b h1 h2 ih=>
  obtain ⟨w,h3,h4⟩:=ih h1.dev;exact ⟨w,.step h.dev h3,h4⟩
theorem aSp {t u v:Tm}(h:Ps t u)(h2:Ps t v):∃w,Ps u w∧Ps v w:=by
 induction h generalizing v with
 | refl t=>exact ⟨v,h2,.refl _⟩
 | @step t a b h1 h3 ih=>
  obtain ⟨w,h4,h5⟩:=aSk h1 h2;obtain ⟨z,h6,h7⟩:=ih h4;exact ⟨z,h6,.step h5 h7⟩
def Mt (a b:Tm):Prop:=∃c,Ps a c∧Ps b c
theorem Mt.refl (a:Tm):Mt a a:=⟨a,.refl _,.refl _⟩
theorem Mt.symm {a b:Tm}(h:Mt a b):Mt b a:=by obtain ⟨c,h1,h2⟩:=h;exact ⟨c,h2,h1⟩
theorem Mt.trans {a b c:Tm}(h:Mt a b)(h2:Mt b c):Mt a c:=by
 obtain ⟨x,h3,h4⟩:=h;obtain ⟨y,h5,h6⟩:=h2;obtain ⟨z,h7,h8⟩:=aSp h4 h5;exact ⟨z,h3.trans h7,h6.trans h8⟩
theorem Ps.mt {a b:Tm}(h:Ps a b):Mt a b:=⟨b,h,.refl _⟩
theorem Ps.sb {t t':Tm}(h:Ps t t')(u:Tm):Ps (bX u 0 0 t) (bX u 0 0 t'):=by
 induction h with
 | refl t=>exact .refl _
 | step h1 _ ih=>exact .step (h1.sb (.refl u) (by decide) (by decide)) ih
theorem Mt.sb {a b:Tm}(h:Mt a b)(u:Tm):Mt (bX u 0 0 a) (bX u 0 0 b):=by obtain ⟨c,h1,h2⟩:=h;exact ⟨_,h1.sb u,h2.sb u⟩
theorem step_pr:(∀(t u:Tm),dT t=some u→Pr t u)∧∀(ts us:List Tm),gA ts=some us→PrL ts us:=by
 refine bA (fun k n ks ih u h=>?_) (fun us h=>?_) (fun t ts h1 h2 us h=>?_)
 ·rw [dT] at h;by_cases h0:rdx k ks=0
  ·rw [if_pos h0] at h;cases hs:gA ks with
   | none=>rw [hs] at h;cases h
   | some ls=>
    rw [hs] at h;obtain rfl:=Option.some.inj h;exact (ih ls hs).node k n
  ·rw [if_neg h0] at h;obtain rfl:=Option.some.inj h;exact (PrL.refl ks).red n h0
 ·rw [gA] at h;cases h
 ·rw [gA] at h;cases hs:dT t with
  | some u=>
   rw [hs] at h;obtain rfl:=Option.some.inj h;refine PrL.of rfl fun i hi=>?_
   cases i with
   | zero=>exact h1 u hs
   | succ i=>exact .refl _
  | none=>
   rw [hs] at h;simp only at h
   cases hs2:gA ts with
   | none=>rw [hs2] at h;cases h
   | some vs=>
    rw [hs2] at h;obtain rfl:=Option.some.inj h;have h3:=h2 vs hs2;refine PrL.of (by simp [h3.1]) fun i hi=>?_
    cases i with
    | zero=>exact .refl _
    | succ i=>exact h3.2 i
theorem zV:∀(f:Nat) (t x:Tm) (c:Int),fD f t=(some x,c)→Ps t x∧dT x=none
 | f,t,x,c,h=>by
  rw [fD] at h;cases hs:dT t with
  | none=>
   rw [hs] at h;injection h with h _;obtain rfl:=Option.some.inj h;exact ⟨.refl _,hs⟩
  | some t'=>
   rw [hs] at h;cases f with
   | zero=>injection h with h _;cases h
   | succ f=>
    simp only at h
    split at h
    ·obtain ⟨h1,h2⟩:=zV f t' x c h;exact ⟨.step (step_pr.1 t t' hs) h1,h2⟩
    ·injection h with h _;cases h
theorem xX:∀(f:Nat) (t:Tm),(∃x,fD f t=(some x,0))∨∃c,fD f t=(none,c)∧c≠0
 | f,t=>by
  rw [fD];cases hs:dT t with
  | none=>exact .inl ⟨t,rfl⟩
  | some t'=>
   cases f with
   | zero=>exact .inr ⟨1,rfl,by decide⟩
   | succ f=>
    simp only
    by_cases h:aE t'=true
    ·rw [if_pos h];exact xX f t'
    ·rw [if_neg h];exact .inr ⟨2,rfl,by decide⟩
theorem aCr {f:Nat}{t:Tm}(h:(fD f t).2=0):∃x,fD f t=(some x,0):=by
 rcases xX f t with h1|⟨c,h1,h2⟩
 ·exact h1
 ·rw [h1] at h;exact absurd h h2
theorem aJa {a b:Tm}(ha:aE a=true)(hb:aE b=true)(h:eP 200 a b=1):Mt a b:=by
 rw [eP,← mB 200 a ha,← mB 200 b hb] at h;split at h
 ·rename_i he
  rw [tmEq_iff.1 he];exact .refl _
 ·split at h
  ·cases h
  ·rename_i h1 h2
   obtain ⟨x,hx⟩:=aCr (Classical.byContradiction fun h=>h2 (.inl h));obtain ⟨y,hy⟩:=aCr (Classical.byContradiction fun h=>h2 (.inr h));rw [hx,hy] at h;split at h
   ·rename_i he
    have:=tmEq_iff.1 he;change x=y at this
    subst this;exact ⟨x,(zV _ _ _ _ hx).1,(zV _ _ _ _ hy).1⟩
   ·cases h
theorem aMf {k:Int}{ks ls:List Tm}(h:fZ ls (bC k).toNat=fZ ks (bC k).toNat):rdx k ls=rdx k ks:=by
 unfold rdx
 by_cases h5:k=5
 ·subst h5;rw [show (bC 5).toNat=0 from rfl] at h;rw [h];simp
 ·by_cases h9:k=9
  ·subst h9;rw [show (bC 9).toNat=3 from rfl] at h;rw [h];simp
  ·by_cases h12:k=12
   ·subst h12;rw [show (bC 12).toNat=1 from rfl] at h;rw [h];simp
   ·by_cases h15:k=15
    ·subst h15;rw [show (bC 15).toNat=0 from rfl] at h;rw [h];simp
    ·by_cases h16:k=16
     ·subst h16;rw [show (bC 16).toNat=0 from rfl] at h;rw [h];simp
     ·simp only [h5,h9,h12,h15,h16,if_false]
theorem cK {ks:List Tm}{i:Nat}(h:i<ks.length):aI ks i=ks[i]:=by simp [aI,List.getD,qR h]
theorem aJz {ks:List Tm}{j:Nat}(hj:j<ks.length)(h:vH j ks=none):cD (aI ks j)=none:=by
 rw [nI ks j hj] at h;rw [cK hj];cases hs:cD ks[j] with
 | none=>rfl
 | some _=>rw [hs] at h;cases h
theorem aLu:∀(t u:Tm),cD t=none→Pr t u→u.k=t.k∧cD u=none∧PrL t.ks u.ks:=by
 refine jM fun k n ks ih u h hp=>?_
 rw [cD] at h;by_cases h0:rdx k ks=0
 ·rw [if_pos h0] at h;cases hp with
  | red a b c=>exact absurd h0 a
  | @node _ _ _ ls hl hk=>
   have hP:=PrL.of hl hk;by_cases hm:bC k<0
   ·refine ⟨rfl,?_,hP⟩;have:rdx k ls=0:=zL ls fun hk=>by
     unfold bC at hm
     rcases hk with rfl|rfl|rfl|rfl|rfl<;>simp at hm
    rw [cD,if_pos this,if_pos hm]
   ·rw [if_neg hm] at h;have hL:vH (bC k).toNat ks=none:=by cases hs:vH (bC k).toNat ks with|none=>rfl|some _=>rw [hs] at h;cases h
    have hk2:fZ ls (bC k).toNat=fZ ks (bC k).toNat∧vH (bC k).toNat ls=none:=by
     by_cases hj:(bC k).toNat<ks.length
     ·obtain ⟨h1,h2,_⟩:=ih _ (gF hj) _ (aJz hj hL) (hP.2 _);refine ⟨h1,?_⟩;rw [nI ls _ (by omega),← cK (by omega),h2];rfl
     ·refine ⟨?_,(eK ls _ (by omega)).2⟩;rw [kZ,kZ,iL (by omega),iL (by omega)]
    refine ⟨rfl,?_,hP⟩;rw [cD,if_pos ((aMf hk2.1).trans h0),if_neg hm,hk2.2];rfl
 ·rw [if_neg h0] at h;cases h
theorem aJx {t u:Tm}(h:Ps t u):cD t=none→u.k=t.k∧∀i,Ps (aI t.ks i) (aI u.ks i):=by
 induction h with
 | refl t=>exact fun _=>⟨rfl,fun i=>.refl _⟩
 | @step t u v h1 _ ih=>
  intro h;obtain ⟨h2,h3,h4⟩:=aLu _ _ h h1;obtain ⟨h5,h6⟩:=ih h3;exact ⟨h5.trans h2,fun i=>.step (h4.2 i) (h6 i)⟩
theorem aJi:∀(t u:Tm),cD t=some u→Pr t u:=by
 refine jM fun k n ks ih u h=>?_
 rw [cD] at h;by_cases h0:rdx k ks=0
 ·rw [if_pos h0] at h;split at h
  ·cases h
  ·cases hs:vH (bC k).toNat ks with
   | none=>rw [hs] at h;cases h
   | some ls=>
    rw [hs] at h;obtain rfl:=Option.some.inj h;have hj:(bC k).toNat<ks.length:=Classical.byContradiction fun hn=>by rw [(eK ks _ (by omega)).2] at hs;cases hs
    rw [nI ks _ hj] at hs;cases hv:cD ks[(bC k).toNat] with
    | none=>rw [hv] at hs;cases hs
    | some v=>
     rw [hv] at hs;obtain rfl:=Option.some.inj hs;refine (PrL.of (by simp) fun i hi=>?_).node k n;by_cases hij:i=(bC k).toNat
     ·subst hij;rw [cK hj,cK (by simpa using hj),List.getElem_set_self];exact ih _ (iC hj) v hv
     ·rw [cK hi,cK (by simpa using hi),List.getElem_set_ne (fun h=>hij h.symm)];exact .refl _
 ·rw [if_neg h0] at h;obtain rfl:=Option.some.inj h;exact (PrL.refl ks).red n h0
theorem PartR.ownBY {lo:Nat→Prop}{B:Nat}{w:World}{v:Value}{ts:List Tm}(h:PartR lo B w v ts):∀g,v.ownBlock=some g→B≤g:=fun g hg=>by
 obtain ⟨xs,h1,_⟩:=h;exact (h1.lt g hg).1
def aSq (p:Nat→Prop)(w:World)(ctx:List Tm)(e:Ending)(w':World):Prop:=
 ∃D d,e = .returned (.tuple #[.slice D ctx.length d,.int .i64 0])∧RdP (fun b=>p b∨w.heap.size≤b) w' D 0 ctx∧Bw w w'
theorem aJs (p:Nat→Prop)(ctx:List Tm)(C:Option Addr)(cc:Nat)(k n:Int)(ks:List Tm)(A:Option Addr)(c:Nat)(w:World)(hm:ctx.length<20)(hl:ks.length≤9223372036854775807)(hrc:RdP p w C 0 ctx)(hra:RdP p w A 0 ks)(hp:∀b,p b→b<w.heap.size) :
  Calls prog 136 #[.slice C ctx.length cc,.agg (Ro k n A ks.length c)] w (aSq p w (ctx++[.mk k n ks])):=by
 have hq:decide ((20:Int)≤(ctx.length:Int))=false:=decide_eq_false (by omega);go_enter func136,ntmps136;go_upto_region 3 with fail
 refine aUn (show Blk _ w.heap.size (Ro k n A ks.length c) from (aC _ 32 _ rfl)) bw1 ?_;intro wx hT gx;have rcx:=hrc.below gx;have rax:=hra.below gx;have hpx:∀b,p b→b<wx.heap.size:=fun b hb=>by have:=hp b hb;have:=gx.size;omega
 obtain ⟨v0,v1,v2⟩:=jR hT;refine eT wx [4,5,6] [0,2] 7 5 (lT:=[_,_]) ?_;intro q0 bq0;refine bZ (aD ?_);refine nK 1 3 ?_ ?_
 ·go_wp2_with (go_at_call 94;refine (mX p ctx _ cc _ (by omega) (rcx.below bq0) (fun b hb=>yM (hpx b hb) bq0.size)).mono ?_;rintro e q1 ⟨C2,c2,rfl,hPq1,hbq1⟩)
  refine aX bq0 hbq1 ?_;intro bq1 lq1;refine bB 3 ?_
  ·go_wp2_with fail
   refine cB ?_;intro q2 hn;have hbq2:Bw q1 q2:=by rw [hn];exact bw1
   have zq2:Blk q2 q1.heap.size (Ro k n A ks.length c):=by rw [hn];exact aC _ 32 _ rfl
   have seq2:q1.heap.size<q2.heap.size:=by rw [hn];simp
   clear hn;have Pq2:=hPq1.below hbq2;refine aX bq1 hbq2 ?_;intro bq2 lq2;refine cP [4,5,6] (lB:=[_,_,_]) ?_;have hB0:wx.heap.size≤q0.heap.size:=bq0.size;have hsz:wx.heap.size≤q2.heap.size:=bq2.size;have hBw:q0.heap.size≤q2.heap.size:=by first|exact oL _|omega
   refine eN (lo:=p) (B:=q0.heap.size) (q:=p) Pq2 hBw (rax.below bq2) (fun b hb=>⟨.inl hb,by have:=hpx b hb;omega,fun e=>by have:=hpx b hb;have:=Pq2.ownBY b e;omega⟩) hl rfl (by omega) q1.heap.size 1 zq2 rfl _ _ rfl rfl rfl ?_;intro A9 c9 w9 hp9 hb9 hg9 hn9;obtain ⟨A8,c8,e8,r8⟩:=hp9.rd;injection e8 with e81 e82 e83;subst e81 e83;have hlen9:(ctx++[Tm.mk k n ks]).length=ctx.length+1:=by simp
   refine gS (aD ?_);go_wp2_with fail
   go_ret2
   exact ⟨A9,c9,by rw [hlen9];rfl,r8.mono (fun b hb=>hb.imp id fun h=>by have:=gx.size;omega),(gx.trans (bq2.mono gx.size)).trans (hb9.mono (by have:=gx.size;omega))⟩
 ·go_wp2_with fail
  refine cB ?_;intro q3 hn;have hbq3:Bw q0 q3:=by rw [hn];exact bw1
  have zq3:Blk q3 q0.heap.size (Ro k n A ks.length c):=by rw [hn];exact aC _ 32 _ rfl
  have seq3:q0.heap.size<q3.heap.size:=by rw [hn];simp
  clear hn;refine aX bq0 hbq3 ?_;intro bq3 lq3;refine bB 1 ?_
  ·go_wp2_with (go_at_call 94;refine (mX p ctx _ cc _ (by omega) (rcx.below bq3) (fun b hb=>yM (hpx b hb) bq3.size)).mono ?_;rintro e q4 ⟨C2,c2,rfl,hPq4,hbq4⟩)
   have Zq4:=zq3.keep hbq4;refine aX bq3 hbq4 ?_;intro bq4 lq4;refine cP [4,5,6] (lB:=[_,_,_]) ?_;have hB0:wx.heap.size≤q3.heap.size:=bq3.size;have hsz:wx.heap.size≤q4.heap.size:=bq4.size;have hBw:q3.heap.size≤q4.heap.size:=by first|exact oL _|omega
   refine eN (lo:=p) (B:=q3.heap.size) (q:=p) hPq4 hBw (rax.below bq4) (fun b hb=>⟨.inl hb,by have:=hpx b hb;omega,fun e=>by have:=hpx b hb;have:=hPq4.ownBY b e;omega⟩) hl rfl (by omega) q0.heap.size 1 Zq4 rfl _ _ rfl rfl rfl ?_;intro A9 c9 w9 hp9 hb9 hg9 hn9;obtain ⟨A8,c8,e8,r8⟩:=hp9.rd;injection e8 with e81 e82 e83;subst e81 e83;have hlen9:(ctx++[Tm.mk k n ks]).length=ctx.length+1:=by simp
   refine gS (aD ?_);go_wp2_with fail
   go_ret2
   exact ⟨A9,c9,by rw [hlen9];rfl,r8.mono (fun b hb=>hb.imp id fun h=>by have:=gx.size;omega),(gx.trans (bq4.mono gx.size)).trans (hb9.mono (by have:=gx.size;omega))⟩
theorem aGp (C:Option Addr)(m cc:Nat)(k n:Int)(A:Option Addr)(la c:Nat)(i:Nat)(w:World)(hu:aM k i=0) :
  Calls prog 117 #[.slice C m cc,.agg (Ro k n A la c),.int .i64 i] w fun e w'=>e = .returned (.tuple #[.slice C m cc,.int .i64 0])∧Bw w w':=by
 have hu':=aD hu;clear hu;go_enter func117,ntmps117;go_wp2_with (go_at_call 108;refine (kM _ _ _).mono ?_;rw [hu'.out];rintro e w1 ⟨rfl,rfl⟩)
 go_ret2
 exact ⟨rfl,bw1⟩
theorem aHe (p:Nat→Prop)(ctx:List Tm)(C:Option Addr)(cc:Nat)(k n:Int)(ka na:Int)(sa:List Tm)(ts:List Tm)(A:Option Addr)(c:Nat)(i:Nat)(w:World)(hu:aM k i=1)(hm:ctx.length<20)(hlt:ts.length≤1000)(hrc:RdP p w C 0 ctx)(hra:RdP p w A 0 (.mk ka na sa::ts))(hp:∀b,p b→b<w.heap.size) :
  Calls prog 117 #[.slice C ctx.length cc,.agg #[.int .i64 k,.int .i64 n,.slice A (ts.length+1) c],.int .i64 i] w (aSq p w (ctx++[.mk ka na sa])):=by
 have hu':=aD hu;clear hu;obtain ⟨ba,oa,x1,x2,x3,Aa,ca,rfl,hk1,i1,i2,i3,hla,ra⟩:=hra.at_ (j:=0) (by simp);injection hk1 with e1 e2 e3;subst e1 e2 e3;simp only [Nat.zero_mul,Nat.add_zero] at i1 i2 i3
 have lb:=mI _ _ i1;have q2:(0:Int)<((ts.length:Nat):Int)+1:=by omega
 go_enter func117,ntmps117;go_wp2_with (first
  | (go_at_call 136;refine (aJs p ctx C cc ka na sa Aa ca _ hm hla (hrc.alloc _) (ra.alloc _) (fun b hb=>by have:=hp b hb;simp;omega)).mono ?_;rintro e w2 ⟨D,d,rfl,hrD,hb2⟩)
  | (go_at_call 108;refine (kM _ _ _).mono ?_;rw [hu'.out];rintro e w1 ⟨rfl,rfl⟩))
 have hlen9:(ctx++[Tm.mk ka na sa]).length=ctx.length+1:=by simp
 go_ret2
 exact ⟨D,d,by rw [hlen9];rfl,hrD.mono (fun b hb=>hb.imp id fun h=>by simp at h;omega),bw1.trans (hb2.mono (by simp))⟩
def aSo (w:World)(ctx:List Tm)(e:Ending)(w':World):Prop:=
 ∃D d,e = .returned (.tuple #[.slice D ctx.length d,.int .i64 0])∧Rd w' D 0 ctx∧Bw w w'
theorem aJn (ctx:List Tm)(C:Option Addr)(cc:Nat)(k n:Int)(ka na:Int)(sa:List Tm)(ts:List Tm)(A:Option Addr)(c:Nat)(i:Nat)(w:World)(hu:aM k i=1)(hm:ctx.length<20)(hlt:ts.length≤1000)(hrc:Rd w C 0 ctx)(hra:Rd w A 0 (.mk ka na sa::ts)) :
  Calls prog 117 #[.slice C ctx.length cc,.agg (Ro k n A (ts.length+1) c),.int .i64 i] w (aSo w (ctx++[.mk ka na sa])):=
 (aHe (·<w.heap.size) ctx C cc k n ka na sa ts A c i w hu hm hlt hrc.rdp hra.rdp (fun _ h=>h)).mono fun e w' ⟨D,d,he,hr,hb⟩=>⟨D,d,he,hr.rd,hb⟩
theorem nQ {x:Int}(h0:0≤x)(h3:x≤3):aE (.mk 2 x [])=true:=by
 rcases (show x=0∨x=1∨x=2∨x=3 by omega) with rfl|rfl|rfl|rfl<;>decide +kernel
theorem xN:aE aSy=true:=by decide +kernel
theorem zG {b c:Int}{t u:Tm}(h:bD b c t=some u):aE u=true:=by
 unfold bD at h
 split at h
 ·split at h
  ·injection h with h;subst h;assumption
  ·cases h
 ·cases h
theorem aLl {ks:List Tm}{i:Nat}(h:i<ks.length):aI ks i=ks[i]:=by simp [aI,List.getD,qR h]
theorem aEe (N:Nat):∀(k n:Int) (ks:List Tm) (A:Option Addr) (c:Nat) (y:Int) (q:Nat) (w:World),aG ks<N→aG ks≤1000000→shape q (.mk k n ks)=true→0≤y→y+q≤1000→Rd w A 0 ks→
  Calls prog 47 #[.agg (Ro k n A ks.length c),.int .i64 y] w fun e w'=>e = .returned (.int .i64 (sX y (.mk k n ks)))∧Bw w w':=by
 induction N with
 | zero=>intro k n ks A c y q w hN;exact absurd hN (Nat.not_lt_zero _)
 | succ N ih=>
 intro k n ks A c y q w hN hM hsh hy hyq hr;have hlen:=aJ ks;obtain ⟨q,rfl,ha,hm1,hm2,hkids⟩:=bY hsh;have hkids':=aD hkids;clear hkids hsh ha hm2;rw [sX];obtain ⟨a0,ha0⟩:∃a0:Int,(if k=1∧n=y then 1 else 0)=a0:=⟨_,rfl⟩;rw [ha0];have hcase:((k==1)=false∧a0=0)∨((k==1)=true∧(n==y)=false∧a0=0)∨((k==1)=true∧(n==y)=true∧a0=1):=by
  by_cases h1:k=1
  ·by_cases h2:n=y
   ·exact .inr (.inr ⟨by simpa using h1,by simpa using h2,by rw [← ha0,if_pos ⟨h1,h2⟩]⟩)
   ·exact .inr (.inl ⟨by simpa using h1,by simpa using h2,by rw [← ha0,if_neg (fun h=>h2 h.2)]⟩)
  ·exact .inl ⟨by simpa using h1,by rw [← ha0,if_neg (fun h=>h1 h.1)]⟩
 clear ha0;rcases hcase with ⟨q1,hz⟩|⟨q1,q2,hz⟩|⟨q1,q2,hz⟩
 all_goals
  have hz':=aD hz;clear hz;go_enter func47,ntmps47;go_wp2_with fail
  go_loopw [5,6] (fun s i wr=>∃(j:Nat),j≤ks.length∧i = .int .i64 j∧s = .int .i64 (a0+pM y k 0 (ks.take j))∧Blk wr w.heap.size (Ro k n A ks.length c)∧Bw w wr) (fun _ i _=>ks.length - (intOf i).toNat)
  case atStart=>exact ⟨0,Nat.zero_le _,rfl,by rw [hz'.out];simp [pM],aC _ _ _ rfl,bw1⟩
  case round=>
   obtain ⟨j,hj,rfl,rfl,hB1,hb⟩:=hrel;have e2:=hB1.at_ (i:=2) rfl;by_cases hlt:j<ks.length
   ·obtain ⟨b,off,k1,n1,ks1,A1,c1,rfl,hkj,hc1,hc2,hc3,hl1,hr1⟩:=(hr.below hb).at_ hlt;have hsz:=cF (iC hlt);have hsk:=hkids'.out _ (iC hlt);have hcs:=tm_le.2 (ks.take j) y k 0;have hst2:=fI ks j;have hnx:=aD (show a0+pM y k 0 (ks.take (j+1))=a0+pM y k 0 (ks.take j)+sX (y+aM k j) ks[j] from by rw [aDh y k hlt];omega);have ht1:=tm_le.1 ks[j] (y+aM k j);rw [hkj] at hsz hsk ht1 hnx;simp only [Tm.size] at hsz ht1
    have h0:=hz'.out;have hs1:0≤a0+pM y k 0 (ks.take j)∧a0+pM y k 0 (ks.take j)≤1000001:=by omega
    generalize a0+pM y k 0 (ks.take j)=sj at hs1 hnx⊢
    have H4:=aD hsk;clear hkj hsk hcs h0;have hbz:=hB1.lt;go_wp2_with fail
    clear e2;have b0:=hB1.rule (i:=0) rfl;have b2:=hB1.rule (i:=2) rfl;obtain ⟨y0,y1,y2⟩:=qD hc1 hc2 hc3;have hun:=cW k j;refine bL (fun w'=>Bw wr w') [0,1,2,3,4,5,6,7,8,9,10,11] [12,13] [14] [_,_,_,_,_,_,_,_,_,_,_,_] [_,_] [_] (by kernel_rfl) (by kernel_rfl) rfl rfl rfl (fun _ _ d _ _ h=>by cases d<;>exact h) (eR _ _).drew ?_;repeat (first|((refine kP (a':=?_) ?_ ?_ ?_);(rotate_left);(· (simp [Region.wanted,yielded];done));(· (simp only [List.getElem_toArray,List.getElem_cons_zero,List.getElem_cons_succ,Act.put,List.setIfInBounds_toArray,List.set_cons_zero,List.set_cons_succ];exact rfl)))|((refine kU (v:=?_) (a':=?_) ?_ ?_ ?_ ?_);(rotate_left 2);(· (simp [Region.wanted,yielded];done));(· (intro w' hS';go_simp;try (with_reducible rfl)));(· (simp only [List.getElem_toArray,List.getElem_cons_zero,List.getElem_cons_succ,Act.put,List.setIfInBounds_toArray,List.set_cons_zero,List.set_cons_succ];exact rfl)))|((refine mN (v:=?_) (a':=?_) 44 ?_ ?_ ?_ ?_ ?_ ?_);(rotate_left 3);(· (simp [Region.wanted,yielded];done));(· (intro w' hS';go_simp;try (with_reducible rfl)));(· (intro w' hS';exact nL _ _ _));(· (simp only [List.getElem_toArray,List.getElem_cons_zero,List.getElem_cons_succ,Act.put,List.setIfInBounds_toArray,List.set_cons_zero,List.set_cons_succ];exact rfl))))
    refine mA (bO ?_);clear y0 y1 y2 b0 b2;go_wp2_with (go_at_call 47;refine (ih k1 n1 ks1 A1 c1 (y+aM k j) q _ (by omega) (by omega) H4.out (by omega) (by omega) hr1.drew).mono ?_;rintro e w1 ⟨rfl,hb1⟩)
    have hb1':Bw wr w1:=(eR _ _).drew.trans hb1;refine aQ hb1' (bO ?_);go_wp2_with fail
    refine aQ hb1' (dL ?_);go_wp2_with fail
    go_roundw
    case rel=>exact ⟨j+1,by omega,by go_num,by rw [hnx.out],hB1.keep hb1',hb.trans (hb1'.mono hb.size)⟩
    case measure=>simp [intOf];omega
   ·have hjl:j=ks.length:=by omega
    subst hjl;rw [List.take_length];go_wp2_with fail
    go_ret
    exact ⟨rfl,hb⟩
theorem aFe (k n:Int)(ks:List Tm)(A:Option Addr)(c:Nat)(w:World)(hv:aE (.mk k n ks)=true)(hr:Rd w A 0 ks) :
  Calls prog 47 #[.agg (Ro k n A ks.length c),.int .i64 0] w fun e w'=>e = .returned (.int .i64 (sX 0 (.mk k n ks)))∧Bw w w':=by
 have hsh:shape 30 (.mk k n ks)=true:=by simp only [aE,Bool.and_eq_true] at hv;exact hv.1
 have hzv:=aH hv;exact aEe _ k n ks A c 0 30 w (oH _) (by omega) hsh (by omega) (by omega) hr
end Go.Proofs.YtjlaenhcemacdaaGreat
