/- Parts of the proof. No condition. -/
import Derived.Test.YtjlaenhcemacdaaGreatK1
open Go.Proofs.Tryz
namespace Go.Proofs.YtjlaenhcemacdaaGreat
open Go.RowKit
set_option maxHeartbeats 2000000
set_option maxRecDepth 100000
set_option linter.unusedSimpArgs false
set_option linter.unusedVariables false
mutual
def tS (f:Int→Int→Tm):Int→Tm→Tm
 | d,.mk k n ks=>if k=1 then f n d else .mk k n (gI f k d 0 ks)
def gI (f:Int→Int→Tm):Int→Int→Nat→List Tm→List Tm
 | _,_,_,[]=>[]
 | k,d,i,t::ts=>tS f (d+aM k i) t::gI f k d (i+1) ts
end
mutual
def eQ (ok:Int→Int→Bool):Int→Tm→Bool
 | d,.mk k n ks=>if k=1 then ok n d else dM ok k d 0 ks
def dM (ok:Int→Int→Bool):Int→Int→Nat→List Tm→Bool
 | _,_,_,[]=>true
 | k,d,i,t::ts=>eQ ok (d+aM k i) t && dM ok k d (i+1) ts
end
theorem tQ (f:Int→Int→Tm)(k d:Int)(us:List Tm):∀(ts:List Tm) (i:Nat),gI f k d i (ts++us)=gI f k d i ts++gI f k d (i+ts.length) us
 | [],i=>by simp [gI]
 | t::ts,i=>by rw [List.cons_append,gI,gI,tQ f k d us ts (i+1),List.cons_append,List.length_cons,show i+1+ts.length=i+(ts.length+1) from by omega]
theorem oP (f:Int→Int→Tm)(k d:Int):∀(ts:List Tm) (i:Nat),(gI f k d i ts).length=ts.length
 | [],i=>by simp [gI]
 | t::ts,i=>by rw [gI,List.length_cons,List.length_cons,oP f k d ts (i+1)]
theorem pQ (ok:Int→Int→Bool)(k d:Int)(us:List Tm):∀(ts:List Tm) (i:Nat),dM ok k d i (ts++us)=(dM ok k d i ts && dM ok k d (i+ts.length) us)
 | [],i=>by simp [dM]
 | t::ts,i=>by rw [List.cons_append,dM,dM,pQ ok k d us ts (i+1),List.length_cons,show i+1+ts.length=i+(ts.length+1) from by omega,Bool.and_assoc]
theorem aIx (f:Int→Int→Tm)(k d:Int){ks:List Tm}{j:Nat}(hj:j<ks.length):gI f k d 0 (ks.take (j+1))=gI f k d 0 (ks.take j)++[tS f (d+aM k j) ks[j]]:=by
 rw [tI hj,tQ,List.length_take,Nat.min_eq_left (Nat.le_of_lt hj),Nat.zero_add,gI,gI]
theorem aCk (ok:Int→Int→Bool)(k d:Int){ks:List Tm}{j:Nat}(hj:j<ks.length):dM ok k d 0 (ks.take (j+1))=(dM ok k d 0 (ks.take j) && eQ ok (d+aM k j) ks[j]):=by
 rw [tI hj,pQ,List.length_take,Nat.min_eq_left (Nat.le_of_lt hj),Nat.zero_add,dM,dM,Bool.and_true]
theorem jF (t:Tm):∃k n ks,t = .mk k n ks:=by cases t;exact ⟨_,_,_,rfl⟩
def aQa (g:Nat)(w:World)(t:Tm)(b:Bool)(e:Ending)(w':World):Prop:=
 ∃A c,e = .returned (.agg (Ro t.k t.n A t.ks.length c))∧t.ks.length≤9223372036854775807∧Fresh w.heap.size w' A t.ks∧Blk w' g #[.bool b]∧w.grownBy w' (some g)
theorem oE {g:Nat}{w:World}{k n:Int}{ks:List Tm}{b:Bool}{e:Ending}{w':World}(h:aQa g w (.mk k n ks) b e w') :
  ∃A c,e = .returned (.agg (Ro k n A ks.length c))∧ks.length≤9223372036854775807∧Fresh w.heap.size w' A ks∧Blk w' g #[.bool b]∧w.grownBy w' (some g):=h
theorem aBl {a w w':World}{row:Option Nat}{B:Nat}(h:a.grownBy w row)(k:Below B w w')(hB:a.heap.size≤B):a.grownBy w' row:=
 ⟨k.os.trans h.os,k.tape.trans h.tape,k.output.trans h.output,Nat.le_trans h.size k.size,fun i hi hne=>(k.block i (by omega)).trans (h.block i hi hne)⟩
def aMs (F:Nat)(caps:List Value)(W0:World)(g:Nat)(f:Int→Int→Tm)(ok:Int→Int→Bool):Prop:=
 ∀(n d:Int) (w:World) (b:Bool),0≤n→n≤20→0≤d→d≤60→W0.grownBy w (some g)→Blk w g #[.bool b]→Calls prog F (.int .i64 n :: .int .i64 d::caps).toArray w (aQa g w (f n d) (b && ok n d))
theorem gU {a w w':World}{row:Option Nat}(h:a.grownBy w row)(k:w.grownBy w' row):a.grownBy w' row:=fV h k
theorem Blk.ruleG {wx:World}{g b:Nat}{cs:Array Value}(h:Blk wx b cs)(hb:b≠g){i:Nat}{v:Value}(hi:cs[i]?=some v):∀w':World,wx.grownBy w' (some g)→w'.cell? ⟨b,i,none⟩=some v:=
 fun _ hw=>(h.grown hw (by simpa using hb)).at_ hi
theorem fG {F : Nat}{fn : Func}(hf : prog.funcs[F]? = some fn)(h1 : (fn.name == "runtime.NumGoroutine") = false)(h2 : fn.body.isNone = false)(args : Array Value)(w : World) : (callFunc F args).run prog w = .ok (.enter F args) w := by
 have h1' : fn.name ≠ "runtime.NumGoroutine" := by simpa using h1
 have h2':fn.body≠none:=by intro e;rw [e] at h2;cases h2
 simp [callFunc,go_sem,hf,h1',h2']
theorem gT {F:Nat}{caps:List Value}{W0:World}{g:Nat}{f:Int→Int→Tm}{ok:Int→Int→Bool}(hF:aMs F caps W0 g f ok)(hrun:∀(args:Array Value) (w:World),(callFunc F args).run prog w = .ok (.enter F args) w)(N:Nat) :
  ∀(k n:Int) (ks:List Tm) (A:Option Addr) (c:Nat) (d:Int) (q:Nat) (w:World) (b:Bool),aG ks<N→shape q (.mk k n ks)=true→0≤d→d+q≤60→aG ks≤1099511627776→
   W0.grownBy w (some g)→Blk w g #[.bool b]→RdP (·≠g) w A 0 ks→
   Calls prog 82 #[.agg (Ro k n A ks.length c),.int .i64 d,.func (.func F) #[] caps.toArray] w (aQa g w (tS f d (.mk k n ks)) (b && eQ ok d (.mk k n ks))):=by
 induction N with
 | zero=>intro k n ks A c d q w b hN;exact absurd hN (Nat.not_lt_zero _)
 | succ N ih=>
 intro k n ks A c d q w b hN hsh hd0 hdq hM hW hg hr;have hlen:=aJ ks;obtain ⟨q,rfl⟩:∃q',q=q'+1:=by cases q with|zero=>simp [shape] at hsh|succ q=>exact ⟨q,rfl⟩
 obtain ⟨ha,hm1,hm2,hkids⟩:=(bF q k n ks).1 hsh;have hgl:=hg.lt;by_cases hk:k=1
 ·subst hk;have hz:tS f d (.mk 1 n ks)=f n d:=by rw [tS,if_pos rfl]
  have hzo:eQ ok d (.mk 1 n ks)=ok n d:=by rw [eQ,if_pos rfl]
  have hn2:n≤20:=by simpa [dG] using hm2
  rw [hz,hzo];generalize hft:f n d=ft
  go_enter func82,ntmps82;go_wp2_with (refine (hF n d _ b hm1 hn2 hd0 (by omega) ((gU hW (bE (bE (mJ _ _) _) _))) ((hg.alloc _).alloc _)).mono ?_;rw [hft];rintro e w3 ⟨A3,c3,rfl,hl3,hf3,hg3,hgr3⟩;have hT:Blk w3 (w.heap.size+1) Zr:=(aC (n:=w.heap.size+1) (w.alloc (.cells (Ro 1 n A ks.length c) 32)) 32 Zr (by simp)).grown hgr3 (by simp;omega);have d0:=hT.at_ (i:=0) rfl;have d1:=hT.at_ (i:=1) rfl;have d2:=hT.at_ (i:=2) rfl;obtain ⟨e0,e1,e2⟩:=bkf hT)
  have hgr:w.grownBy w3 (some g):=gU (bE (bE (mJ _ _) _) _) hgr3;have hsz:w.heap.size+1<w3.heap.size:=by have:=hT.lt;simpa using this
  have hgne:g≠w.heap.size+1:=by omega
  refine bodyPost_ret (v:=.agg (Ro ft.k ft.n A3 ft.ks.length c3)) (by simp [results,results82,go_sem,d0,d1,d2]) rfl ⟨A3,c3,rfl,hl3,?_,?_,?_⟩
  ·exact (tT hf3).mono (by simp;omega)
  ·exact ((hg3.far (by simpa using hgne) _).far (by simpa using hgne) _).far (by simpa using hgne) _
  ·exact aK (aK (aK hgr (.inr (by simp)) _) (.inr (by simp)) _) (.inr (by simp)) _
 ·have hz:tS f d (.mk k n ks) = .mk k n (gI f k d 0 ks):=by rw [tS,if_neg hk]
  have hzo:eQ ok d (.mk k n ks)=dM ok k d 0 ks:=by rw [eQ,if_neg hk]
  have q1:(k==1)=false:=by simpa using hk
  rw [hz,hzo];have hkids':=aD hkids;clear hz hzo hk hkids ha hm1 hm2 hsh;go_enter func82,ntmps82;go_wp2_with fail
  go_loopw [26] (fun i wr=>∃(j:Nat) (v:Value),j≤ks.length∧i = .int .i64 j∧Part (w.heap.size+3) wr v (gI f k d 0 (ks.take j))∧Blk wr (w.heap.size+1+1) #[.int .i64 k,.int .i64 n,v]∧Blk wr (w.heap.size+1) Zr∧Blk wr w.heap.size (Ro k n A ks.length c)∧Blk wr g #[.bool (b && dM ok k d 0 (ks.take j))]∧w.grownBy wr (some g))
   (fun i _=>ks.length - (intOf i).toNat)
  case atStart=>exact ⟨0,_,Nat.zero_le _,rfl,Part.nil,aC _ _ _ (by simp),(aC _ _ _ (by simp)).alloc _,((aC _ _ _ rfl).alloc _).alloc _,by simpa [dM] using ((hg.alloc _).alloc _).alloc _,bE (bE (bE (mJ _ _) _) _) _⟩
  case round=>
   obtain ⟨j,v,hj,rfl,hp,hB3,hB2,hB1,hGr,hgr⟩:=hrel;by_cases hlt:j<ks.length
   ·obtain ⟨b1,off,k',n',ks',A',c',rfl,hkj,hc1,hc2,hc3,hl',hr'⟩:=(hr.grown hgr (fun b hb e=>hb (by injection e))).at_ hlt;have hbl:=mI _ _ hc1;have hsz:=cF (iC hlt);have hsk:=hkids'.out _ (iC hlt);rw [hkj] at hsz hsk;simp only [Tm.size] at hsz
    have H3:=aD hkj;have H4:=aD hsk;clear hkj hsk;have hz3:=hB3.lt;have c2:wr.cell? ⟨w.heap.size+1+1,2,none⟩=some v:=hB3.at_ rfl;go_wp2_with fail
    refine aW ?_;intro wx hwx;have hXB:Blk wx wr.heap.size (Ro k' n' A' ks'.length c'):=by rw [hwx];exact aC _ _ _ rfl
    have hpx:Part (w.heap.size+3) wx v (gI f k d 0 (ks.take j)):=by rw [hwx];exact hp.alloc _
    have hrx:RdP (·≠g) wx A' 0 ks':=by rw [hwx];exact hr'.alloc _
    have hB3x:Blk wx (w.heap.size+1+1) #[.int .i64 k,.int .i64 n,v]:=by rw [hwx];exact hB3.alloc _
    have hB2x:Blk wx (w.heap.size+1) Zr:=by rw [hwx];exact hB2.alloc _
    have hB1x:Blk wx w.heap.size (Ro k n (some ⟨b1,off,none⟩) ks.length c):=by rw [hwx];exact hB1.alloc _
    have hGx:Blk wx g #[.bool (b && dM ok k d 0 (ks.take j))]:=by rw [hwx];exact hGr.alloc _
    have hgx:w.grownBy wx (some g):=by rw [hwx];exact bE hgr _
    have hs1:wr.heap.size<wx.heap.size:=by rw [hwx];simp
    have hs2:w.heap.size+1+1<wx.heap.size:=by omega
    have x2:=hB3x.ruleG (g:=g) (by omega) (i:=2) rfl;have x0:=hB1x.ruleG (g:=g) (by omega) (i:=0) rfl;have y0:=hXB.ruleG (g:=g) (by omega) (i:=0) rfl;have y1:=hXB.ruleG (g:=g) (by omega) (i:=1) rfl;have y2:=hXB.ruleG (g:=g) (by omega) (i:=2) rfl;have hun:=cW k j;clear hwx;refine bL (fun w'=>wx.grownBy w' (some g)) [0,1,2,3,4,5,6,7,8,9] [10,11] [12,13,14] [_,_,_,_,_,_,_,_,_,_] [_,_] [_,_,_] (by kernel_rfl) (by kernel_rfl) rfl rfl rfl (fun _ _ d _ _ h=>by cases d<;>exact h) (pI (mJ _ _)) ?_;repeat (first|((refine kP (a':=?_) ?_ ?_ ?_);(rotate_left);(· (simp [Region.wanted,yielded];done));(· (simp only [Act.put,List.setIfInBounds_toArray,List.set_cons_zero,List.set_cons_succ];exact rfl)))|((refine kU (v:=?_) (a':=?_) ?_ ?_ ?_ ?_);(rotate_left 2);(· (simp [Region.wanted,yielded];done));(· (intro w' hS';go_simp;try (with_reducible rfl)));(· (simp only [Act.put,List.setIfInBounds_toArray,List.set_cons_zero,List.set_cons_succ];exact rfl)))|((refine mN (v:=?_) (a':=?_) 108 ?_ ?_ ?_ ?_ ?_ ?_);(rotate_left 3);(· (simp [Region.wanted,yielded];done));(· (intro w' hS';go_simp;try (with_reducible rfl)));(· (intro w' hS';exact kM _ _ _));(· (simp only [Act.put,List.setIfInBounds_toArray,List.set_cons_zero,List.set_cons_succ];exact rfl))))
    obtain ⟨k2,n2,ks2,hct⟩:∃k2 n2 ks2,tS f (d+aM k j) (.mk k' n' ks') = .mk k2 n2 ks2:=jF _;have hct':=aD hct;clear hct;refine mA (bO ?_);go_wp2_with (go_at_call 82;refine (ih k' n' ks' A' c' (d+aM k j) q _ (b && dM ok k d 0 (ks.take j)) (by omega) H4.out (by omega) (by omega) (by omega) (gU hW (gU hgx (pI (mJ _ _)))) hGx.drew hrx.drew).mono ?_;rw [hct'.out];intro e w1 hpost;obtain ⟨A1,c1,rfl,hl1,hf1,hG1,hg1⟩:=oE hpost;clear hpost)
    have hx1:wx.grownBy w1 (some g):=gU (pI (mJ _ _)) hg1;have hw1:wx.heap.size≤w1.heap.size:=hx1.size;refine aQ hx1 (bO ?_);go_wp2_with fail
    refine aQ (bE hx1 _) (dL ?_);refine oV (B:=w.heap.size+3) (m:=j) hpx.drew (fun b h1 h2=>hg1.block b h2 (by simp;omega)) hw1 (by simp;omega) hf1 hl1 (by rw [oP];simp;omega) (by omega) rfl (.tmp 32) (.tmp 42) rfl rfl rfl ?_;intro A2 c2 w2 hp2 hb2 hg2;have q3:Blk w2 (w.heap.size+1+1) #[.int .i64 k,.int .i64 n,v]:=(hB3x.grown hx1 (by simp;omega)).below hb2 (by omega);have q2:Blk w2 (w.heap.size+1) Zr:=(hB2x.grown hx1 (by simp;omega)).below hb2 (by omega);have q1:Blk w2 w.heap.size (Ro k n (some ⟨b1,off,none⟩) ks.length c):=(hB1x.grown hx1 (by simp;omega)).below hb2 (by omega);have qg:=hG1.below hb2 (by omega);have c3:w2.cell? ⟨w.heap.size+1+1,2,none⟩=some v:=q3.at_ rfl;have z3:=q3.frozen 2;have hgf:w.grownBy w2 (some g):=aBl (gU hgx hx1) hb2 (by omega);clear x2 y0 y1 y2 x0 hpx hrx hB3x hB2x hB1x hGx;go_wp2_with fail
    go_roundw
    case rel=>
     refine ⟨j+1,_,by omega,by go_num,?_,q3.set_ 2 _,q2.far (by simp) _,q1.far (by simp;omega) _,?_,aK hgf (.inr (by simp;omega)) _⟩
     ·rw [aIx f k d hlt,H3.out,hct'.out];exact hp2.setCell (by simp) _
     ·rw [aCk ok k d hlt,H3.out,← Bool.and_assoc];exact qg.far (by simp;omega) _
    case measure=>simp [intOf];omega
   ·have hjl:j=ks.length:=by omega
    subst hjl;rw [List.take_length] at hp hGr;obtain ⟨Ar,cr,rfl,hfr⟩:=hp.fresh;have c0:wr.cell? ⟨w.heap.size+1+1,0,none⟩=some (.int .i64 k):=hB3.at_ rfl;have c1:wr.cell? ⟨w.heap.size+1+1,1,none⟩=some (.int .i64 n):=hB3.at_ rfl;have c2:wr.cell? ⟨w.heap.size+1+1,2,none⟩=some (.slice Ar (gI f k d 0 ks).length cr):=hB3.at_ rfl;have d0:wr.cell? ⟨w.heap.size+1,0,none⟩=some (.int .i64 0):=hB2.at_ rfl;have d1:wr.cell? ⟨w.heap.size+1,1,none⟩=some (.int .i64 0):=hB2.at_ rfl;have d2:wr.cell? ⟨w.heap.size+1,2,none⟩=some (.slice none 0 0):=hB2.at_ rfl;obtain ⟨e0,e1,e2⟩:=bkf hB2;have hgne:g≠w.heap.size+1:=by omega
    go_wp2_with fail
    refine bodyPost_ret (v:=.agg #[.int .i64 k,.int .i64 n,.slice Ar (gI f k d 0 ks).length cr]) (by simp [results,results82,go_sem,d0,d1,d2]) rfl ⟨Ar,cr,rfl,by rw [show (Tm.mk k n (gI f k d 0 ks)).ks=gI f k d 0 ks from rfl,oP];omega,?_,?_,?_⟩
    ·exact (tT hfr).mono (by omega)
    ·exact ((hGr.far (by simpa using hgne) _).far (by simpa using hgne) _).far (by simpa using hgne) _
    ·exact aK (aK (aK hgr (.inr (by simp)) _) (.inr (by simp)) _) (.inr (by simp)) _
end Go.Proofs.YtjlaenhcemacdaaGreat
