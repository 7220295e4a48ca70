/- Parts of the proof. No condition. -/
import Derived.Test.YtajjhldcjikkpaaGreatK1
open Go.Proofs.Tryz
namespace Go.Proofs.YtajjhldcjikkpaaGreat
open Go.RowKit
set_option maxHeartbeats 2000000
set_option maxRecDepth 100000
set_option linter.unusedSimpArgs false
set_option linter.unusedVariables false
mutual
def uP (f:Int→Int→Tm):Int→Tm→Tm
 | d,.mk k n ks=>if k=1 then f n d else .mk k n (gT f k d 0 ks)
def gT (f:Int→Int→Tm):Int→Int→Nat→List Tm→List Tm
 | _,_,_,[]=>[]
 | k,d,i,t::ts=>uP f (d+aR k i) t::gT f k d (i+1) ts
end
mutual
def fM (ok:Int→Int→Bool):Int→Tm→Bool
 | d,.mk k n ks=>if k=1 then ok n d else eE ok k d 0 ks
def eE (ok:Int→Int→Bool):Int→Int→Nat→List Tm→Bool
 | _,_,_,[]=>true
 | k,d,i,t::ts=>fM ok (d+aR k i) t && eE ok k d (i+1) ts
end
theorem uC (f:Int→Int→Tm)(k d:Int)(us:List Tm):∀(ts:List Tm) (i:Nat),gT f k d i (ts++us)=gT f k d i ts++gT f k d (i+ts.length) us
 | [],i=>by simp [gT]
 | t::ts,i=>by rw [List.cons_append,gT,gT,uC f k d us ts (i+1),List.cons_append,List.length_cons,show i+1+ts.length=i+(ts.length+1) from by omega]
theorem oI (f:Int→Int→Tm)(k d:Int):∀(ts:List Tm) (i:Nat),(gT f k d i ts).length=ts.length
 | [],i=>by simp [gT]
 | t::ts,i=>by rw [gT,List.length_cons,List.length_cons,oI f k d ts (i+1)]
theorem qJ (ok:Int→Int→Bool)(k d:Int)(us:List Tm):∀(ts:List Tm) (i:Nat),eE ok k d i (ts++us)=(eE ok k d i ts && eE ok k d (i+ts.length) us)
 | [],i=>by simp [eE]
 | t::ts,i=>by rw [List.cons_append,eE,eE,qJ ok k d us ts (i+1),List.length_cons,show i+1+ts.length=i+(ts.length+1) from by omega,Bool.and_assoc]
theorem aJj (f:Int→Int→Tm)(k d:Int){ks:List Tm}{j:Nat}(hj:j<ks.length):gT f k d 0 (ks.take (j+1))=gT f k d 0 (ks.take j)++[uP f (d+aR k j) ks[j]]:=by
 rw [uQ hj,uC,List.length_take,Nat.min_eq_left (Nat.le_of_lt hj),Nat.zero_add,gT,gT]
theorem aCv (ok:Int→Int→Bool)(k d:Int){ks:List Tm}{j:Nat}(hj:j<ks.length):eE ok k d 0 (ks.take (j+1))=(eE ok k d 0 (ks.take j) && fM ok (d+aR k j) ks[j]):=by
 rw [uQ hj,qJ,List.length_take,Nat.min_eq_left (Nat.le_of_lt hj),Nat.zero_add,eE,eE,Bool.and_true]
theorem jF (t:Tm):∃k n ks,t = .mk k n ks:=by cases t;exact ⟨_,_,_,rfl⟩
def aVx (g:Nat)(w:World)(t:Tm)(b:Bool)(e:Ending)(w':World):Prop:=
 ∃A c,e = .returned (.agg (Ro t.k t.n A t.ks.length c))∧t.ks.length≤9223372036854775807∧Fresh w.heap.size w' A t.ks∧Blk w' g #[.bool b]∧w.grownBy w' (some g)
theorem nL {g:Nat}{w:World}{k n:Int}{ks:List Tm}{b:Bool}{e:Ending}{w':World}(h:aVx g w (.mk k n ks) b e w') :
  ∃A c,e = .returned (.agg (Ro k n A ks.length c))∧ks.length≤9223372036854775807∧Fresh w.heap.size w' A ks∧Blk w' g #[.bool b]∧w.grownBy w' (some g):=h
theorem oT {a w w':World}{row:Option Nat}{B:Nat}(h:a.grownBy w row)(k:Below B w w')(hB:a.heap.size≤B):a.grownBy w' row:=
 ⟨k.os.trans h.os,k.tape.trans h.tape,k.output.trans h.output,Nat.le_trans h.size k.size,fun i hi hne=>(k.block i (by omega)).trans (h.block i hi hne)⟩
def aMy (F:Nat)(caps:List Value)(W0:World)(g:Nat)(f:Int→Int→Tm)(ok:Int→Int→Bool):Prop:=
 ∀(n d:Int) (w:World) (b:Bool),0≤n→n≤20→0≤d→d≤60→W0.grownBy w (some g)→Blk w g #[.bool b]→Calls prog F (.int .i64 n :: .int .i64 d::caps).toArray w (aVx g w (f n d) (b && ok n d))
theorem bE {a w w':World}{row:Option Nat}(h:a.grownBy w row)(k:w.grownBy w' row):a.grownBy w' row:=gF h k
theorem Blk.ruleG {wx:World}{g b:Nat}{cs:Array Value}(h:Blk wx b cs)(hb:b≠g){i:Nat}{v:Value}(hi:cs[i]?=some v):∀w':World,wx.grownBy w' (some g)→w'.cell? ⟨b,i,none⟩=some v:=
 fun _ hw=>(h.grown hw (by simpa using hb)).at_ hi
theorem fO {F : Nat}{fn : Func}(hf : prog.funcs[F]? = some fn)(h1 : (fn.name == "runtime.NumGoroutine") = false)(h2 : fn.body.isNone = false)(args : Array Value)(w : World) : (callFunc F args).run prog w = .ok (.enter F args) w := by
 have h1' : fn.name ≠ "runtime.NumGoroutine" := by simpa using h1
 have h2':fn.body≠none:=by intro e;rw [e] at h2;cases h2
 simp [callFunc,go_sem,hf,h1',h2']
theorem hE {F:Nat}{caps:List Value}{W0:World}{g:Nat}{f:Int→Int→Tm}{ok:Int→Int→Bool}(hF:aMy F caps W0 g f ok)(hrun:∀(args:Array Value) (w:World),(callFunc F args).run prog w = .ok (.enter F args) w)(N:Nat) :
  ∀(k n:Int) (ks:List Tm) (A:Option Addr) (c:Nat) (d:Int) (q:Nat) (w:World) (b:Bool),aH ks<N→shape q (.mk k n ks)=true→0≤d→d+q≤60→aH ks≤1099511627776→
   W0.grownBy w (some g)→Blk w g #[.bool b]→RdP (·≠g) w A 0 ks→
   Calls prog 129 #[.agg (Ro k n A ks.length c),.int .i64 d,.func (.func F) #[] caps.toArray] w (aVx g w (uP f d (.mk k n ks)) (b && fM ok d (.mk k n ks))):=by
 induction N with
 | zero=>intro k n ks A c d q w b hN;exact absurd hN (Nat.not_lt_zero _)
 | succ N ih=>
 intro k n ks A c d q w b hN hsh hd0 hdq hM hW hg hr;have hlen:=aQ ks;obtain ⟨q,rfl⟩:∃q',q=q'+1:=by cases q with|zero=>simp [shape] at hsh|succ q=>exact ⟨q,rfl⟩
 obtain ⟨ha,hm1,hm2,hkids⟩:=(bA q k n ks).1 hsh;have hgl:=hg.lt;by_cases hk:k=1
 ·subst hk;have hz:uP f d (.mk 1 n ks)=f n d:=by rw [uP,if_pos rfl]
  have hzo:fM ok d (.mk 1 n ks)=ok n d:=by rw [fM,if_pos rfl]
  have hn2:n≤20:=by simpa [dN] using hm2
  rw [hz,hzo];generalize hft:f n d=ft
  go_enter func129,ntmps129;go_wp2_with (refine (hF n d _ b hm1 hn2 hd0 (by omega) ((bE hW (aM (aM (iM _ _) _) _))) ((hg.alloc _).alloc _)).mono ?_;rw [hft];rintro e w3 ⟨A3,c3,rfl,hl3,hf3,hg3,hgr3⟩;have hT:Blk w3 (w.heap.size+1) Zr:=(aC (n:=w.heap.size+1) (w.alloc (.cells (Ro 1 n A ks.length c) 25)) 25 Zr (by simp)).grown hgr3 (by simp;omega);have d0:=hT.at_ (i:=0) rfl;have d1:=hT.at_ (i:=1) rfl;have d2:=hT.at_ (i:=2) rfl;obtain ⟨e0,e1,e2⟩:=lF hT)
  have hgr:w.grownBy w3 (some g):=bE (aM (aM (iM _ _) _) _) hgr3;have hsz:w.heap.size+1<w3.heap.size:=by have:=hT.lt;simpa using this
  have hgne:g≠w.heap.size+1:=by omega
  refine bodyPost_ret (v:=.agg (Ro ft.k ft.n A3 ft.ks.length c3)) (by simp [results,results129,go_sem,d0,d1,d2]) rfl ⟨A3,c3,rfl,hl3,?_,?_,?_⟩
  ·exact (mU hf3).mono (by simp;omega)
  ·exact ((hg3.far (by simpa using hgne) _).far (by simpa using hgne) _).far (by simpa using hgne) _
  ·exact aG (aG (aG hgr (.inr (by simp)) _) (.inr (by simp)) _) (.inr (by simp)) _
 ·have hz:uP f d (.mk k n ks) = .mk k n (gT f k d 0 ks):=by rw [uP,if_neg hk]
  have hzo:fM ok d (.mk k n ks)=eE ok k d 0 ks:=by rw [fM,if_neg hk]
  have q1:(k==1)=false:=by simpa using hk
  rw [hz,hzo];have hkids':=aD hkids;clear hz hzo hk hkids ha hm1 hm2 hsh;go_enter func129,ntmps129;go_wp2_with fail
  go_loopw [26] (fun i wr=>∃(j:Nat) (v:Value),j≤ks.length∧i = .int .i64 j∧Part (w.heap.size+3) wr v (gT f k d 0 (ks.take j))∧Blk wr (w.heap.size+1+1) #[.int .i64 k,.int .i64 n,v]∧Blk wr (w.heap.size+1) Zr∧Blk wr w.heap.size (Ro k n A ks.length c)∧Blk wr g #[.bool (b && eE ok k d 0 (ks.take j))]∧w.grownBy wr (some g))
   (fun i _=>ks.length - (intOf i).toNat)
  case atStart=>exact ⟨0,_,Nat.zero_le _,rfl,Part.nil,aC _ _ _ (by simp),(aC _ _ _ (by simp)).alloc _,((aC _ _ _ rfl).alloc _).alloc _,by simpa [eE] using ((hg.alloc _).alloc _).alloc _,aM (aM (aM (iM _ _) _) _) _⟩
  case round=>
   obtain ⟨j,v,hj,rfl,hp,hB3,hB2,hB1,hGr,hgr⟩:=hrel;by_cases hlt:j<ks.length
   ·obtain ⟨b1,off,k',n',ks',A',c',rfl,hkj,hc1,hc2,hc3,hl',hr'⟩:=(hr.grown hgr (fun b hb e=>hb (by injection e))).at_ hlt;have hbl:=kY _ _ hc1;have hsz:=cM (iS hlt);have hsk:=hkids'.out _ (iS hlt);rw [hkj] at hsz hsk;simp only [Tm.size] at hsz
    have H3:=aD hkj;have H4:=aD hsk;clear hkj hsk;have hz3:=hB3.lt;have c2:wr.cell? ⟨w.heap.size+1+1,2,none⟩=some v:=hB3.at_ rfl;go_wp2_with fail
    refine aN ?_;intro wx hwx;have hXB:Blk wx wr.heap.size (Ro k' n' A' ks'.length c'):=by rw [hwx];exact aC _ _ _ rfl
    have hpx:Part (w.heap.size+3) wx v (gT f k d 0 (ks.take j)):=by rw [hwx];exact hp.alloc _
    have hrx:RdP (·≠g) wx A' 0 ks':=by rw [hwx];exact hr'.alloc _
    have hB3x:Blk wx (w.heap.size+1+1) #[.int .i64 k,.int .i64 n,v]:=by rw [hwx];exact hB3.alloc _
    have hB2x:Blk wx (w.heap.size+1) Zr:=by rw [hwx];exact hB2.alloc _
    have hB1x:Blk wx w.heap.size (Ro k n (some ⟨b1,off,none⟩) ks.length c):=by rw [hwx];exact hB1.alloc _
    have hGx:Blk wx g #[.bool (b && eE ok k d 0 (ks.take j))]:=by rw [hwx];exact hGr.alloc _
    have hgx:w.grownBy wx (some g):=by rw [hwx];exact aM hgr _
    have hs1:wr.heap.size<wx.heap.size:=by rw [hwx];simp
    have hs2:w.heap.size+1+1<wx.heap.size:=by omega
    have x2:=hB3x.ruleG (g:=g) (by omega) (i:=2) rfl;have x0:=hB1x.ruleG (g:=g) (by omega) (i:=0) rfl;have y0:=hXB.ruleG (g:=g) (by omega) (i:=0) rfl;have y1:=hXB.ruleG (g:=g) (by omega) (i:=1) rfl;have y2:=hXB.ruleG (g:=g) (by omega) (i:=2) rfl;have hun:=dH k j;clear hwx;refine bK (fun w'=>wx.grownBy w' (some g)) [0,1,2,3,4,5,6,7,8,9] [10,11] [12,13,14] [_,_,_,_,_,_,_,_,_,_] [_,_] [_,_,_] (by kernel_rfl) (by kernel_rfl) rfl rfl rfl (fun _ _ d _ _ h=>by cases d<;>exact h) (dR (iM _ _)) ?_;repeat (first|((refine nE (a':=?_) ?_ ?_ ?_);(rotate_left);(· (simp [Region.wanted,yielded];done));(· (simp only [Act.put,List.setIfInBounds_toArray,List.set_cons_zero,List.set_cons_succ];exact rfl)))|((refine nF (v:=?_) (a':=?_) ?_ ?_ ?_ ?_);(rotate_left 2);(· (simp [Region.wanted,yielded];done));(· (intro w' hS';go_simp;try (with_reducible rfl)));(· (simp only [Act.put,List.setIfInBounds_toArray,List.set_cons_zero,List.set_cons_succ];exact rfl)))|((refine qK (v:=?_) (a':=?_) 73 ?_ ?_ ?_ ?_ ?_ ?_);(rotate_left 3);(· (simp [Region.wanted,yielded];done));(· (intro w' hS';go_simp;try (with_reducible rfl)));(· (intro w' hS';exact kS _ _ _));(· (simp only [Act.put,List.setIfInBounds_toArray,List.set_cons_zero,List.set_cons_succ];exact rfl))))
    obtain ⟨k2,n2,ks2,hct⟩:∃k2 n2 ks2,uP f (d+aR k j) (.mk k' n' ks') = .mk k2 n2 ks2:=jF _;have hct':=aD hct;clear hct;refine pN (bF ?_);go_wp2_with (go_at_call 129;refine (ih k' n' ks' A' c' (d+aR k j) q _ (b && eE ok k d 0 (ks.take j)) (by omega) H4.out (by omega) (by omega) (by omega) (bE hW (bE hgx (dR (iM _ _)))) hGx.drew hrx.drew).mono ?_;rw [hct'.out];intro e w1 hpost;obtain ⟨A1,c1,rfl,hl1,hf1,hG1,hg1⟩:=nL hpost;clear hpost)
    have hx1:wx.grownBy w1 (some g):=bE (dR (iM _ _)) hg1;have hw1:wx.heap.size≤w1.heap.size:=hx1.size;refine aP hx1 (bF ?_);go_wp2_with fail
    refine aP (aM hx1 _) (cZ ?_);refine fW (B:=w.heap.size+3) (m:=j) hpx.drew (fun b h1 h2=>hg1.block b h2 (by simp;omega)) hw1 (by simp;omega) hf1 hl1 (by rw [oI];simp;omega) (by omega) rfl (.tmp 32) (.tmp 42) rfl rfl rfl ?_;intro A2 c2 w2 hp2 hb2 hg2;have q3:Blk w2 (w.heap.size+1+1) #[.int .i64 k,.int .i64 n,v]:=(hB3x.grown hx1 (by simp;omega)).below hb2 (by omega);have q2:Blk w2 (w.heap.size+1) Zr:=(hB2x.grown hx1 (by simp;omega)).below hb2 (by omega);have q1:Blk w2 w.heap.size (Ro k n (some ⟨b1,off,none⟩) ks.length c):=(hB1x.grown hx1 (by simp;omega)).below hb2 (by omega);have qg:=hG1.below hb2 (by omega);have c3:w2.cell? ⟨w.heap.size+1+1,2,none⟩=some v:=q3.at_ rfl;have z3:=q3.frozen 2;have hgf:w.grownBy w2 (some g):=oT (bE hgx hx1) hb2 (by omega);clear x2 y0 y1 y2 x0 hpx hrx hB3x hB2x hB1x hGx;go_wp2_with fail
    go_roundw
    case rel=>
     refine ⟨j+1,_,by omega,by go_num,?_,q3.set_ 2 _,q2.far (by simp) _,q1.far (by simp;omega) _,?_,aG hgf (.inr (by simp;omega)) _⟩
     ·rw [aJj f k d hlt,H3.out,hct'.out];exact hp2.setCell (by simp) _
     ·rw [aCv ok k d hlt,H3.out,← Bool.and_assoc];exact qg.far (by simp;omega) _
    case measure=>simp [intOf];omega
   ·have hjl:j=ks.length:=by omega
    subst hjl;rw [List.take_length] at hp hGr;obtain ⟨Ar,cr,rfl,hfr⟩:=hp.fresh;have c0:wr.cell? ⟨w.heap.size+1+1,0,none⟩=some (.int .i64 k):=hB3.at_ rfl;have c1:wr.cell? ⟨w.heap.size+1+1,1,none⟩=some (.int .i64 n):=hB3.at_ rfl;have c2:wr.cell? ⟨w.heap.size+1+1,2,none⟩=some (.slice Ar (gT f k d 0 ks).length cr):=hB3.at_ rfl;have d0:wr.cell? ⟨w.heap.size+1,0,none⟩=some (.int .i64 0):=hB2.at_ rfl;have d1:wr.cell? ⟨w.heap.size+1,1,none⟩=some (.int .i64 0):=hB2.at_ rfl;have d2:wr.cell? ⟨w.heap.size+1,2,none⟩=some (.slice none 0 0):=hB2.at_ rfl;obtain ⟨e0,e1,e2⟩:=lF hB2;have hgne:g≠w.heap.size+1:=by omega
    go_wp2_with fail
    refine bodyPost_ret (v:=.agg #[.int .i64 k,.int .i64 n,.slice Ar (gT f k d 0 ks).length cr]) (by simp [results,results129,go_sem,d0,d1,d2]) rfl ⟨Ar,cr,rfl,by rw [show (Tm.mk k n (gT f k d 0 ks)).ks=gT f k d 0 ks from rfl,oI];omega,?_,?_,?_⟩
    ·exact (mU hfr).mono (by omega)
    ·exact ((hGr.far (by simpa using hgne) _).far (by simpa using hgne) _).far (by simpa using hgne) _
    ·exact aG (aG (aG hgr (.inr (by simp)) _) (.inr (by simp)) _) (.inr (by simp)) _
def kQ (d:Nat)(c0:Int)(k n:Int)(ks:List Tm):Bool:=shape d (.mk k n ks) && decide (c0+1+aH ks≤400)
theorem uX {d:Nat}{c0 k n:Int}{ks:List Tm}(h:¬(0<d∧aK k=(ks.length:Int)∧0≤n∧n≤dN k∧c0+1≤400)):false=kQ d c0 k n ks:=by
 cases e:kQ d c0 k n ks with
 | false=>rfl
 | true=>
  simp only [kQ,Bool.and_eq_true,decide_eq_true_eq] at e
  cases d with
  | zero=>simp [shape] at e
  | succ d=>
   have:=(bA d k n ks).1 e.1;exact absurd ⟨by omega,this.1,this.2.1,this.2.2.1,by omega⟩ h
theorem aNu {d:Nat}{c0 k n:Int}{ks:List Tm}(h:shape d (.mk k n ks)=true)(h2:c0+1+(aH ks:Int)≤400):true=kQ d c0 k n ks:=by
 simp only [kQ,h,decide_eq_true h2,Bool.and_self]
theorem xB {d:Nat}{c0 k1 n1:Int}{ks ks1:List Tm}{j:Nat}(hj:j<ks.length)(hk:ks[j] = .mk k1 n1 ks1)(hst:aH (ks.take (j+1))=aH (ks.take j)+(aH ks1+1))
  (hb : true = kQ d (c0 + 1 + (aH (ks.take j) : Int)) k1 n1 ks1) : shape d ks[j] = true ∧ c0 + 1 + (aH (ks.take (j + 1)) : Int) ≤ 400 := by
 simp only [kQ] at hb
 have hb:=hb.symm;rw [Bool.and_eq_true,decide_eq_true_eq] at hb;rw [hk];refine ⟨hb.1,?_⟩;have:=hb.2;rw [hst];push_cast
 omega
theorem xV {d:Nat}{c0 k n k1 n1:Int}{ks ks1:List Tm}{j:Nat}(hj:j<ks.length)(hk:ks[j] = .mk k1 n1 ks1)(hst:aH (ks.take (j+1))=aH (ks.take j)+(aH ks1+1))
  (hb : false = kQ d (c0 + 1 + (aH (ks.take j) : Int)) k1 n1 ks1) : false = kQ (d + 1) c0 k n ks := by
 cases e:kQ (d+1) c0 k n ks with
 | false=>rfl
 | true=>
  simp only [kQ,Bool.and_eq_true,decide_eq_true_eq] at e
  have h1:=(bA d k n ks).1 e.1;have h2:=h1.2.2.2 _ (iS hj);have h3:=qI ks (j+1);rw [hk] at h2;simp only [kQ,h2,Bool.true_and] at hb
  have:=of_decide_eq_false hb.symm;omega
theorem aFg {ks:List Tm}{j:Nat}{p:Tm→Prop}(hj:j<ks.length)(h:∀t,t∈ks.take j→p t)(h1:p ks[j]):∀t,t∈ks.take (j+1)→p t:=by
 intro t ht;rw [uQ hj,List.mem_append] at ht;rcases ht with ht|ht
 ·exact h t ht
 ·simp at ht;rw [ht];exact h1
theorem nX {w w':World}{o:Obj}{m:Option Nat}(h:(w.alloc o).grownBy w' m):w.grownBy w' m:=gF (aM (iM _ _) o) h
def aNd (d:Nat)(c0:Int)(k n:Int)(ks:List Tm)(g:Nat)(w:World)(e:Ending)(w':World):Prop:=
 ∃(b:Bool) (c1:Int),e = .returned (.bool b)∧b=kQ d c0 k n ks∧(b=true→c1=c0+1+aH ks)∧0≤c1∧c1≤1000∧Blk w' g #[.int .i64 c1]∧w.grownBy w' (some g)
theorem aNv (N:Nat):∀(k n:Int) (ks:List Tm) (A:Option Addr) (c:Nat) (deep:Int) (d:Nat) (c0:Int) (g:Nat) (w:World),aH ks<N→ks.length≤9223372036854775807→1≤deep→deep+d≤31→31≤deep+d→0≤c0→c0≤900→
  Blk w g #[.int .i64 c0]→RdP (·≠g) w A 0 ks→
  Calls prog 48 #[.agg (Ro k n A ks.length c),.int .i64 deep,.pointer (some ⟨g,0,none⟩)] w (aNd d c0 k n ks g w):=by
 induction N with
 | zero=>intro k n ks A c deep d c0 g w hN;exact absurd hN (Nat.not_lt_zero _)
 | succ N ih=>
 intro k n ks A c deep d c0 g w hN hl qE rW sR hc1 hc2 hcb hr;have hgl:=hcb.lt;have hgc:=hcb.at_ (i:=0) rfl;have hgf:=hcb.frozen 0;by_cases h0:c0+1≤400
 ·by_cases h1:deep≤30
  ·by_cases h2:aK k=(ks.length:Int)
   ·have q2:(aK k != (ks.length:Int))=false:=by simpa using h2
    by_cases h3:0≤n∧n≤dN k
    ·have q0:decide (400<c0+1)=false:=by simp;omega
     have q1:decide (30<deep)=false:=by simp;omega
     have q3:(decide (0≤n) && decide (n≤dN k))=true:=by simp [h3.1,h3.2]
     have H:=aD (And.intro h2 h3);clear h2 h3;go_enter func48,ntmps48;go_wp2_with fail
     refine aN ?_;intro wx hwx;have hg0:w.grownBy wx (some g):=by rw [hwx];exact aM (aG (iM _ _) (.inl rfl) _) _
     have hB:Blk wx w.heap.size (Ro k n A ks.length c):=by rw [hwx];exact aC _ _ _ (by simp)
     have hG:Blk wx g #[.int .i64 (c0+1)]:=by rw [hwx];exact (hcb.set_ 0 _).alloc _
     have hrx:RdP (·≠g) wx A 0 ks:=hr.grown hg0 (fun b hb e=>hb (by injection e));have hsx:w.heap.size<wx.heap.size:=by rw [hwx];simp
     have r0:=hB.rule (i:=0) rfl;have r1:=hB.rule (i:=1) rfl;have r2:=hB.rule (i:=2) rfl;have r3:=hG.rule (i:=0) rfl;clear hwx;refine bZ (fun w'=>Bw wx w') (by kernel_rfl) (by kernel_rfl) (fG _ _).drew ?_;repeat (first|refine qS ?_|refine qO ?_|refine qB 71 (hc:=fun w' hS'=>by exact iR _ _) (h:=?_)|refine qM 72 (hc:=fun w' hS'=>by exact oF _ _) (h:=?_)|refine qM 26 (hc:=fun w' hS'=>by exact cX _ _ _ _) (h:=?_))
     refine dW ?_;intro w2 hb2;replace hB:=hB.keep hb2;replace hG:=hG.keep hb2;replace hrx:=hrx.below hb2;replace hg0:=bI hg0 hb2;clear r0 r1 r2 r3 hb2;obtain ⟨d,rfl⟩:∃d',d=d'+1:=⟨d - 1,by omega⟩;have hz:=aD (bA d k n ks);have c2:=hB.at_ (i:=2) rfl;go_wp2_with fail
     go_loopw [43] (fun i wr=>∃j:Nat,j≤ks.length∧i = .int .i64 j∧Hid (∀t,t∈ks.take j→shape d t=true)∧c0+1+aH (ks.take j)≤400∧Blk wr g #[.int .i64 (c0+1+aH (ks.take j))]∧w.grownBy wr (some g)) (fun i _=>ks.length - (intOf i).toNat)
     case atStart=>exact ⟨0,Nat.zero_le _,rfl,aD (by simp),by simp [aH];omega,by simpa [aH] using hG,hg0⟩
     case round=>
      obtain ⟨j,hj,rfl,hall,hle,hGr,hgr⟩:=hrel;by_cases hlt:j<ks.length
      ·obtain ⟨b,off,k1,n1,ks1,A1,c1,rfl,hkj,hc1,hc2,hc3,hl1,hr1⟩:=(hr.grown hgr (fun b hb e=>hb (by injection e))).at_ hlt;have hst:=wV ks j hlt;have hsz:=cM (iS hlt);rw [hkj] at hsz hst;simp only [Tm.size] at hsz hst
       have H3:=aD hkj;have H4:=aD hst;clear hkj hst;go_wp2_with (go_at_call 48;refine (ih k1 n1 ks1 A1 c1 (deep+1) d (c0+1+aH (ks.take j)) g _ (by omega) hl1 (by omega) (by omega) (by omega) (by omega) (by omega) (hGr.alloc _) (hr1.alloc _)).mono ?_;rintro e w3 ⟨b,cx,rfl,hbe,hcx,hx0,hx1,hG3,hg3⟩;have hbe':=aD hbe;have hcx':=aD hcx;clear hbe hcx)
       ·rename_i hbx
        cases b with
        | true=>simp at hbx
        | false=>
        go_ret
        exact ⟨false,cx,rfl,xV hlt H3.out H4.out hbe'.out,(fun h=>(by cases h)),hx0,hx1,hG3,gF hgr (nX hg3)⟩
       ·rename_i hbx
        cases b with
        | false=>simp at hbx
        | true=>
        have hcx2:=hcx'.out rfl;obtain ⟨hs1,hs2⟩:=xB hlt H3.out H4.out hbe'.out;have h4:=H4.out;refine ⟨?_,by simp [intOf];omega⟩;repeat apply Exists.intro
        refine ⟨⟨j+1,hlt,by rfl,aD (aFg hlt hall.out hs1),hs2,?_,gF hgr (nX hg3)⟩,by rw [q3];rfl⟩;rw [show c0+1+(aH (ks.take (j+1)):Int)=cx from by rw [hcx2,h4];push_cast;omega];exact hG3
      ·go_wp2_with fail
       go_ret
       have hje:j=ks.length:=by omega
       have ha:=hall.out;rw [hje,List.take_length] at ha hle hGr;exact ⟨true,_,rfl,aNu (hz.out.2 ⟨H.out.1,H.out.2.1,H.out.2.2,ha⟩) hle,(fun _=>rfl),by omega,by omega,hGr,hgr⟩
    ·have q0:decide (400<c0+1)=false:=by simp;omega
     have q1:decide (30<deep)=false:=by simp;omega
     have q3:(decide (0≤n) && decide (n≤dN k))=false:=by
      rw [Bool.and_eq_false_iff,decide_eq_false_iff_not,decide_eq_false_iff_not];omega
     have H:=aD h3;clear h2 h3;go_enter func48,ntmps48;go_wp2_with fail
     refine aN ?_;intro wx hwx;have hg0:w.grownBy wx (some g):=by rw [hwx];exact aM (aG (iM _ _) (.inl rfl) _) _
     have hB:Blk wx w.heap.size (Ro k n A ks.length c):=by rw [hwx];exact aC _ _ _ (by simp)
     have hG:Blk wx g #[.int .i64 (c0+1)]:=by rw [hwx];exact (hcb.set_ 0 _).alloc _
     have hrx:RdP (·≠g) wx A 0 ks:=hr.grown hg0 (fun b hb e=>hb (by injection e));have hsx:w.heap.size<wx.heap.size:=by rw [hwx];simp
     have r0:=hB.rule (i:=0) rfl;have r1:=hB.rule (i:=1) rfl;have r2:=hB.rule (i:=2) rfl;have r3:=hG.rule (i:=0) rfl;clear hwx;refine bZ (fun w'=>Bw wx w') (by kernel_rfl) (by kernel_rfl) (fG _ _).drew ?_;repeat (first|refine qS ?_|refine qO ?_|refine qB 71 (hc:=fun w' hS'=>by exact iR _ _) (h:=?_)|refine qM 72 (hc:=fun w' hS'=>by exact oF _ _) (h:=?_)|refine qM 26 (hc:=fun w' hS'=>by exact cX _ _ _ _) (h:=?_))
     refine dW ?_;intro w2 hb2;replace hB:=hB.keep hb2;replace hG:=hG.keep hb2;replace hrx:=hrx.below hb2;replace hg0:=bI hg0 hb2;clear r0 r1 r2 r3 hb2;go_wp2_with fail
     go_ret
     exact ⟨_,c0+1,rfl,uX (by have:=H.out;omega),(fun h=>(by cases h)),by omega,by omega,hG,hg0⟩
   ·have q0:decide (400<c0+1)=false:=by simp;omega
    have q1:decide (30<deep)=false:=by simp;omega
    have q2:(aK k != (ks.length:Int))=true:=by simpa using h2
    have H:=aD h2;clear h2;go_enter func48,ntmps48;go_wp2_with fail
    refine aN ?_;intro wx hwx;have hg0:w.grownBy wx (some g):=by rw [hwx];exact aM (aG (iM _ _) (.inl rfl) _) _
    have hB:Blk wx w.heap.size (Ro k n A ks.length c):=by rw [hwx];exact aC _ _ _ (by simp)
    have hG:Blk wx g #[.int .i64 (c0+1)]:=by rw [hwx];exact (hcb.set_ 0 _).alloc _
    have hrx:RdP (·≠g) wx A 0 ks:=hr.grown hg0 (fun b hb e=>hb (by injection e));have hsx:w.heap.size<wx.heap.size:=by rw [hwx];simp
    have r0:=hB.rule (i:=0) rfl;have r1:=hB.rule (i:=1) rfl;have r2:=hB.rule (i:=2) rfl;have r3:=hG.rule (i:=0) rfl;clear hwx;refine bZ (fun w'=>Bw wx w') (by kernel_rfl) (by kernel_rfl) (fG _ _).drew ?_;repeat (first|refine qS ?_|refine qO ?_|refine qB 71 (hc:=fun w' hS'=>by exact iR _ _) (h:=?_)|refine qM 72 (hc:=fun w' hS'=>by exact oF _ _) (h:=?_)|refine qM 26 (hc:=fun w' hS'=>by exact cX _ _ _ _) (h:=?_))
    refine dW ?_;intro w2 hb2;replace hB:=hB.keep hb2;replace hG:=hG.keep hb2;replace hrx:=hrx.below hb2;replace hg0:=bI hg0 hb2;clear r0 r1 r2 r3 hb2;go_wp2_with fail
    go_ret
    exact ⟨_,c0+1,rfl,uX (by have:=H.out;omega),(fun h=>(by cases h)),by omega,by omega,hG,hg0⟩
  ·have q0:decide (400<c0+1)=false:=by simp;omega
   have q1:decide (30<deep)=true:=by simp;omega
   have H:=aD h1;go_enter func48,ntmps48;go_wp2_with fail
   refine aN ?_;intro wx hwx;have hg0:w.grownBy wx (some g):=by rw [hwx];exact aM (aG (iM _ _) (.inl rfl) _) _
   have hB:Blk wx w.heap.size (Ro k n A ks.length c):=by rw [hwx];exact aC _ _ _ (by simp)
   have hG:Blk wx g #[.int .i64 (c0+1)]:=by rw [hwx];exact (hcb.set_ 0 _).alloc _
   have hrx:RdP (·≠g) wx A 0 ks:=hr.grown hg0 (fun b hb e=>hb (by injection e));have hsx:w.heap.size<wx.heap.size:=by rw [hwx];simp
   have r0:=hB.rule (i:=0) rfl;have r1:=hB.rule (i:=1) rfl;have r2:=hB.rule (i:=2) rfl;have r3:=hG.rule (i:=0) rfl;clear hwx;refine bZ (fun w'=>Bw wx w') (by kernel_rfl) (by kernel_rfl) (fG _ _).drew ?_;repeat (first|refine qS ?_|refine qO ?_|refine qB 71 (hc:=fun w' hS'=>by exact iR _ _) (h:=?_)|refine qM 72 (hc:=fun w' hS'=>by exact oF _ _) (h:=?_)|refine qM 26 (hc:=fun w' hS'=>by exact cX _ _ _ _) (h:=?_))
   refine dW ?_;intro w2 hb2;replace hB:=hB.keep hb2;replace hG:=hG.keep hb2;replace hrx:=hrx.below hb2;replace hg0:=bI hg0 hb2;clear r0 r1 r2 r3 hb2;go_wp2_with fail
   go_ret
   exact ⟨_,c0+1,rfl,uX (by have:=H.out;omega),(fun h=>(by cases h)),by omega,by omega,hG,hg0⟩
 ·have q0:decide (400<c0+1)=true:=by simp;omega
  have H:=aD h0;go_enter func48,ntmps48;go_wp2_with fail
  refine aN ?_;intro wx hwx;have hg0:w.grownBy wx (some g):=by rw [hwx];exact aM (aG (iM _ _) (.inl rfl) _) _
  have hB:Blk wx w.heap.size (Ro k n A ks.length c):=by rw [hwx];exact aC _ _ _ (by simp)
  have hG:Blk wx g #[.int .i64 (c0+1)]:=by rw [hwx];exact (hcb.set_ 0 _).alloc _
  have hrx:RdP (·≠g) wx A 0 ks:=hr.grown hg0 (fun b hb e=>hb (by injection e));have hsx:w.heap.size<wx.heap.size:=by rw [hwx];simp
  have r0:=hB.rule (i:=0) rfl;have r1:=hB.rule (i:=1) rfl;have r2:=hB.rule (i:=2) rfl;have r3:=hG.rule (i:=0) rfl;clear hwx;refine bZ (fun w'=>Bw wx w') (by kernel_rfl) (by kernel_rfl) (fG _ _).drew ?_;repeat (first|refine qS ?_|refine qO ?_|refine qB 71 (hc:=fun w' hS'=>by exact iR _ _) (h:=?_)|refine qM 72 (hc:=fun w' hS'=>by exact oF _ _) (h:=?_)|refine qM 26 (hc:=fun w' hS'=>by exact cX _ _ _ _) (h:=?_))
  refine dW ?_;intro w2 hb2;replace hB:=hB.keep hb2;replace hG:=hG.keep hb2;replace hrx:=hrx.below hb2;replace hg0:=bI hg0 hb2;clear r0 r1 r2 r3 hb2;go_wp2_with fail
  go_ret
  exact ⟨_,c0+1,rfl,uX (by have:=H.out;omega),(fun h=>(by cases h)),by omega,by omega,hG,hg0⟩
end Go.Proofs.YtajjhldcjikkpaaGreat
