/- Parts of the proof. No condition. -/
import Derived.Test.YtddkehjdjfmhmaaGreatK26
open Go.Proofs.Tryz
namespace Go.Proofs.YtddkehjdjfmhmaaGreat
open Go.RowKit
set_option maxHeartbeats 16000000
set_option maxRecDepth 100000
set_option linter.unusedSimpArgs false
set_option linter.unusedVariables false
theorem mH {w:World}{B g n c j:Nat}{xs:List Value}(h:w.ownsRow B 25 3 (.slice (some ⟨g,0,none⟩) n c) n xs)(u:Value):(w.setCell ⟨g,j,none⟩ u).ownsRow B 25 3 (.slice (some ⟨g,0,none⟩) n c) n (xs.set j u):=by
 obtain ⟨h1,h2⟩:=h;refine ⟨by rw [List.length_set];exact h1,?_⟩;rcases h2 with ⟨e,_⟩|⟨g',cap,cur,e,hb,hg,hn,hm,hs,ht⟩
 ·cases e
 ·injection e with e1 e2 e3;injection e1 with e1;injection e1 with e1;subst e1 e3;refine .inr ⟨g,c,cur.setIfInBounds j u,rfl,hb,?_,hn,hm,by simpa using hs,?_⟩
  ·simp [World.setCell,Array.getElem?_modify,hg]
  ·rw [← ht,Array.toList_setIfInBounds,List.take_set]
theorem PartR.set3 {lo q:Nat→Prop}{B g n c:Nat}{w:World}{ts us:List Tm}{U:Option Addr}{cu i:Nat}{ku nu:Int}(h:PartR lo B w (.slice (some ⟨g,0,none⟩) n c) ts)(hi:i<ts.length)(hl:us.length≤9223372036854775807)(hu:RdP q w U 0 us)(hq:∀b,q b→(lo b∨B≤b)∧b<w.heap.size∧b≠g) :
  PartR lo B (((w.setCell ⟨g,i*3,none⟩ (.int .i64 ku)).setCell ⟨g,i*3+1,none⟩ (.int .i64 nu)).setCell ⟨g,i*3+2,none⟩ (.slice U us.length cu)) (.slice (some ⟨g,0,none⟩) n c) (ts.set i (.mk ku nu us)):=by
 obtain ⟨xs,h1,h2⟩:=h;have hn:n=ts.length:=by
  rcases h1.2 with ⟨e,_⟩|⟨_,_,_,e,_⟩
  ·cases e
  ·injection e
 subst hn;have h3:=RdX.set (ku:=ku) (nu:=nu) (cu:=cu) hl (hu.mono (q:=PB lo B w (.slice (some ⟨g,0,none⟩) ts.length c)) fun b hb=>⟨(hq b hb).1,(hq b hb).2.1,fun e=>(hq b hb).2.2 (by injection e with e;exact e.symm)⟩) h2 hi;refine ⟨_,?_,h3.keep (fun b hb=>⟨hb.1,by simpa using hb.2.1,hb.2.2⟩) fun b hb _=>?_⟩
 ·rw [List.length_set];exact mH (mH (mH h1 _) _) _
 ·have hbg:b≠g:=fun e=>hb.2.2 (by rw [e];rfl)
  rw [lR _ _ _ b (by simpa using hbg),lR _ _ _ b (by simpa using hbg),lR _ _ _ b (by simpa using hbg)]
theorem aEl {P:Program}{ops:Array Oper}{Q:Exit→Act→World→Prop}{S:World→Prop}{B:List Nat}{l:Array Bool}{a:Act}{w:World}{f:Nat}(hne:Region.ready .any ops l≠[])(hB:∀i∈Region.ready .any ops l,B.contains i=true)
  (h : ∀ i ∈ Region.ready .any ops l, ∀ o, ops[i]? = some o → wpList P ops (nU (fun _ => True) (gC P ops Q S B f (l.setIfInBounds i true)) Q) [o] a w) : gC P ops Q S B (f + 1) l a w := by
 unfold gC
 intro hcl;refine ⟨fun h0=>absurd h0 hne,fun i hi=>?_⟩;obtain ⟨_,o,ho,_⟩:=mem_ready.1 hi;refine jZ ho (fun a w hh=>⟨fun hn=>?_,?_⟩) (fun e a w he hh=>aAp he hh) (h i hi o ho)
 ·have hn':(!B.contains i)=true:=hn;rw [hB i hi] at hn';cases hn'
 ·have h2:=(yM hh).2;unfold gC at h2
  exact h2 (hcl.step hi)
theorem aMx {P:Program}{ops:Array Oper}{Q:Exit→Act→World→Prop}{S:World→Prop}{B:List Nat}{i:Nat}{l:Array Bool}{a:Act}{w:World}{f:Nat}{o:Oper}(hr:Region.ready .any ops l=[i])(hB:B.contains i=true)(ho:ops[i]?=some o)
  (h : wpList P ops (nU (fun _ => True) (gC P ops Q S B f (l.setIfInBounds i true)) Q) [o] a w) : gC P ops Q S B (f + 1) l a w := by
 refine aEl (by rw [hr];simp) (fun i' hi=>?_) fun i' hi o' ho'=>?_
 ·rw [hr] at hi;obtain rfl:i'=i:=by simpa using hi
  exact hB
 ·rw [hr] at hi;obtain rfl:i'=i:=by simpa using hi
  rw [ho] at ho';injection ho' with ho';subst ho';exact h
theorem aEn {P:Program}{ops:Array Oper}{Q:Exit→Act→World→Prop}{S:World→Prop}{B:List Nat}{i j:Nat}{l:Array Bool}{a:Act}{w:World}{f:Nat}{o o2:Oper}(hr:Region.ready .any ops l=[i,j])(hB:B.contains i=true)(hB2:B.contains j=true)(ho:ops[i]?=some o)(ho2:ops[j]?=some o2)
  (h : wpList P ops (nU (fun _ => True) (gC P ops Q S B f (l.setIfInBounds i true)) Q) [o] a w) (h2 : wpList P ops (nU (fun _ => True) (gC P ops Q S B f (l.setIfInBounds j true)) Q) [o2] a w) : gC P ops Q S B (f + 1) l a w := by
 refine aEl (by rw [hr];simp) (fun i' hi=>?_) fun i' hi o' ho'=>?_
 ·rw [hr] at hi;simp only [List.mem_cons,List.not_mem_nil,or_false] at hi
  rcases hi with rfl|rfl
  ·exact hB
  ·exact hB2
 ·rw [hr] at hi;simp only [List.mem_cons,List.not_mem_nil,or_false] at hi
  rcases hi with rfl|rfl
  ·rw [ho] at ho';injection ho' with ho';subst ho';exact h
  ·rw [ho2] at ho';injection ho' with ho';subst ho';exact h2
theorem aMf {w w9:World}{n0 g j vc9 wk cq:Nat}{kq nq:Int}{sq:List Tm}{Aq E:Option Addr}{us cx:List Tm}{V:Value}{r1 r2:Array Value}(hn0:n0=w.heap.size)(hP9:PartR (fun b=>b<n0) (n0+2) w9 (.slice (some ⟨g,0,none⟩) (j+1) vc9) (us++[.mk 0 0 []]))(hjl:us.length=j)(hlq:sq.length≤9223372036854775807)(hBg:n0+2≤g)(hgk:g≠wk)(hwk:n0+2≤wk)(hX9:Blk w9 n0 r1)(hK9:Blk w9 wk r2)(hO9:Blk w9 (n0+1) #[V])(g9:Below n0 w w9)(rq9:RdP (fun b=>b<n0) w9 Aq 0 sq)(hE9:RdP (fun b=>b<n0∨(wk≤b∧b≠g)) w9 E 0 cx):PartR (fun b=>b<n0) (n0+2) ((((w9.setCell ⟨g,j*3,none⟩ (.int .i64 kq)).setCell ⟨g,j*3+1,none⟩ (.int .i64 nq)).setCell ⟨g,j*3+2,none⟩ (.slice Aq sq.length cq)).setCell ⟨n0+1,0,none⟩ (.slice (some ⟨g,0,none⟩) (j+1) vc9)) (.slice (some ⟨g,0,none⟩) (j+1) vc9) (us++[.mk kq nq sq])∧Blk ((((w9.setCell ⟨g,j*3,none⟩ (.int .i64 kq)).setCell ⟨g,j*3+1,none⟩ (.int .i64 nq)).setCell ⟨g,j*3+2,none⟩ (.slice Aq sq.length cq)).setCell ⟨n0+1,0,none⟩ (.slice (some ⟨g,0,none⟩) (j+1) vc9)) n0 r1∧Blk ((((w9.setCell ⟨g,j*3,none⟩ (.int .i64 kq)).setCell ⟨g,j*3+1,none⟩ (.int .i64 nq)).setCell ⟨g,j*3+2,none⟩ (.slice Aq sq.length cq)).setCell ⟨n0+1,0,none⟩ (.slice (some ⟨g,0,none⟩) (j+1) vc9)) wk r2∧Blk ((((w9.setCell ⟨g,j*3,none⟩ (.int .i64 kq)).setCell ⟨g,j*3+1,none⟩ (.int .i64 nq)).setCell ⟨g,j*3+2,none⟩ (.slice Aq sq.length cq)).setCell ⟨n0+1,0,none⟩ (.slice (some ⟨g,0,none⟩) (j+1) vc9)) (n0+1) #[.slice (some ⟨g,0,none⟩) (j+1) vc9]∧Below n0 w ((((w9.setCell ⟨g,j*3,none⟩ (.int .i64 kq)).setCell ⟨g,j*3+1,none⟩ (.int .i64 nq)).setCell ⟨g,j*3+2,none⟩ (.slice Aq sq.length cq)).setCell ⟨n0+1,0,none⟩ (.slice (some ⟨g,0,none⟩) (j+1) vc9))∧Rd ((((w9.setCell ⟨g,j*3,none⟩ (.int .i64 kq)).setCell ⟨g,j*3+1,none⟩ (.int .i64 nq)).setCell ⟨g,j*3+2,none⟩ (.slice Aq sq.length cq)).setCell ⟨n0+1,0,none⟩ (.slice (some ⟨g,0,none⟩) (j+1) vc9)) E 0 cx:=by
 have hsz:=g9.size;have hSt:(us++[Tm.mk 0 0 []]).set j (.mk kq nq sq)=us++[.mk kq nq sq]:=by rw [List.set_append_right _ _ (by omega),hjl,Nat.sub_self];rfl
 have h3:=PartR.set3 (ku:=kq) (nu:=nq) (cu:=cq) (i:=j) hP9 (by simp [hjl]) hlq rq9 (fun b hb=>⟨.inl hb,by omega,by omega⟩);rw [hSt] at h3;exact ⟨h3.setCell ⟨(by dsimp only;omega),(by dsimp only;omega)⟩ _,(((hX9.far (by dsimp only;omega) _).far (by dsimp only;omega) _).far (by dsimp only;omega) _).far (by dsimp only;omega) _,(((hK9.far (by dsimp only;omega) _).far (by dsimp only;omega) _).far (by dsimp only;omega) _).far (by dsimp only;omega) _,(((hO9.far (by dsimp only;omega) _).far (by dsimp only;omega) _).far (by dsimp only;omega) _).set_ 0 _,(bV g9).setCell (by dsimp only;omega) _,((((hE9.setCell (by dsimp only;omega) _).setCell (by dsimp only;omega) _).setCell (by dsimp only;omega) _).setCell (by dsimp only;omega) _).rd⟩
theorem aAz {w w9:World}{n0 g j vc9 wk cq:Nat}{kq nq:Int}{sq:List Tm}{Aq E:Option Addr}{us cx:List Tm}{V:Value}{r1 r2:Array Value}(hn0:n0=w.heap.size)(hP9:PartR (fun b=>b<n0) (n0+2) w9 (.slice (some ⟨g,0,none⟩) (j+1) vc9) (us++[.mk 0 0 []]))(hjl:us.length=j)(hlq:sq.length≤9223372036854775807)(hBg:n0+2≤g)(hgk:g≠wk)(hwk:n0+2≤wk)(hX9:Blk w9 n0 r1)(hK9:Blk w9 wk r2)(hO9:Blk w9 (n0+1) #[V])(g9:Below n0 w w9)(rq9:RdP (fun b=>b<n0) w9 Aq 0 sq)(hE9:RdP (fun b=>b<n0∨(wk≤b∧b≠g)) w9 E 0 cx):PartR (fun b=>b<n0) (n0+2) ((((w9.setCell ⟨n0+1,0,none⟩ (.slice (some ⟨g,0,none⟩) (j+1) vc9)).setCell ⟨g,j*3,none⟩ (.int .i64 kq)).setCell ⟨g,j*3+1,none⟩ (.int .i64 nq)).setCell ⟨g,j*3+2,none⟩ (.slice Aq sq.length cq)) (.slice (some ⟨g,0,none⟩) (j+1) vc9) (us++[.mk kq nq sq])∧Blk ((((w9.setCell ⟨n0+1,0,none⟩ (.slice (some ⟨g,0,none⟩) (j+1) vc9)).setCell ⟨g,j*3,none⟩ (.int .i64 kq)).setCell ⟨g,j*3+1,none⟩ (.int .i64 nq)).setCell ⟨g,j*3+2,none⟩ (.slice Aq sq.length cq)) n0 r1∧Blk ((((w9.setCell ⟨n0+1,0,none⟩ (.slice (some ⟨g,0,none⟩) (j+1) vc9)).setCell ⟨g,j*3,none⟩ (.int .i64 kq)).setCell ⟨g,j*3+1,none⟩ (.int .i64 nq)).setCell ⟨g,j*3+2,none⟩ (.slice Aq sq.length cq)) wk r2∧Blk ((((w9.setCell ⟨n0+1,0,none⟩ (.slice (some ⟨g,0,none⟩) (j+1) vc9)).setCell ⟨g,j*3,none⟩ (.int .i64 kq)).setCell ⟨g,j*3+1,none⟩ (.int .i64 nq)).setCell ⟨g,j*3+2,none⟩ (.slice Aq sq.length cq)) (n0+1) #[.slice (some ⟨g,0,none⟩) (j+1) vc9]∧Below n0 w ((((w9.setCell ⟨n0+1,0,none⟩ (.slice (some ⟨g,0,none⟩) (j+1) vc9)).setCell ⟨g,j*3,none⟩ (.int .i64 kq)).setCell ⟨g,j*3+1,none⟩ (.int .i64 nq)).setCell ⟨g,j*3+2,none⟩ (.slice Aq sq.length cq))∧Rd ((((w9.setCell ⟨n0+1,0,none⟩ (.slice (some ⟨g,0,none⟩) (j+1) vc9)).setCell ⟨g,j*3,none⟩ (.int .i64 kq)).setCell ⟨g,j*3+1,none⟩ (.int .i64 nq)).setCell ⟨g,j*3+2,none⟩ (.slice Aq sq.length cq)) E 0 cx:=by
 have hsz:=g9.size;have hSt:(us++[Tm.mk 0 0 []]).set j (.mk kq nq sq)=us++[.mk kq nq sq]:=by rw [List.set_append_right _ _ (by omega),hjl,Nat.sub_self];rfl
 have h3:=PartR.set3 (ku:=kq) (nu:=nq) (cu:=cq) (i:=j) (hP9.setCell (a:=⟨n0+1,0,none⟩) ⟨(by dsimp only;omega),(by dsimp only;omega)⟩ (.slice (some ⟨g,0,none⟩) (j+1) vc9)) (by simp [hjl]) hlq (rq9.setCell (a:=⟨n0+1,0,none⟩) (by dsimp only;omega) _) (fun b hb=>⟨.inl hb,by simp;omega,by omega⟩);rw [hSt] at h3;exact ⟨h3,(((hX9.far (by dsimp only;omega) _).far (by dsimp only;omega) _).far (by dsimp only;omega) _).far (by dsimp only;omega) _,(((hK9.far (by dsimp only;omega) _).far (by dsimp only;omega) _).far (by dsimp only;omega) _).far (by dsimp only;omega) _,(((hO9.set_ 0 _).far (by dsimp only;omega) _).far (by dsimp only;omega) _).far (by dsimp only;omega) _,(bV g9).setCell (by dsimp only;omega) _,((((hE9.setCell (by dsimp only;omega) _).setCell (by dsimp only;omega) _).setCell (by dsimp only;omega) _).setCell (by dsimp only;omega) _).rd⟩
theorem aMe {w:World}{b off:Nat}{us vs ps:List Tm}(h:Rd w (some ⟨b,off,none⟩) 0 (us++(vs++ps))):Rd w (some ⟨b,off+us.length*3,none⟩) 0 vs:=by
 refine aBq fun j hj=>⟨b,off+us.length*3,rfl,?_⟩
 obtain ⟨b1,off1,hA,hc⟩:=h.get (j:=us.length+j) (by simp;omega);injection hA with hA;injection hA with e1 e2;subst e1 e2;rw [List.getElem_append_right (by omega)] at hc;simp only [Nat.add_sub_cancel_left] at hc
 rw [List.getElem_append_left hj] at hc;cases hh:vs[j] with
 | mk k n ks=>
  rw [hh] at hc;rw [RdC.iff] at hc⊢;rw [show off+us.length*3+(0+j)*3=off+(0+(us.length+j))*3 by omega];exact hc
theorem aKf {b off len cp lo n:Nat}(h0:0<n)(hle:lo+n≤cp)(w:World):(Instr.sliceAt 23 (.slice (some ⟨b,off,none⟩) len cp) (some (.int .i64 (lo:Int))) (some (.int .i64 ((lo+n:Nat):Int))) none).run prog w = .ok (.slice (some ⟨b,off+lo*3,none⟩) n (cp - lo)) w:=by
 have hu:prog.underlying 23=some (.slice (prog.elem 23)):=by kernel_rfl
 have he:prog.elem 23=25:=by kernel_rfl
 have hs:∀w,(sizeOf 25).run prog w = .ok 3 w:=fun w=>by kernel_rfl
 rw [run_sliceAt_slice (t:=23) (h:=hu),run_slice_lh (t:=23) (ht:=hu) (h0:=by omega) (h1:=by omega) (h2:=by omega),he,hs];simp only [Result.andThen,sliced,Int.toNat_natCast]
 rw [if_neg (by omega),show lo+n - lo=n by omega];simp [Addr.add]
def uK (ks ns:List Tm):List Tm:=(List.range ks.length).map fun i=>ns.getD (1+aG (ks.take i)) default
theorem rV (ks ns:List Tm):(uK ks ns).length=ks.length:=by simp [uK]
theorem aAg {ks ns:List Tm}{j:Nat}(hj:j<ks.length):(uK ks ns)[j]'(by rw [rV];exact hj)=ns.getD (1+aG (ks.take j)) default:=by simp [uK]
theorem aDi {ks ns:List Tm}{j:Nat}(hj:j<ks.length):(uK ks ns).take (j+1)=(uK ks ns).take j++[ns.getD (1+aG (ks.take j)) default]:=by
 rw [oR (by rw [rV];exact hj),aAg hj]
theorem aIr {s:Tm}(h:aE s=true):vZ s s=true:=by
 simp [vZ,h,lU,kC]
theorem aAe (os:List Tm)(O:Option Addr)(co bo i:Nat)(kr nr:Int)(sr:List Tm)(w:World)(hi:i<os.length)(hl:os.length≤1000)(he:os[i] = .mk kr nr sr)(hB:Blk w bo #[.slice O os.length co])(hO:Rd w O 0 os) :
  Calls prog 66 #[.int .i64 i,.pointer (some ⟨bo,0,none⟩)] w (eO w kr nr sr):=by
 obtain ⟨b,off,k1,n1,s1,A1,c1,rfl,hk1,i1,i2,i3,hl1,r1⟩:=hO.at_ hi;rw [he] at hk1;injection hk1 with e1 e2 e3;subst e1 e2 e3;have z0:=hB.at_ (i:=0) rfl;have lb:=hB.lt;have lr:=jN _ _ i1;have hil:(i:Int)<(os.length:Int):=by omega
 clear he;go_enter func66,ntmps66;go_wp2_with fail
 refine bodyPost_ret (v:=.tuple #[.agg (Ro kr nr A1 sr.length c1),.int .i64 0]) (by simp [results,results66,go_sem]) rfl ⟨A1,c1,rfl,hl1,r1.alloc _,bw1⟩
theorem aGn (p:Nat→Prop)(ctx:List Tm)(C:Option Addr)(cc:Nat)(k n:Int)(ks:List Tm)(A:Option Addr)(c:Nat)(i:Nat)(w:World)(hi:i<ks.length)(hv:aE (.mk k n ks)=true)(hm:(ctx++pF (.mk k n ks) (i:Int)).length≤20)(hrc:RdP p w C 0 ctx)(hra:RdP p w A 0 ks)(hp:∀b,p b→b<w.heap.size) :
  Calls prog 65 #[.slice C ctx.length cc,.agg (Ro k n A ks.length c),.int .i64 i] w fun e w'=>∃E ce,e = .returned (.tuple #[.slice E (ctx++pF (.mk k n ks) (i:Int)).length ce,.int .i64 0])∧RdP (fun b=>p b∨w.heap.size≤b) w' E 0 (ctx++pF (.mk k n ks) (i:Int))∧Bw w w':=by
 by_cases hu:aO k i=1
 ·rw [rK hu] at hm⊢;obtain ⟨a,ts,rfl⟩:∃a ts,ks=a::ts:=by cases ks with|nil=>simp at hi|cons a ts=>exact ⟨a,ts,rfl⟩
  obtain ⟨ka,na,sa⟩:=a;have hlt:ts.length≤1000:=by have:=aI hv;have:=aJ (Tm.mk ka na sa::ts);simp at this;omega
  exact wZ p ctx C cc k n ka na sa ts A c i w hu (by simp at hm;omega) hlt hrc hra hp
 ·have hu0:aO k i=0:=by have:=eA k (i:Int);omega
  rw [vN hu0,List.append_nil];refine (aEf C ctx.length cc k n A ks.length c i w hu0).mono ?_;rintro e w' ⟨rfl,hb⟩;exact ⟨C,cc,rfl,(hrc.below hb).mono fun b h=>.inl h,hb⟩
structure KidOk (N:Nat) (G D:List Tm) (k n:Int) (ks r:List Tm) (i:Nat) (kid:Tm) (a:List Tm) (pre:List Tm) (post:List Tm) (nt:Tm):Prop where
 note:eN N (G++(D++pF (.mk k n ks) (i:Int))) kid=some (.ok a)
 split:r=pre++(a++post)
 pl:pre.length=aG (ks.take i)
 al:a.length=kid.size
 tele:Tele (D++pF (.mk k n ks) (i:Int))
 cls:dA ((D++pF (.mk k n ks) (i:Int)).length:Int) kid=true
 len:(D++pF (.mk k n ks) (i:Int)).length≤20
 ty:tT (eG (2*N)) D (.mk k n ks) i=some nt
 vt:aE nt=true
theorem aQc {N:Nat}{G D:List Tm}{k n:Int}{ks r:List Tm}{s:Tm}(hT:Tele D)(hc:dA (D.length:Int) (.mk k n ks)=true)(hv:aE (.mk k n ks)=true)(h1:bZ N (G++D) (.mk k n ks)=some (.ok s))(h2:fX N (G++D) k (aL ks 0) 0 ks=some (.ok r))(i:Nat)(hi:i<ks.length):∃a pre post,KidOk N G D k n ks r i ks[i] a pre post ((s::r).getD (1+aG (ks.take i)) default):=by
 obtain ⟨a,pre,post,g1,g2,g3⟩:=uV h2 i hi;rw [Nat.zero_add,aJo _ k n,List.append_assoc] at g1;obtain ⟨q1,q2,q3⟩:=aEs hT hc hv h1 i hi;have hkm:aL ks i=ks[i]:=by simp [aL,List.getD,iG hi]
 rw [hkm] at q2;have hal:=((fK N).1 _ _ _ g1).1;obtain ⟨k1,n1,s1,hk1⟩:∃k1 n1 s1,ks[i] = .mk k1 n1 s1:=by cases h:ks[i] with|mk a b c=>exact ⟨a,b,c,rfl⟩
 have g1':=g1;rw [hk1] at g1';obtain ⟨s2,r2,f1,f2,f3⟩:=oM g1';have hnt:(s::r).getD (1+aG (ks.take i)) default=s2:=by
  rw [g2,f3,List.getD_eq_getElem?_getD,Nat.add_comm 1,List.getElem?_cons_succ,← g3,List.getElem?_append_right (iD _),Nat.sub_self];rfl
 have q4:dA ((D++pF (.mk k n ks) (i:Int)).length:Int) (.mk k1 n1 s1)=true:=by rw [← hk1];exact q2
 have h4:=(rG N G (D++pF (.mk k n ks) (i:Int)) _ _ q1 q4 f1).1;have h20:(D++pF (.mk k n ks) (i:Int)).length≤20:=by
  cases N with
  | zero=>cases f1
  | succ N=>have:=(rL f1).2.1;rw [List.length_append] at this;omega
 refine ⟨a,pre,post,g1,g2,g3,hal,q1,q2,h20,?_,?_⟩
 ·rw [hnt];unfold tT
  by_cases hu:aO k (i:Int)=1
  ·have hi1:i=1:=by
    unfold aO at hu
    split at hu
    ·rename_i hh;omega
    ·cases hu
   rw [rK hu] at h4 h20;rw [if_neg (show ¬aO (Tm.mk k n ks).k (i:Int)=0 by show ¬aO k (i:Int)=0;omega),if_neg (by simp at h20;omega)];show eG (2*N) (D++[aL ks 0]) (aL ks i)=_
   rw [hkm,hk1];exact h4
  ·have hu0:aO k (i:Int)=0:=by have:=eA k (i:Int);omega
   rw [vN hu0,List.append_nil] at h4;rw [if_pos (show aO (Tm.mk k n ks).k (i:Int)=0 from hu0)];show eG (2*N) D (aL ks i)=_
   rw [hkm,hk1];exact h4
 ·rw [hnt];exact cO f1
theorem aCx (N:Nat)(G:List Tm):∀(M:Nat) (D:List Tm) (k n:Int) (ks ns:List Tm) (C:Option Addr) (cc:Nat) (A:Option Addr) (c:Nat) (B:Option Addr) (cb:Nat) (w:World),aG ks<M→eN N (G++D) (.mk k n ks)=some (.ok ns)→Tele D→dA (D.length:Int) (.mk k n ks)=true→aE (.mk k n ks)=true→ns.length≤cb→Rd w C 0 D→Rd w A 0 ks→Rd w B 0 ns→
  Calls prog 37 #[.slice C D.length cc,.agg (Ro k n A ks.length c),.slice B ns.length cb] w fun e w'=>e = .returned (.int .i64 0)∧Bw w w':=by
 intro M;induction M with
 | zero=>intro D k n ks ns C cc A c B cb w hM;exact absurd hM (Nat.not_lt_zero _)
 | succ M ih=>
 intro D k n ks ns C cc A c B cb w hM hnote hT hc hv hcb hrc hra hrn;obtain ⟨s,r,h1,h2,rfl⟩:=oM hnote;have hs:=(rG N G D _ _ hT hc h1).1;have hm20:D.length≤20:=by
  cases N with
  | zero=>cases h1
  | succ N=>have:=(rL h1).2.1;rw [List.length_append] at this;omega
 have hvD:∀u,u∈D→aE u=true:=fun u hu=>by
  obtain ⟨i,hi,rfl⟩:=List.getElem_of_mem hu;exact (hT i hi).2
 have hvs:=cO h1;have hnl:(s::r).length=aG ks+1:=by have:=((fK N).1 _ _ _ hnote).1;simp only [Tm.size] at this;omega
 have hzk:=aI hv;have hlk:=aJ ks;obtain ⟨ks0,ns0,ss⟩:=s;have hjud:jH (eG (2*N) D) D (.mk k n ks) (tT (eG (2*N)) D (.mk k n ks))=some (.mk ks0 ns0 ss):=oH _ _ _ _ hs;have hkid:=aD (fun (i:Nat) (hi:i<ks.length)=>aQc hT hc hv h1 h2 i hi);obtain ⟨os,hos⟩:∃os,os=uK ks (.mk ks0 ns0 ss::r):=⟨_,rfl⟩;have hol:os.length=ks.length:=by rw [hos,rV]
 have htk0:=aD (fun (j:Nat) (hj:j<ks.length)=>show os.take (j+1)=os.take j++[(Tm.mk ks0 ns0 ss::r).getD (1+aG (ks.take j)) default] by rw [hos];exact aDi hj);have hoat:=aD (fun (j:Nat) (hj:j<ks.length)=>show os[j]'(by omega)=(Tm.mk ks0 ns0 ss::r).getD (1+aG (ks.take j)) default by subst hos;exact aAg hj);have hJ:=aD (fun (wx:World) (O:Option Addr) (co:Nat) (hb:Bw w wx) (hO:Blk wx (w.heap.size+1) #[.slice O os.length co]) (hr:Rd wx O 0 os)=>
  sN (mK (2*N)) D C cc k n ks A c 66 #[.pointer (some ⟨w.heap.size+1,0,none⟩)] ks0 ns0 ss _ wx hjud hv hvD hm20 (show TyOk 66 #[.pointer (some ⟨w.heap.size+1,0,none⟩)] wx (tT (eG (2*N)) D (.mk k n ks)) from
   ⟨.inr ⟨w.heap.size+1,rfl,rfl⟩,fun i kr nr sr hi4 hty w' hw' args ha=>by
    subst ha;have hik:=aDs hty;obtain ⟨a,pre,post,hK⟩:=hkid.out i hik;have hnt:=hK.ty.symm.trans hty;have hoi:=hoat.out i hik;rw [Option.some.inj hnt] at hoi;exact aAe os O co (w.heap.size+1) i kr nr sr w' (by omega) (by omega) hoi (hO.keep hw') (hr.below hw')⟩) (yF hv) (hrc.below hb) (hra.below hb))
 have hcv:=aD (aIr hvs);have hIH:=aD (fun (i:Nat) (hi:i<ks.length) (k1 n1:Int) (ks1 a pre post:List Tm) (nt:Tm) (hK:KidOk N G D k n ks r i (.mk k1 n1 ks1) a pre post nt) (hvk:aE (.mk k1 n1 ks1)=true)=>ih (D++pF (.mk k n ks) (i:Int)) k1 n1 ks1 a);have hvh:=aD hv;have hsz:=aD (fun (j:Nat) (hj:j<ks.length)=>gN ks j hj);obtain ⟨bB,oB,As,cs,rfl,s1,s2,s3,hlB,rs⟩:=oF hrn;simp only [Nat.zero_mul,Nat.add_zero] at s1 s2 s3
 rw [hnl] at hcb⊢;clear hs hjud h1 h2 hnote hos hT hc hv hvD hvs ih;go_enter func37,ntmps37;go_wp2_with fail
 go_loopw [8,20] (fun nx iv wr=>∃(j x:Nat) (VA:Option Addr) (vc:Nat),j≤ks.length∧x=1+aG (ks.take j)∧iv = .int .i64 j∧nx = .int .i64 x∧Blk wr w.heap.size (Ro k n A ks.length c)∧Blk wr (w.heap.size+1) #[.slice VA j vc]∧PartR (fun b=>b<w.heap.size) (w.heap.size+2) wr (.slice VA j vc) (os.take j)∧Bw w wr)
  (fun _ iv _ => ks.length - (intOf iv).toNat)
 case atStart=>exact ⟨0,1,none,0,Nat.zero_le _,by simp [aG],rfl,rfl,(aC w 25 _ rfl).alloc _,aC _ 23 _ (by simp),PartR.nil,bw2⟩
 case round=>
  obtain ⟨j,x,VA,vc,hj,hx,rfl,rfl,hX,hO,hP,hb⟩:=hrel;by_cases hlt:j<ks.length
  ·obtain ⟨b,off,k1,n1,ks1,A1,c1,rfl,hkj,hc1,hc2,hc3,hl1,hr1⟩:=hra.at_ hlt;obtain ⟨a,pre,post,hK⟩:=hkid.out j hlt;rw [hkj] at hK;have hvk:=aX hvh.out (fG hlt);rw [hkj] at hvk;have hzk1:=aI hvk;have htk:=htk0.out j hlt;rw [← hx] at htk hK;have hszj:=hsz.out j hlt;rw [hkj,Tm.size] at hszj;have hle:=dB ks (j+1);have hxl:x<(Tm.mk ks0 ns0 ss::r).length:=by rw [hnl];omega
   have hxr:x+(aG ks1+1)≤aG ks+1:=by omega
   have hx1:x+aG ks1+1=1+aG (ks.take (j+1)):=by omega
   have hal:a.length=aG ks1+1:=by have:=hK.al;simp only [Tm.size] at this;omega
   have hmid:Rd w (some ⟨bB,oB+x*3,none⟩) 0 a:=by
    have h:=hrn;rw [show (Tm.mk ks0 ns0 ss::r)=(Tm.mk ks0 ns0 ss::pre)++(a++post) by rw [hK.split];rfl] at h;have h3:=aMe (us:=Tm.mk ks0 ns0 ss::pre) (vs:=a) (ps:=post) h;rw [show (Tm.mk ks0 ns0 ss::pre).length=x by rw [List.length_cons,hK.pl,hx];omega] at h3;exact h3
   obtain ⟨bN,oN,kq,nq,sq,Aq,cq,hAq,hkq,m1,m2,m3,hlq,rq⟩:=hrn.at_ hxl;injection hAq with hAq;injection hAq with e1 e2;subst e1 e2;rw [show (Tm.mk ks0 ns0 ss::r).getD x default = .mk kq nq sq by rw [List.getD_eq_getElem?_getD,iG hxl,Option.getD_some,hkq]] at htk;replace htk:=aD htk;obtain ⟨cx,hcx⟩:∃cx,cx=D++pF (.mk k n ks) (j:Int):=⟨_,rfl⟩;have hop:=aD (fun (w':World) (hrc:RdP (fun b=>b<w.heap.size) w' C 0 D) (hra:RdP (fun b=>b<w.heap.size) w' (some ⟨b,off,none⟩) 0 ks) (hsz:w.heap.size≤w'.heap.size)=>aGn (fun b=>b<w.heap.size) D C cc k n ks (some ⟨b,off,none⟩) c j w' hlt hvh.out hK.len hrc hra (fun b hb=>by omega));have hih:=aD (fun (E:Option Addr) (ce:Nat) (B':Option Addr) (w':World) (hE:Rd w' E 0 cx) (hk:Rd w' A1 0 ks1) (hn:Rd w' B' 0 a)=>hIH.out j hlt k1 n1 ks1 a pre post _ hK hvk E ce A1 c1 B' (cb - x) w' (by omega) hK.note hK.tele hK.cls hvk (by omega) (by rw [← hcx];exact hE) hk hn);rw [← hcx] at hop hih;rw [hal] at hih;have hjl:(os.take j).length=j:=by rw [List.length_take];omega
   have hVw:=fun (b:Nat) (e:(Value.slice VA j vc).ownBlock=some b)=>(hP.own_ge b e).2
   have rcw:RdP (fun b=>b<w.heap.size) wr C 0 D:=hrc.rdp.below hb;have raw:RdP (fun b=>b<w.heap.size) wr (some ⟨b,off,none⟩) 0 ks:=hra.rdp.below hb;obtain ⟨y1,y2,y3⟩:=kb3 hb hc1 hc2 hc3;have u0:=hX.three.1;have u1:=hX.three.2.1;have u2:=hX.three.2.2;have lX:=hX.lt;have lO:=hO.lt;have hji:(j:Int)<(ks.length:Int):=by omega
   have hxi:(x:Int)<((aG ks+1:Nat):Int):=by omega
   have hxi2:(x:Int)<(aG ks:Int)+1:=by omega
   have hmid':=hmid;replace hx1:=aD hx1;clear hkj hmid hx hal hcx;go_upto_region 9 with (go_at_call 65;refine (hop.out _ (rcw.alloc _) (raw.alloc _) (by simp;omega)).mono ?_;rintro e w2 ⟨E,ce,rfl,rE,hb2⟩;have hX2:=(hX.alloc (.cells (Ro k1 n1 A1 ks1.length c1) 25)).keep hb2;have hO2:=(hO.alloc (.cells (Ro k1 n1 A1 ks1.length c1) 25)).keep hb2;have hP2:=(hP.alloc (.cells (Ro k1 n1 A1 ks1.length c1) 25)).below hb2;have hK2:=nJ hb2;have g2:=(hb.alloc hb.size (.cells (Ro k1 n1 A1 ks1.length c1) 25)).trans (hb2.mono (by have:=hb.size;simp;omega)))
   refine aT ?_;intro wx hwx;have hXx:=(show Blk wx w.heap.size _ by rw [hwx];exact hX2);have hOx:=(show Blk wx (w.heap.size+1) _ by rw [hwx];exact hO2);have hPx:=(show PartR (fun b=>b<w.heap.size) (w.heap.size+2) wx (.slice VA j vc) (os.take j) by rw [hwx];exact hP2);have gx:Bw w wx:=by rw [hwx];exact g2
   have sbw:=hb.size;obtain ⟨wk,hwk⟩:∃wk,wk=wr.heap.size:=⟨_,rfl⟩;rw [← hwk] at hVw;have hKx:Blk wx wk (Ro k1 n1 A1 ks1.length c1):=by rw [hwx,hwk];exact hK2
   have rEx:RdP (fun b=>b<w.heap.size∨wk≤b) wx E 0 cx:=by rw [hwx];exact rE.mono (fun b hb=>hb.imp id fun h=>by simp at h;omega)
   have hwk2:w.heap.size+2≤wk:=by omega
   have hwkx:∀(t:Value),True:=fun _=>trivial
   rw [← hwk];clear hwx hX2 hO2 hP2 hK2 g2 hb2 rE hX hO hP hb u0 u1 u2 y1 y2 y3 rcw raw lX lO hwk hwkx sbw;go_cut [42] (fun v42 wz=>∃(g vc9:Nat),PartR (fun b=>b<w.heap.size) (w.heap.size+2) wz (.slice (some ⟨g,0,none⟩) (j+1) vc9) (os.take (j+1))∧Blk wz w.heap.size (Ro k n (some ⟨b,off,none⟩) ks.length c)∧Blk wz wk (Ro k1 n1 A1 ks1.length c1)∧Blk wz (w.heap.size+1) #[.slice (some ⟨g,0,none⟩) (j+1) vc9]∧Bw w wz∧Rd wz E 0 cx)
   case first=>
    have o0:=aF (hOx.at_ (i:=0) rfl);have z1:=aF ((bR gx) _ _ m1);have z2:=aF ((bR gx) _ _ m2);have z3:=aF ((bR gx) _ _ m3);obtain ⟨q0,hq0⟩:∃q0,q0=wx.drew:=⟨_,rfl⟩;have bq0:Bw wx q0:=by rw [hq0];exact (dV _ _).drew
    refine gA (fun w'=>Bw wx w') [7,8,9,10] 11 (by kernel_rfl) rfl ?_;refine iH [0,1,2,3,4,5] (f:=5) (l':=#[true,true,true,true,true,true,false,false,false,false,false]) (lT:=[_,_,_,_,_,_]) (by rw [← hq0];exact bq0) rfl (by kernel_rfl) (by kernel_rfl) (by kernel_rfl) rfl (fun _ _ d _ _ h=>by cases d<;>exact h) ?_;refine cL (aD ?_);rw [← hq0];clear hq0 o0 z1 z2 z3;refine bG 6 ?_;go_wp2_with fail
    refine eQ ?_;intro q1 hbq1 zq1 seq1;refine bJ bq0 hbq1 ?_;intro bq1 lq1;have hP1:=hPx.below bq1;have sx:=gx.size;have sq1:=bq1.size;have sq0:=bq0.size;have lxk:=hKx.lt;have hVk:=hPx.own_ge;refine aMx (i:=7) (by kernel_rfl) rfl rfl ?_;refine cC (k:=0) (n:=0) (A:=none) (c:=0) (ks:=[]) (lo:=fun b=>b<w.heap.size) (B:=w.heap.size+2) (q:=fun _=>False) hP1 (by omega) RdP.nil (fun b hb=>hb.elim) (by simp) hjl (by omega) q0.heap.size 1 zq1 rfl (.tmp 35) (.tmp 41) rfl rfl rfl ?_;intro VA9 vc9 w9 hP9 hb9 hg9 hn9;obtain ⟨g,rfl,-,hBg,hgl,hR9⟩:=hP9.rowS (by simp);have hlen9:(os.take j++[Tm.mk 0 0 []]).length=j+1:=by simp [hjl]
    obtain ⟨v0,cv0⟩:=hR9.1.cell (j:=j*3) (by rw [hlen9];omega);obtain ⟨v1,cv1⟩:=hR9.1.cell (j:=j*3+1) (by rw [hlen9];omega);obtain ⟨v2,cv2⟩:=hR9.1.cell (j:=j*3+2) (by rw [hlen9];omega);have fv0:=hR9.1.frozen (j*3);have fv1:=hR9.1.frozen (j*3+1);have fv2:=hR9.1.frozen (j*3+2);have hO9:Blk w9 (w.heap.size+1) #[.slice VA j vc]:=(hOx.keep bq1).below hb9 (by omega);have hX9:Blk w9 w.heap.size (Ro k n (some ⟨b,off,none⟩) ks.length c):=(hXx.keep bq1).below hb9 (by omega);have hgk:g≠wk:=fun e=>hn9 wk (by omega) (fun e2=>by have:=hVw wk e2;omega) (by rw [e];rfl)
    have hK9:Blk w9 wk (Ro k1 n1 A1 ks1.length c1):=(hKx.keep bq1).grown hg9 (fun e=>by have:=hVw wk e.symm;omega);have g9:Bw w w9:=(gx.trans (bq1.mono gx.size)).trans (hb9.mono (by omega));have o9:=hO9.at_ (i:=0) rfl;have fo9:=hO9.frozen 0;have hgo:g≠w.heap.size+1:=by omega
    have rq9:RdP (fun b=>b<w.heap.size) w9 Aq 0 sq:=rq.rdp.below g9;have hjj:(j:Int)<((j+1:Nat):Int):=by omega
    have hjj2:(j:Int)<(j:Int)+1:=by omega
    have hE9:RdP (fun b=>b<w.heap.size∨(wk≤b∧b≠g)) w9 E 0 cx:=by
     have h1:RdP (fun b=>(b<w.heap.size∨wk≤b)∧b<q1.heap.size) q1 E 0 cx:=by
      have h2:=(rEx.below bq1).lt_;exact h2
     refine (h1.grown hg9 (fun b hb e=>?_)).mono fun b hb=>?_
     ·have:=hVw b e.symm;rcases hb.1 with h|h
      ·have:=(hPx.own_ge b e.symm).1;omega
      ·omega
     ·rcases hb.1 with h|h
      ·exact .inl h
      ·exact .inr ⟨h,fun e=>hn9 b hb.2 (fun e2=>by have:=hVw b e2;omega) (by rw [e];rfl)⟩
    clear hn9 hg9 hb9 hVw hVk hR9;refine gS (aD ?_);refine wpList_nil ?_;refine aH trivial ?_;refine aEn (i:=8) (j:=10) (by kernel_rfl) rfl rfl rfl rfl ?_ ?_
    ·try (simp only [List.getElem_toArray,List.getElem_cons_zero,List.getElem_cons_succ])
     go_wp2_with fail
     refine aH trivial ?_;refine aEn (i:=9) (j:=10) (by kernel_rfl) rfl rfl rfl rfl ?_ ?_
     ·try (simp only [List.getElem_toArray,List.getElem_cons_zero,List.getElem_cons_succ])
      go_wp2_with fail
      refine aH trivial ?_;refine cY [10] (lB:=[_]) ?_;go_wp2_with fail
      go_meet
      refine ⟨g,vc9,?_⟩;rw [htk.out];exact aMf rfl hP9 hjl hlq hBg hgk hwk2 hX9 hK9 hO9 g9 rq9 hE9
     ·try (simp only [List.getElem_toArray,List.getElem_cons_zero,List.getElem_cons_succ])
      go_wp2_with fail
      refine aH trivial ?_;refine cY [9] (lB:=[_]) ?_;go_wp2_with fail
      go_meet
      refine ⟨g,vc9,?_⟩;rw [htk.out];exact aAz rfl hP9 hjl hlq hBg hgk hwk2 hX9 hK9 hO9 g9 rq9 hE9
    ·try (simp only [List.getElem_toArray,List.getElem_cons_zero,List.getElem_cons_succ])
     go_wp2_with fail
     refine aH trivial ?_;refine cY [8,9] (lB:=[_,_]) ?_;go_wp2_with fail
     go_meet
     refine ⟨g,vc9,?_⟩;rw [htk.out];exact aAz rfl hP9 hjl hlq hBg hgk hwk2 hX9 hK9 hO9 g9 rq9 hE9
   obtain ⟨g,vc9,hPz,hXz,hKz,hOz,gz,rEz⟩:=hcut;go_upto_region 10 with fail
   refine aT ?_;intro wz hwz;subst hwz;have a0:=hKz.three.1;have a1:=hKz.three.2.1;have a2:=hKz.three.2.2;have rkz:=hr1.below gz;go_upto_region 11 with (go_at_call 20;refine (kD (aG ks1+1) k1 n1 ks1 A1 c1 _ (by omega) (by omega) rkz).mono ?_;rintro e w5 ⟨rfl,hb5⟩)
   refine aT ?_;intro wu hwu;have hPu:=(show PartR (fun b=>b<w.heap.size) (w.heap.size+2) wu _ (os.take (j+1)) by rw [hwu];exact hPz.below hb5);have hXu:=(show Blk wu w.heap.size _ by rw [hwu];exact hXz.keep hb5);have hOu:=(show Blk wu (w.heap.size+1) _ by rw [hwu];exact hOz.keep hb5);have hKu:=(show Blk wu wk _ by rw [hwu];exact hKz.keep hb5);have rEu:Rd wu E 0 cx:=by rw [hwu];exact rEz.below hb5
   have gu:Bw w wu:=by rw [hwu];exact gz.trans (hb5.mono gz.size)
   clear hwu a0 a1 a2 rkz hPz hXz hOz hKz rEz gz;have ru:=hr1.below gu;have rau:=hmid'.below gu;obtain ⟨a0,a1,a2⟩:=kZ hKu;have hw2:IntKind.i64.wrap ((x:Int)+((aG ks1:Int)+1))=(x:Int)+((aG ks1:Int)+1):=IntWalk.i64_in _ (by omega);have hsl:∀w,(Instr.sliceAt 23 (.slice (some ⟨bB,oB,none⟩) (aG ks+1) cb) (some (.int .i64 (x:Int))) (some (.int .i64 ((x:Int)+((aG ks1:Int)+1)))) none).run prog w = .ok (.slice (some ⟨bB,oB+x*3,none⟩) (aG ks1+1) (cb - x)) w:=fun w=>by
    have:=aKf (b:=bB) (off:=oB) (len:=aG ks+1) (cp:=cb) (lo:=x) (n:=aG ks1+1) (by omega) (by omega) w;rwa [show ((x+(aG ks1+1):Nat):Int)=(x:Int)+((aG ks1:Int)+1) by omega] at this
   refine fE wu [9] [0,1,2,3,4,5,6,7] 10 2 (lT:=[_,_,_,_,_,_,_,_]) ?_;intro q0 bq0;refine cL (aD ?_);refine bG 8 ?_
   ·go_wp2_with (go_at_call 37;refine (hih.out E ce (some ⟨bB,oB+x*3,none⟩) _ (rEu.below bq0) (ru.below bq0) (rau.below bq0)).mono ?_;rintro e q1 ⟨rfl,hbq1⟩)
    refine bJ bq0 hbq1 ?_;intro bq1 lq1;refine cY [9] (lB:=[_]) ?_;have hPq:=hPu.below bq1;have hXq:=hXu.keep bq1;have hOq:=hOu.keep bq1;have gq:=gu.trans (bq1.mono gu.size);go_wp2_with fail
    exact ⟨⟨j+1,x+aG ks1+1,_,_,by omega,hx1.out,by go_num,by go_num,hXq,hOq,hPq,gq⟩,by simp [intOf];omega⟩
  ·have hje:j=ks.length:=by omega
   subst hje;rw [← hol,List.take_length] at hP;obtain ⟨VA',vc',eV,rO⟩:=hP.rd;injection eV with e1 e2 e3;subst e1 e3;clear e2;have u0:=hX.three.1;have u1:=hX.three.2.1;have u2:=hX.three.2.2;rw [hol] at *;go_upto_region 19 with (go_at_call 67;refine (hJ.out _ VA vc hb (by rw [hol];exact hO) rO.rd).mono ?_;rintro e w2 ⟨A8,c8,rfl,hl8,r8,hb2⟩)
   refine aUi (show Blk _ w2.heap.size (Ro ks0 ns0 A8 ss.length c8) from (aC _ 25 _ rfl)) ((hb.trans (hb2.mono hb.size)).alloc (hb.trans (hb2.mono hb.size)).size _) ?_;intro wu h8u gu hwu;have r8u:Rd wu A8 0 ss:=by rw [hwu];exact r8.alloc _
   clear hwu;have rsu:=rs.below gu;have z1:=aF ((bR gu) _ _ s1);have z2:=aF ((bR gu) _ _ s2);have z3:=aF ((bR gu) _ _ s3);obtain ⟨a0,a1,a2⟩:=kZ h8u;have hpos:(0:Int)<((aG ks+1:Nat):Int):=by omega
   have hpos2:(0:Int)<(aG ks:Int)+1:=by omega
   refine fE wu [5] [0,1,2,3] 6 2 (lT:=[_,_,_,_]) ?_;intro q0 bq0;refine cL (aD ?_);refine bG 4 ?_
   ·go_wp2_with (go_at_call 68;refine (lH ks0 ns0 ss A8 c8 ks0 ns0 ss As cs _ hcv.out (r8u.below bq0) (rsu.below bq0)).mono ?_;rintro e q1 ⟨rfl,hbq1⟩)
    refine bJ bq0 hbq1 ?_;intro bq1 lq1;refine cY [5] (lB:=[_]) ?_;go_wp2_with fail
    go_ret
    exact ⟨rfl,gu.trans (bq1.mono gu.size)⟩
end Go.Proofs.YtddkehjdjfmhmaaGreat
