/- Parts of the proof. No condition. -/
import Derived.Test.YtjlaenhcemacdaaGreatK3
open Go.Proofs.Tryz
namespace Go.Proofs.YtjlaenhcemacdaaGreat
open Go.RowKit
set_option maxHeartbeats 2000000
set_option maxRecDepth 100000
set_option linter.unusedSimpArgs false
set_option linter.unusedVariables false
structure OnlyIn (fp:List Nat) (w w':World):Prop where
 os:w'.os=w.os
 tape:w'.tape=w.tape
 output:w'.output=w.output
 size:w.heap.size≤w'.heap.size
 block:∀b,b<w.heap.size→b ∉ fp→w'.heap[b]?=w.heap[b]?
theorem OnlyIn.refl (fp:List Nat)(w:World):OnlyIn fp w w:=⟨rfl,rfl,rfl,oL _,fun _ _ _=>rfl⟩
theorem OnlyIn.trans {fp:List Nat}{a b c:World}(h:OnlyIn fp a b)(k:OnlyIn fp b c):OnlyIn fp a c:=
 ⟨k.os.trans h.os,k.tape.trans h.tape,k.output.trans h.output,Nat.le_trans h.size k.size,fun i hi hn=>(k.block i (yM hi h.size) hn).trans (h.block i hi hn)⟩
theorem OnlyIn.mono {fp fq:List Nat}{w w':World}(h:OnlyIn fp w w')(hs:∀b,b∈fp→b∈fq):OnlyIn fq w w':=⟨h.os,h.tape,h.output,h.size,fun b hb hn=>h.block b hb fun hm=>hn (hs b hm)⟩
theorem OnlyIn.setCell {fp:List Nat}{a w:World}(h:OnlyIn fp a w){p:Addr}(hp:p.block∈fp)(u:Value):OnlyIn fp a (w.setCell p u):=
 ⟨h.os,h.tape,h.output,by simpa [World.setCell] using h.size,fun i hi hn=>(qQ w p u i (fun e=>hn (e▸hp))).trans (h.block i hi hn)⟩
theorem OnlyIn.below {fp:List Nat}{w w':World}{B:Nat}(h:OnlyIn fp w w')(hB:B≤w.heap.size)(hf:∀b,b∈fp→B≤b):Below B w w':=
 ⟨h.os,h.tape,h.output,h.size,fun b hb=>h.block b (by omega) fun hm=>by have:=hf b hm;omega⟩
theorem OnlyIn.allocd {fp:List Nat}{w w':World}{o:Obj}(h:OnlyIn fp (w.alloc o) w'):OnlyIn fp w w':=
 ⟨h.os,h.tape,h.output,Nat.le_trans (by simp) h.size,fun b hb hn=>(h.block b (by simp;omega) hn).trans (Below.heap_alloc w o b hb)⟩
theorem oU {w:World}{t:Tm}{us:List Tm}:∀{ts:List Tm} {xs:List Value} {fp:List Nat},OwX w (ts++t::us) xs fp→
  ∃x0 x1 x2 f0 f1 f2,xs=x0++(x1++x2)∧fp=f0++(f1++f2)∧OwX w ts x0 f0∧OwT w t x1 f1∧OwX w us x2 f2
 | [],xs,fp,h=>by
  obtain ⟨x1,x2,f1,f2,rfl,rfl,h1,h2⟩:=OwX.cons_iff.1 h;exact ⟨[],x1,x2,[],f1,f2,rfl,rfl,OwX.nil,h1,h2⟩
 | s::ts,xs,fp,h=>by
  obtain ⟨y1,y2,e1,e2,rfl,rfl,k1,k2⟩:=OwX.cons_iff.1 h;obtain ⟨x0,x1,x2,f0,f1,f2,rfl,rfl,h0,h1,h2⟩:=oU k2;exact ⟨y1++x0,x1,x2,e1++f0,f1,f2,by rw [List.append_assoc],by rw [List.append_assoc],OwX.cons_iff.2 ⟨y1,x0,e1,f0,rfl,rfl,k1,h0⟩,h1,h2⟩
theorem uU {w:World}{t:Tm}{us ts:List Tm}{x0 x1 x2:List Value}{f0 f1 f2:List Nat}(h0:OwX w ts x0 f0)(h1:OwT w t x1 f1)(h2:OwX w us x2 f2):OwX w (ts++t::us) (x0++(x1++x2)) (f0++(f1++f2)):=
 h0.append (OwX.cons_iff.2 ⟨x1,x2,f1,f2,rfl,rfl,h1,h2⟩)
mutual
def aPr:Int→Tm→Tm|m,.mk _ _ ks=>.mk m (m+1) (iR (m+2) ks)
def iR:Int→List Tm→List Tm|_,[]=>[]|m,t::ts=>aPr m t::iR (m+2*t.size) ts
end
theorem fW:∀(ts:List Tm) (m:Int),(iR m ts).length=ts.length
 | [],m=>by simp [iR]
 | t::ts,m=>by rw [iR,List.length_cons,List.length_cons,fW ts]
theorem rM:∀(ts us:List Tm) (m:Int),iR m (ts++us)=iR m ts++iR (m+2*aG ts) us
 | [],us,m=>by simp [iR,aG]
 | t::ts,us,m=>by
  rw [List.cons_append,iR,iR,rM ts us,List.cons_append,aG];congr 3
  push_cast
  omega
theorem aLy {cur:Array Value}{n j:Nat}{x0 x1 x2:List Value}(h:cur.toList.take n=x0++(x1++x2))(h0:x0.length=j)(i:Nat)(v:Value)(hi:x1[i]?=some v):cur[j+i]?=some v:=by
 have hlt:i<x1.length:=(List.getElem?_eq_some_iff.1 hi).1;have h2:(cur.toList.take n)[j+i]?=some v:=by
  rw [h,List.getElem?_append_right (by omega),List.getElem?_append_left (by omega),h0,Nat.add_sub_cancel_left];exact hi
 rw [List.getElem?_take] at h2;split at h2
 ·simpa using h2
 ·cases h2
theorem aUd {cur:Array Value}{n j:Nat}{x0 x2:List Value}{a b c a' b':Value}(h:cur.toList.take n=x0++([a,b,c]++x2))(h0:x0.length=j) :
  ((cur.setIfInBounds j a').setIfInBounds (j + 1) b').toList.take n = x0 ++ ([a', b', c] ++ x2) := by
 rw [Array.toList_setIfInBounds,Array.toList_setIfInBounds,List.take_set,List.take_set,h];subst h0;simp [List.set_append]
structure OwF (w:World) (A:Option Addr) (ks:List Tm) (fp:List Nat) (lo hi:Nat):Prop where
 ow:Ow w A ks fp
 nodup:fp.Nodup
 lo:∀b,b∈fp→lo≤b
 hi:∀b,b∈fp→b<hi
theorem Fresh.owf {B:Nat}{w:World}{A:Option Addr}{ks:List Tm}(h:Fresh B w A ks):∃fp,OwF w A ks fp B w.heap.size:=by
 obtain ⟨fp,h1,h2,h3⟩:=h;exact ⟨fp,h1,h2,h3,h1.lt⟩
variable {w w':World}{A:Option Addr}{ks:List Tm}{fp fq:List Nat}{lo hi:Nat}
theorem OwF.rd (h:OwF w A ks fp lo hi):Rd w A 0 ks:=h.ow.rd
theorem OwF.keep (h:OwF w A ks fp lo hi)(hb:Bw w w'):OwF w' A ks fp lo hi:=⟨h.ow.frame fun b hm=>hb.block b (h.ow.lt b hm),h.nodup,h.lo,h.hi⟩
theorem OwF.alloc (h:OwF w A ks fp lo hi)(o:Obj):OwF (w.alloc o) A ks fp lo hi:=⟨h.ow.frame fun b hm=>Below.heap_alloc w o b (h.ow.lt b hm),h.nodup,h.lo,h.hi⟩
theorem OwF.drew (h:OwF w A ks fp lo hi):OwF w.drew A ks fp lo hi:=⟨h.ow.frame fun b hm=>rfl,h.nodup,h.lo,h.hi⟩
theorem OwF.only (h:OwF w A ks fp lo hi)(ho:OnlyIn fq w w')(hd:∀b,b∈fp→b ∉ fq):OwF w' A ks fp lo hi:=⟨h.ow.frame fun b hm=>ho.block b (h.ow.lt b hm) (hd b hm),h.nodup,h.lo,h.hi⟩
theorem OwF.apart {A':Option Addr}{ks':List Tm}{lo' hi':Nat}(h:OwF w A ks fp lo hi)(h':OwF w' A' ks' fq lo' hi')(hh:hi≤lo'):∀b,b∈fp→b ∉ fq:=fun b h1 h2=>by have:=h.hi b h1;have:=h'.lo b h2;omega
theorem OwF.apart' {A':Option Addr}{ks':List Tm}{lo' hi':Nat}(h:OwF w A ks fp lo hi)(h':OwF w' A' ks' fq lo' hi')(hh:hi'≤lo):∀b,b∈fp→b ∉ fq:=fun b h1 h2=>by have:=h.lo b h1;have:=h'.hi b h2;omega
theorem OwF.out (h:OwF w A ks fp lo hi){g:Nat}(hg:g<lo∨hi≤g):g ∉ fp:=fun h1=>by have:=h.lo g h1;have:=h.hi g h1;omega
theorem Blk.only {g:Nat}{cs:Array Value}(h:Blk w g cs)(ho:OnlyIn fq w w')(hg:g ∉ fq):Blk w' g cs:=by have hl:=h.lt;obtain ⟨t,h⟩:=h;exact ⟨t,(ho.block g hl hg).trans h⟩
theorem OwF.below (h:OwF w A ks fp lo hi)(ho:OnlyIn fp w w')(hlo:lo≤w.heap.size):Below lo w w':=ho.below hlo h.lo
theorem kA (N:Nat):∀(k n:Int) (ks:List Tm) (A:Option Addr) (c:Nat) (w:World),aG ks<N→aG ks≤1099511627776→Rd w A 0 ks→
  Calls prog 63 #[.agg (Ro k n A ks.length c)] w (qU w k n ks):=by
 induction N with
 | zero=>intro k n ks A c w hN;exact absurd hN (Nat.not_lt_zero _)
 | succ N ih=>
 intro k n ks A c w hN hM hr;have hlen:=aJ ks;go_enter func63,ntmps63;go_wp2_with fail
 go_loopw [14] (fun i wr=>∃(j:Nat) (v:Value),j≤ks.length∧i = .int .i64 j∧Part (w.heap.size+3) wr v (ks.take j)∧Blk wr (w.heap.size+1+1) #[.int .i64 k,.int .i64 n,v]∧Blk wr (w.heap.size+1) Zr∧Bw w wr)
  (fun i _ => ks.length - (intOf i).toNat)
 case atStart=>exact ⟨0,_,Nat.zero_le _,rfl,Part.nil,aC _ _ _ (by simp),(aC _ _ _ (by simp)).alloc _,bw3⟩
 case round=>
  obtain ⟨j,v,hj,rfl,hp,hB3,hB2,hb⟩:=hrel;by_cases hlt:j<ks.length
  ·obtain ⟨b,off,k',n',ks',A',c',rfl,hkj,hc1,hc2,hc3,hl',hr'⟩:=(hr.below hb).at_ hlt;have hbl:=mI _ _ hc1;have hsz:=cF (iC hlt);rw [hkj] at hsz;simp only [Tm.size] at hsz
   have H3:=aD hkj;clear hkj;have hz:=hB3.lt;have c2:wr.cell? ⟨w.heap.size+1+1,2,none⟩=some v:=hB3.at_ rfl;go_wp2_with fail
   refine aW ?_;intro wx hwx;have hXB:Blk wx wr.heap.size (Ro k' n' A' ks'.length c'):=by rw [hwx];exact aC _ _ _ rfl
   have hpx:Part (w.heap.size+3) wx v (ks.take j):=by rw [hwx];exact hp.alloc _
   have hrx:Rd wx A' 0 ks':=by rw [hwx];exact hr'.alloc _
   have hB3x:Blk wx (w.heap.size+1+1) #[.int .i64 k,.int .i64 n,v]:=by rw [hwx];exact hB3.alloc _
   have hB2x:Blk wx (w.heap.size+1) Zr:=by rw [hwx];exact hB2.alloc _
   have hbx:Bw w wx:=by rw [hwx];exact hb.alloc hb.size _
   have hs1:wr.heap.size<wx.heap.size:=by rw [hwx];simp
   have hs2:w.heap.size+1+1<wx.heap.size:=by omega
   have x2:=hB3x.rule (i:=2) rfl;have y0:=hXB.rule (i:=0) rfl;have y1:=hXB.rule (i:=1) rfl;have y2:=hXB.rule (i:=2) rfl;clear hwx;refine oF (fun w'=>Bw wx w') [0,1,2] [3,4] [5,6,7] [_,_,_] [_,_] [_,_,_] (by kernel_rfl) (by kernel_rfl) rfl rfl rfl (fun _ _ d _ _ h=>by cases d<;>exact h) (eR _ _).drew ?_;repeat (first|((refine xU (a':=?_) ?_ ?_ ?_);(rotate_left);(· (simp [Region.wanted,yielded];done));(· (simp only [Act.put,List.setIfInBounds_toArray,List.set_cons_zero,List.set_cons_succ];exact rfl)))|((refine yC (v:=?_) (a':=?_) ?_ ?_ ?_ ?_);(rotate_left 2);(· (simp [Region.wanted,yielded];done));(· (intro w' hS';go_simp;try (with_reducible rfl)));(· (simp only [Act.put,List.setIfInBounds_toArray,List.set_cons_zero,List.set_cons_succ];exact rfl))))
   refine aBm (bO ?_);go_wp2_with (go_at_call 63;refine (ih k' n' ks' A' c' _ (by omega) (by omega) hrx.drew).mono ?_;rintro e w1 ⟨A1,c1,rfl,hl1,hf1,hb1⟩)
   have hx1:Bw wx w1:=(eR wx.heap.size wx).drew.trans hb1;refine aQ hx1 (bO ?_);go_wp2_with fail
   refine aQ (hx1.alloc hx1.size _) (dL ?_);refine eC (B:=w.heap.size+3) (m:=j) hpx.drew hb1 (by simp;omega) hf1 hl1 (by simp;omega) (by omega) rfl (.tmp 19) (.tmp 22) rfl rfl rfl ?_;intro A2 c2 w2 hp2 hb2 hg2;have q3:Blk w2 (w.heap.size+1+1) #[.int .i64 k,.int .i64 n,v]:=(hB3x.below hx1 (by omega)).below hb2 (by omega);have q2:Blk w2 (w.heap.size+1) Zr:=(hB2x.below hx1 (by omega)).below hb2 (by omega);have c3:w2.cell? ⟨w.heap.size+1+1,2,none⟩=some v:=q3.at_ rfl;have z3:=q3.frozen 2;have hbf:Bw w w2:=(hbx.trans (hx1.mono (by omega))).trans (hb2.mono (by omega));clear x2 y0 y1 y2 hpx hrx hB3x hB2x hbx;go_wp2_with fail
   go_roundw
   case rel=>exact ⟨j+1,_,by omega,by go_num,by rw [tI hlt,H3.out];exact hp2.setCell (by simp) _,q3.set_ 2 _,q2.far (by simp) _,hbf.setCell (by simp;omega) _⟩
   case measure=>simp [intOf];omega
  ·have hjl:j=ks.length:=by omega
   subst hjl;rw [List.take_length] at hp;obtain ⟨Ar,cr,rfl,hfr⟩:=hp.fresh;have c0:wr.cell? ⟨w.heap.size+1+1,0,none⟩=some (.int .i64 k):=hB3.at_ rfl;have c1:wr.cell? ⟨w.heap.size+1+1,1,none⟩=some (.int .i64 n):=hB3.at_ rfl;have c2:wr.cell? ⟨w.heap.size+1+1,2,none⟩=some (.slice Ar ks.length cr):=hB3.at_ rfl;have d0:wr.cell? ⟨w.heap.size+1,0,none⟩=some (.int .i64 0):=hB2.at_ rfl;have d1:wr.cell? ⟨w.heap.size+1,1,none⟩=some (.int .i64 0):=hB2.at_ rfl;have d2:wr.cell? ⟨w.heap.size+1,2,none⟩=some (.slice none 0 0):=hB2.at_ rfl;obtain ⟨e0,e1,e2⟩:=bkf hB2;go_wp2_with fail
   refine bodyPost_ret (v:=.agg (Ro k n Ar ks.length cr)) (by simp [results,results63,go_sem,d0,d1,d2]) rfl ⟨Ar,cr,rfl,by omega,?_,?_⟩
   ·exact (tT hfr).mono (by omega)
   ·exact bP hb
theorem xH {P:Program}(t e:TypeId)(i:TypeInfo)(z:Value)(ht:P.underlying t=some (.slice e))(hi:P.info? e=some i)(hz:i.zero=some z)
  (kl kc : IntKind) (n c : Nat) (hnc : n ≤ c) (hbytes : i.bytes * c ≤ 281474976710656) (h63 : c ≤ 9223372036854775807) (w : World) :
  (Instr.makeSlice t (.int kl (n : Int)) (.int kc (c : Int))).run P w = .ok (.slice (some ⟨w.heap.size, 0, none⟩) n c) (w.alloc (.cells (madeCells z.cells (c * i.size)) e)) := by
 have hb:(i.bytes:Int)*(c:Int)≤281474976710656:=by
  have h:((i.bytes*c:Nat):Int)≤281474976710656:=by omega
  rwa [Int.natCast_mul] at h
 have hr:=run_make (P:=P) w t e i z ht hi hz kl kc n c (by omega) (by omega) hb (by omega);simp only [Int.toNat_natCast] at hr
 exact hr
theorem aMl (n:Nat)(hn:n≤1099511627776)(W:World):(Instr.makeSlice 29 (.int .i64 (n:Int)) (.int .i64 (n:Int))).run prog W = .ok (.slice (some ⟨W.heap.size,0,none⟩) n n)
  (W.alloc (.cells (madeCells Zr (n * 3)) 32)) := by
 obtain ⟨i0,hi,hz0,hz1,hz2⟩:=info_parts nH;have h:=xH (P:=prog) 29 32 i0 _ Tryz.underlying29 hi hz0 .i64 .i64 n n (oL _) (by rw [hz2];omega) (by omega) W;rw [hz1] at h;exact h
theorem aNd (n:Nat)(W:World):Fill (W.alloc (.cells (madeCells Zr (n*3)) 32)) W.heap.size n []:=Fill.start (by simp [madeCells])
def szR (left:Int)(m:Nat):Int:=if left<m then -1 else left - m
theorem aLz (left:Int)(m:Nat)(h0:0≤left) : -1≤szR left m∧szR left m≤left:=by unfold szR;split<;>omega
theorem aNy {left:Int}{m:Nat}(h:0≤szR left m):(m:Int)≤left∧szR left m=left - m:=by unfold szR at *;split<;>simp_all
theorem aOp {left:Int}{m:Nat}(h:szR left m<0):left<m:=by unfold szR at *;split at h<;>omega
theorem aDy {left:Int}{m:Nat}(h:left<m):szR left m = -1:=by unfold szR;rw [if_pos h]
theorem zM {left:Int}{m:Nat}(h:m≤left):szR left m=left - m:=by unfold szR;rw [if_neg (by omega)]
def oD:List Tm→Nat|[]=>0|t::ts=>aG t.ks+oD ts
theorem aEv (ks:List Tm):aG ks=ks.length+oD ks:=by
 induction ks with
 | nil=>simp [aG,oD]
 | cons t ts ih=>cases t;simp only [aG,oD,Tm.size,Tm.ks,List.length_cons,ih];omega
theorem tR (a b:List Tm):oD (a++b)=oD a+oD b:=by
 induction a with
 | nil=>simp [oD]
 | cons x r ih=>simp only [List.cons_append,oD,ih];omega
theorem aIj (ks:List Tm)(j:Nat)(hj:j<ks.length):oD (ks.take (j+1))=oD (ks.take j)+aG ks[j].ks:=by
 rw [tI hj,tR];simp [oD]
theorem aNr (ks:List Tm)(j:Nat):oD (ks.take j)≤oD ks:=by
 have:=tR (ks.take j) (ks.drop j);rw [List.take_append_drop] at this;omega
theorem yA {N:Nat}(ih:∀(ks:List Tm) (A:Option Addr) (c:Nat) (left:Int) (w:World),aG ks<N→ks.length≤9223372036854775807→Rd w A 0 ks→0≤left→left≤1048576→
      Calls prog 7 #[.slice A ks.length c,.int .i64 left] w fun e w'=>e = .returned (.int .i64 (szR left (aG ks)))∧Bw w w')
    (k n:Int) (ks:List Tm) (A:Option Addr) (c:Nat) (left:Int) (w:World) (hN:aG ks<N) (hl:ks.length≤9223372036854775807) (hr:Rd w A 0 ks) (h0:0≤left) (h1:left≤1048576) :
    Calls prog 8 #[.agg (Ro k n A ks.length c),.int .i64 left] w fun e w'=>e = .returned (.int .i64 (szR left (aG ks)))∧Bw w w':=by
  have hz:=aLz left (aG ks) h0;go_enter func8,ntmps8;go_wp2_with (go_at_call 7;refine (ih ks A c left _ hN hl (hr.alloc _) h0 h1).mono ?_;rintro e w' ⟨rfl,hb⟩)
  all_goals go_ret
  · exact ⟨cL (by omega),bw1.trans (hb.mono (by simp))⟩
  · exact ⟨rfl,bw1.trans (hb.mono (by simp))⟩
theorem kV (N:Nat):∀(ks:List Tm) (A:Option Addr) (c:Nat) (left:Int) (w:World),aG ks<N→ks.length≤9223372036854775807→Rd w A 0 ks→0≤left→left≤1048576→
      Calls prog 7 #[.slice A ks.length c,.int .i64 left] w fun e w'=>e = .returned (.int .i64 (szR left (aG ks)))∧Bw w w':=by
  induction N with
  | zero=>
    intro ks A c left w hN;exact absurd hN (Nat.not_lt_zero _)
  | succ N ih=>
  intro ks A c left w hN hl hr h0 h1;have hss:=aEv ks;by_cases hlen:left<(ks.length:Int)
  · go_enter func7,ntmps7
    go_wp2_with fail
    go_ret
    exact ⟨cL (by unfold szR;rw [if_pos (by omega)]),eR _ _⟩
  · have H:=aD hss;clear hss
    go_enter func7,ntmps7;go_wp2_with fail
    go_loopw [1,5] (fun l i wr=>∃j:Nat,j≤ks.length∧i = .int .i64 j∧l = .int .i64 (left - ks.length - oD (ks.take j))∧0≤left - ks.length - oD (ks.take j)∧Bw w wr)
      (fun _ i _=>ks.length - (intOf i).toNat)
    case atStart=>exact ⟨0,Nat.zero_le _,rfl,by simp [oD],by simp [oD];omega,eR _ _⟩
    case round=>
      obtain ⟨j,hj,rfl,rfl,hp,hb⟩:=hrel;by_cases hlt:j<ks.length
      · obtain ⟨b,off,k,n,ks',A',c',rfl,hkj,hc1,hc2,hc3,hl',hr'⟩:=(hr.below hb).at_ hlt
        have hst:=aIj ks j hlt;have hsl:=aNr ks (j+1);have hsz:=cF (iC hlt);rw [hkj] at hst hsz;simp only [Tm.ks,Tm.size] at hst hsz
        have hzz:=aLz (left - ks.length - oD (ks.take j)) (aG ks') hp;have H2:=aD hst;have H3:=aD hkj;clear hst hkj;go_wp2_with (go_at_call 8;refine (yA ih k n ks' A' c' _ _ (by omega) hl' hr' (by omega) (by omega)).mono ?_;rintro e w' ⟨rfl,hb'⟩)
        · go_ret
          have hneg:=aOp (by assumption);exact ⟨cL (aDy (by have:=H.out;have:=H2.out;omega)).symm,hb.trans (hb'.mono hb.size)⟩
        · have hpos:=aNy (by assumption)
          go_roundw
          case rel=>exact ⟨j+1,by omega,by go_num,by rw [hpos.2,H2.out];go_num,by rw [H2.out];omega,hb.trans (hb'.mono hb.size)⟩
          case measure=>simp [intOf];omega
      · go_wp2_with fail
        go_ret
        have hjl:j=ks.length:=by omega
        subst hjl;have:=H.out;rw [List.take_length] at *;exact ⟨cL (by rw [zM (by omega)];omega),hb⟩
theorem wK (k n:Int)(ks:List Tm)(A:Option Addr)(c:Nat)(left:Int)(w:World)(hl:ks.length≤9223372036854775807)(hr:Rd w A 0 ks)(h0:0≤left)(h1:left≤1048576) :
  Calls prog 8 #[.agg (Ro k n A ks.length c),.int .i64 left] w fun e w'=>e = .returned (.int .i64 (szR left (aG ks)))∧Bw w w':=
 yA (N:=aG ks+1) (kV _) k n ks A c left w (by omega) hl hr h0 h1
def aPs (w:World)(ks:List Tm)(e:Ending)(w':World):Prop:=∃A c,e = .returned (.slice A ks.length c)∧ks.length≤c∧Fresh w.heap.size w' A ks∧Bw w w'
theorem xJ {N:Nat}(ih:∀(ks:List Tm) (A:Option Addr) (c:Nat) (w:World),aG ks<N→aG ks≤1099511627776→Rd w A 0 ks→Calls prog 10 #[.slice A ks.length c] w (aPs w ks))
  (k n : Int) (ks : List Tm) (A : Option Addr) (c : Nat) (w : World) (hN : aG ks < N) (hM : aG ks ≤ 1099511627776) (hr : Rd w A 0 ks) :
  Calls prog 11 #[.agg (Ro k n A ks.length c)] w (qU w k n ks):=by
 have hlen:=aJ ks;go_enter func11,ntmps11;go_wp2_with (go_at_call 10;refine (ih ks A c _ hN hM (((hr.alloc _).alloc _).alloc _)).mono ?_;rintro e w1 ⟨A1,c1,rfl,-,hf1,hb1⟩;obtain ⟨hc,hf⟩:=aLa hb1)
 refine bodyPost_ret (v:=.agg (Ro k n A1 ks.length c1)) (by simp [results,results11,go_sem,hc]) rfl ⟨A1,c1,rfl,by omega,?_,?_⟩
 ·exact ((tT hf1).setCell (by simp) _).mono (by simp;omega)
 ·exact (((bw3.trans (hb1.mono (by simp;omega))).setCell (by simp;omega) _).setCell (by simp) _).setCell (by simp) _ |>.setCell (by simp) _
theorem jL (N:Nat):∀(ks:List Tm) (A:Option Addr) (c:Nat) (w:World),aG ks<N→aG ks≤1099511627776→Rd w A 0 ks→Calls prog 10 #[.slice A ks.length c] w (aPs w ks):=by
 induction N with
 | zero=>intro ks A c w hN;exact absurd hN (Nat.not_lt_zero _)
 | succ N ih=>
 intro ks A c w hN hM hr;have hlen:=aJ ks;have hmk:=aMl ks.length (by omega);go_enter func10,ntmps10;go_wp2_with fail
 go_loopw [4] (fun i wr=>∃j:Nat,j≤ks.length∧i = .int .i64 j∧Fill wr w.heap.size ks.length (ks.take j)∧Bw w wr) (fun i _=>ks.length - (intOf i).toNat)
 case atStart=>exact ⟨0,Nat.zero_le _,rfl,aNd _ _,bw1⟩
 case round=>
  obtain ⟨j,hj,rfl,hfl,hb⟩:=hrel;by_cases hlt:j<ks.length
  ·obtain ⟨b,off,k',n',ks',A',c',rfl,hkj,hc1,hc2,hc3,hl',hr'⟩:=(hr.below hb).at_ hlt;have hsz:=cF (iC hlt);rw [hkj] at hsz;simp only [Tm.size] at hsz
   have H3:=aD hkj;clear hkj;have hgl:=hfl.lt;go_wp2_with (go_at_call 11;refine (xJ ih k' n' ks' A' c' _ (by omega) (by omega) hr').mono ?_;rintro e w1 ⟨A1,c1,rfl,hl1,hf1,hb1⟩;obtain ⟨u0,x0⟩:=(hfl.below hb1).cell (j:=j*3) (by omega);obtain ⟨u1,x1⟩:=(hfl.below hb1).cell (j:=j*3+1) (by omega);obtain ⟨u2,x2⟩:=(hfl.below hb1).cell (j:=j*3+2) (by omega);have z0:=(hfl.below hb1).frozen (j*3);have z1:=(hfl.below hb1).frozen (j*3+1);have z2:=(hfl.below hb1).frozen (j*3+2))
   go_roundw
   case rel=>
    refine ⟨j+1,by omega,by go_num,?_,?_⟩
    ·rw [tI hlt,H3.out];exact hfl.set_ hb1 hf1 hl1 (by simp;omega) hlt
    ·exact (((hb.trans (hb1.mono hb.size)).setCell (by simp) _).setCell (by simp) _).setCell (by simp) _
   case measure=>simp [intOf];omega
  ·have hjl:j=ks.length:=by omega
   subst hjl;rw [List.take_length] at hfl;go_wp2_with fail
   go_ret
   exact ⟨_,_,rfl,oL _,hfl.fresh (oL _),hb⟩
theorem oC (k n:Int)(ks:List Tm)(A:Option Addr)(c:Nat)(w:World)(hM:aG ks≤1099511627776)(hr:Rd w A 0 ks) :
  Calls prog 11 #[.agg (Ro k n A ks.length c)] w (qU w k n ks):=
 xJ (N:=aG ks+1) (jL _) k n ks A c w (by omega) hM hr
theorem xR {N:Nat}(ih:∀(ks:List Tm) (A:Option Addr) (c:Nat) (ls:List Tm) (B:Option Addr) (d:Nat) (w:World),aG ks<N→ks.length≤9223372036854775807→ls.length≤9223372036854775807→Rd w A 0 ks→Rd w B 0 ls→
      Calls prog 14 #[.slice A ks.length c,.slice B ls.length d] w fun e w'=>e = .returned (.bool (jX ks ls))∧Bw w w')
    (k n:Int) (ks:List Tm) (A:Option Addr) (c:Nat) (k' n':Int) (ls:List Tm) (B:Option Addr) (d:Nat) (w:World) (hN:aG ks<N) (hl:ks.length≤9223372036854775807) (hl':ls.length≤9223372036854775807) (hr:Rd w A 0 ks) (hr':Rd w B 0 ls) :
    Calls prog 15 #[.agg (Ro k n A ks.length c),.agg (Ro k' n' B ls.length d)] w fun e w'=>e = .returned (.bool (fX (.mk k n ks) (.mk k' n' ls)))∧Bw w w':=by
  by_cases hk:k=k'
  · by_cases hn:n=n'
    · subst hk hn
      have h1:(k==k)=true:=by simp
      have h2:(n==n)=true:=by simp
      go_enter func15,ntmps15;go_wp2_with (go_at_call 14;refine (ih ks A c ls B d _ hN hl hl' ((hr.alloc _).alloc _) ((hr'.alloc _).alloc _)).mono ?_;rintro e w1 ⟨rfl,hb1⟩)
      all_goals go_ret
      all_goals refine ⟨dD ?_,bw2.trans (hb1.mono (by simp;omega))⟩
      all_goals simp_all [fX]
    · have h2:(n==n')=false:=by simpa using hn
      subst hk;go_enter func15,ntmps15;go_wp2_with fail
      go_ret
      exact ⟨dD (by simp [fX,h2]),bw2⟩
  · have h2:(k==k')=false:=by simpa using hk
    go_enter func15,ntmps15;go_wp2_with fail
    go_ret
    exact ⟨dD (by simp [fX,h2]),bw2⟩
theorem tH (N:Nat):∀(ks:List Tm) (A:Option Addr) (c:Nat) (ls:List Tm) (B:Option Addr) (d:Nat) (w:World),aG ks<N→ks.length≤9223372036854775807→ls.length≤9223372036854775807→Rd w A 0 ks→Rd w B 0 ls→
      Calls prog 14 #[.slice A ks.length c,.slice B ls.length d] w fun e w'=>e = .returned (.bool (jX ks ls))∧Bw w w':=by
  induction N with
  | zero=>intro ks A c ls B d w hN;exact absurd hN (Nat.not_lt_zero _)
  | succ N ih=>
  intro ks A c ls B d w hN hl hl' hr hr';by_cases hlen:ks.length=ls.length
  · have hq:((ks.length:Int) != (ls.length:Int))=false:=by simp [hlen]
    have hH:=aD hlen;have hle:ls.length≤ks.length:=by omega
    have hge:ks.length≤ls.length:=by omega
    clear hlen;go_enter func14,ntmps14;go_wp2_with fail
    go_loopw [5] (fun i wr=>∃j:Nat,j≤ks.length∧i = .int .i64 j∧Hid (ks.take j=ls.take j)∧Bw w wr) (fun i _=>ks.length - (intOf i).toNat)
    case atStart=>exact ⟨0,Nat.zero_le _,rfl,aD (by simp),eR _ _⟩
    case round=>
      obtain ⟨j,hj,rfl,heq,hb⟩:=hrel;by_cases hlt:j<ks.length
      · have hlt':j<ls.length:=by omega
        obtain ⟨b,off,k1,n1,ks1,A1,c1,rfl,hkj,hc1,hc2,hc3,hl1,hr1⟩:=(hr.below hb).at_ hlt;obtain ⟨b2,off2,k2,n2,ks2,A2,c2,rfl,hkj2,hd1,hd2,hd3,hl2,hr2⟩:=(hr'.below hb).at_ hlt';have hsz:=cF (iC hlt);rw [hkj] at hsz;simp only [Tm.size] at hsz
        have H3:=aD hkj;have H4:=aD hkj2;clear hkj hkj2;obtain ⟨r1,r2,r3⟩:=qD hc1 hc2 hc3;obtain ⟨r4,r5,r6⟩:=qD hd1 hd2 hd3;go_wp2_with fail
        refine oF (fun w'=>Bw wr w') [0,1,2,3,4,5,6,7] [] [8,9] [_,_,_,_,_,_,_,_] [] [_,_] (by kernel_rfl) (by kernel_rfl) rfl rfl rfl (fun _ _ d _ _ h=>by cases d<;>exact h) (eR _ _).drew ?_;repeat (first|((refine xU (a':=?_) ?_ ?_ ?_);(rotate_left);(· (simp [Region.wanted,yielded];done));(· (simp only [Act.put,List.setIfInBounds_toArray,List.set_cons_zero,List.set_cons_succ];exact rfl)))|((refine yC (v:=?_) (a':=?_) ?_ ?_ ?_ ?_);(rotate_left 2);(· (simp [Region.wanted,yielded];done));(· (intro w' hS';go_simp;try (with_reducible rfl)));(· (simp only [Act.put,List.setIfInBounds_toArray,List.set_cons_zero,List.set_cons_succ];exact rfl))))
        refine aBm (dL ?_);go_wp2_with (go_at_call 15;refine (xR ih k1 n1 ks1 A1 c1 k2 n2 ks2 A2 c2 _ (by omega) hl1 hl2 hr1.drew hr2.drew).mono ?_;rintro e w1 ⟨rfl,hb1⟩)
        · go_ret
          have hne0:(!fX (.mk k1 n1 ks1) (.mk k2 n2 ks2))=true:=by assumption
          have hne:fX (.mk k1 n1 ks1) (.mk k2 n2 ks2)=false:=by simpa using hne0
          refine ⟨dD (gV fun e=>?_).symm,hb.drew.trans (hb1.mono (by simpa using hb.size))⟩;subst e;rw [← H3.out,← H4.out,lY] at hne;cases hne
        · have heq0:(!fX (.mk k1 n1 ks1) (.mk k2 n2 ks2))=false:=by assumption
          have heq1:fX (.mk k1 n1 ks1) (.mk k2 n2 ks2)=true:=by simpa using heq0
          go_roundw
          case rel=>exact ⟨j+1,by omega,by go_num,aD (by rw [tI hlt,tI hlt',heq.out,H3.out,H4.out,tmEq_iff.1 heq1]),hb.drew.trans (hb1.mono (by simpa using hb.size))⟩
          case measure=>simp [intOf];omega
      · go_wp2_with fail
        go_ret
        have hjl:j=ks.length:=by omega
        have h5:=heq.out;rw [hjl,List.take_length,hH.out,List.take_length] at h5;exact ⟨dD (tmsEq_iff.2 h5).symm,hb⟩
  · have hq:((ks.length:Int) != (ls.length:Int))=true:=by simp;omega
    go_enter func14,ntmps14;go_wp2_with fail
    go_ret
    exact ⟨dD (gV (fun e=>hlen (by rw [e]))).symm,eR _ _⟩
theorem aDq (k n:Int)(ks:List Tm)(A:Option Addr)(c:Nat)(k' n':Int)(ls:List Tm)(B:Option Addr)(d:Nat)(w:World)(hl:ks.length≤9223372036854775807)(hl':ls.length≤9223372036854775807)(hr:Rd w A 0 ks)(hr':Rd w B 0 ls) :
  Calls prog 15 #[.agg (Ro k n A ks.length c),.agg (Ro k' n' B ls.length d)] w fun e w'=>e = .returned (.bool (fX (.mk k n ks) (.mk k' n' ls)))∧Bw w w':=
 xR (N:=aG ks+1) (tH _) k n ks A c k' n' ls B d w (by omega) hl hl' hr hr'
def aBn (w:World)(A:Option Addr)(ts:List Tm)(fp:List Nat)(m:Int)(e:Ending)(w':World):Prop:=
 e = .returned (.int .i64 (m+2*aG ts))∧Ow w' A (iR m ts) fp∧OnlyIn fp w w'
theorem pU (N:Nat):∀(ks:List Tm) (A:Option Addr) (c:Nat) (fp:List Nat) (m:Int) (w:World),aG ks<N→aG ks≤1099511627776→0≤m→m+2*aG ks≤4398046511104→Ow w A ks fp→fp.Nodup→
  Calls prog 16 #[.slice A ks.length c,.int .i64 m] w (aBn w A ks fp m):=by
 induction N with
 | zero=>intro ks A c fp m w hN;exact absurd hN (Nat.not_lt_zero _)
 | succ N ih=>
 intro ks A c fp m w hN hM hm0 hm1 hO hn;have hlen:=aJ ks;rcases hO with ⟨rfl,rfl⟩|⟨g,cur0,ety,f,hne,rfl,hg0,rfl,hx0⟩
 ·go_enter func16,ntmps16;go_wp2_with fail
  refine Go.wp_loop_rounds 1 ?_;rw [Go.rounds_succ];go_wp2_with fail
  go_ret
  exact ⟨cL (by simp [aG]),.inl ⟨by simp [iR],rfl⟩,OnlyIn.refl _ _⟩
 ·go_enter func16,ntmps16;go_wp2_with fail
  go_loopw [1,5] (fun mv i wr=>∃(j:Nat) (cur:Array Value),j≤ks.length∧i = .int .i64 j∧mv = .int .i64 (m+2*aG (ks.take j))∧wr.heap[g]?=some (.cells cur ety (0,0))∧
    Hid (OwX wr (iR m (ks.take j)++ks.drop j) (cur.toList.take (ks.length*3)) f)∧OnlyIn (g::f) w wr)
   (fun _ i _=>ks.length - (intOf i).toNat)
  case atStart=>exact ⟨0,cur0,Nat.zero_le _,rfl,by simp [aG],hg0,aD (by simpa [iR] using hx0),OnlyIn.refl _ _⟩
  case round=>
   obtain ⟨j,cur,hj,rfl,rfl,hg,hx,hon⟩:=hrel;have hsl:=fI ks j;by_cases hlt:j<ks.length
   ·have hdrop:ks.drop j=ks[j]::ks.drop (j+1):=List.drop_eq_getElem_cons hlt;have hx':=hx.out;rw [hdrop] at hx';obtain ⟨x0,x1,x2,f0,f1,f2,hxs,hff,k0,k1,k2⟩:=oU hx';have hst:=nX ks j hlt;have hsz:=cF (iC hlt);obtain ⟨k',n',ks',hkj⟩:∃k' n' ks',ks[j]=Tm.mk k' n' ks':=by cases ks[j];exact ⟨_,_,_,rfl⟩
    rw [hkj] at k1 hst hsz;obtain ⟨Aj,cj,rfl,hlj,hOj⟩:=OwT.iff.1 k1;simp only [Tm.size] at hst hsz
    have hx0l:x0.length=j*3:=by rw [k0.length,fW,List.length_take,Nat.min_eq_left (Nat.le_of_lt hlt)]
    have hB:Blk wr g cur:=⟨_,hg⟩;have c0:wr.cell? ⟨g,j*3,none⟩=some (.int .i64 k'):=hB.at_ (aLy hxs hx0l 0 _ rfl);have c1:wr.cell? ⟨g,j*3+1,none⟩=some (.int .i64 n'):=hB.at_ (aLy hxs hx0l 1 _ rfl);have c2:wr.cell? ⟨g,j*3+2,none⟩=some (.slice Aj ks'.length cj):=hB.at_ (aLy hxs hx0l 2 _ rfl);have z0:=hB.frozen (j*3);have z1:=hB.frozen (j*3+1);have hn1:=(List.nodup_cons.1 hn).1;have hnf:=(List.nodup_cons.1 hn).2;have hnf1:f1.Nodup:=by rw [hff] at hnf;exact (List.nodup_append.1 (List.nodup_append.1 hnf).2.1).1
    have hg1:g ∉ f1:=fun hm=>hn1 (by rw [hff];simp [hm])
    have hset:=aD (aUd (a':=.int .i64 (m+2*aG (ks.take j))) (b':=.int .i64 (m+2*aG (ks.take j)+1)) hxs hx0l);have h5:=aD hxs;have h6:=aD hff;have h7:=aD hkj;have h8:=aD hst;have h9:=aD (And.intro hx0l hdrop);have hsl2:aG (ks.take j)+(aG ks'+1)≤aG ks:=by have:=fI ks (j+1);omega
    clear hxs hff hkj hst hx0l hdrop hx' hx k1 hx0 hg0;have hOj2:∀(v1 v2:Value),Ow ((wr.setCell ⟨g,j*3,none⟩ v1).setCell ⟨g,j*3+1,none⟩ v2) Aj ks' f1:=fun v1 v2=>hOj.frame fun b hb=>(qQ _ _ _ b (fun e=>hg1 (by have e:b=g:=e;rw [← e];exact hb))).trans (qQ _ _ _ b (fun e=>hg1 (by have e:b=g:=e;rw [← e];exact hb)))
    go_wp2_with (go_at_call 16;refine (ih ks' Aj cj f1 (m+2*aG (ks.take j)+1+1) _ (by omega) (by omega) (by omega) (by omega) (hOj2 _ _) hnf1).mono ?_;rintro e w3 ⟨rfl,hO3,hon3⟩)
    have hgs:((wr.setCell ⟨g,j*3,none⟩ (.int .i64 (m+2*aG (ks.take j)))).setCell ⟨g,j*3+1,none⟩ (.int .i64 (m+2*aG (ks.take j)+1))).heap[g]?=some (.cells ((cur.setIfInBounds (j*3) (.int .i64 (m+2*aG (ks.take j)))).setIfInBounds (j*3+1) (.int .i64 (m+2*aG (ks.take j)+1))) ety (0,0)):=by
     simp [World.setCell,Array.getElem?_modify,hg]
    have hlt3:∀b,b∈f→b<wr.heap.size:=fun b hb=>by
     have:=hb;rw [h6.out] at this;rcases List.mem_append.1 this with h|h
     ·exact k0.lt b h
     ·rcases List.mem_append.1 h with h|h
      ·exact hOj.lt b h
      ·exact k2.lt b h
    have hfr:∀b,b∈f→b ∉ f1→w3.heap[b]?=wr.heap[b]?:=fun b hb hb1=>by
     have hbg:b≠g:=fun e=>hn1 (e▸hb)
     exact (hon3.block b (by simp [World.setCell];exact hlt3 b hb) hb1).trans ((qQ _ _ _ b hbg).trans (qQ _ _ _ b hbg))
    have hg3:=(hon3.block g (by simp [World.setCell];exact (Array.getElem?_eq_some_iff.1 hg).1) hg1).trans hgs;have hnf':=hnf;rw [h6.out] at hnf';have hd0:∀b,b∈f0→b ∉ f1:=fun b h0 h1=>(List.nodup_append.1 hnf').2.2 b h0 b (by simp [h1]) rfl
    have hd2:∀b,b∈f2→b ∉ f1:=fun b h2 h1=>(List.nodup_append.1 (List.nodup_append.1 hnf').2.1).2.2 b h1 b h2 rfl
    have hon4:OnlyIn (g::f) w w3:=(((hon.setCell (by simp) _).setCell (by simp) _)).trans (hon3.mono fun b hb=>by rw [h6.out];simp [hb]);have hres:OwX w3 (iR m (ks.take (j+1))++ks.drop (j+1)) (((cur.setIfInBounds (j*3) (.int .i64 (m+2*aG (ks.take j)))).setIfInBounds (j*3+1) (.int .i64 (m+2*aG (ks.take j)+1))).toList.take (ks.length*3)) f:=by
     rw [hset.out,tI hlt,rM,h7.out,iR,iR,List.append_assoc,h6.out,aPr];refine uU (k0.frame fun b hb=>hfr b (by rw [h6.out];simp [hb]) (hd0 b hb)) (OwT.iff.2 ⟨Aj,cj,?_,by rw [fW];exact hlj,?_⟩) (k2.frame fun b hb=>hfr b (by rw [h6.out];simp [hb]) (hd2 b hb))
     ·rw [fW]
     ·rw [show m+2*(aG (ks.take j):Int)+2=m+2*aG (ks.take j)+1+1 from by omega];exact hO3
    go_roundw
    case rel=>exact ⟨j+1,_,hlt,by go_num,by rw [h8.out];push_cast;congr 1;omega,hg3,aD hres,hon4⟩
    case measure=>simp [intOf];omega
   ·have hjl:j=ks.length:=by omega
    subst hjl;have hx':=hx.out;rw [List.take_length,List.drop_length,List.append_nil] at hx';go_wp2_with fail
    go_ret
    refine ⟨cL (by rw [List.take_length]),.inr ⟨g,cur,ety,f,?_,rfl,hg,rfl,by rw [fW];exact hx'⟩,hon⟩;intro e;have:=fW ks m;rw [e] at this;simp at this
    exact hne (lEn this.symm)
theorem zR (k n:Int)(ks:List Tm)(A:Option Addr)(c:Nat)(fp:List Nat)(m:Int)(w:World)(hM:aG ks≤1099511627776)(hm0:0≤m)(hm1:m+2*aG ks≤4398046511104)(hO:Ow w A ks fp)(hn:fp.Nodup) :
  Calls prog 17 #[.agg (Ro k n A ks.length c),.int .i64 m] w (aBn w A ks fp m):=by
 have hO':∀o:Obj,Ow (w.alloc o) A ks fp:=fun o=>hO.frame fun b hb=>Below.heap_alloc w o b (hO.lt b hb)
 go_enter func17,ntmps17;go_wp2_with (go_at_call 16;refine (pU (aG ks+1) ks A c fp m _ (by omega) hM hm0 hm1 (hO' _) hn).mono ?_;rintro e w1 ⟨rfl,h1,h2⟩)
 go_ret
 exact ⟨rfl,h1,h2.allocd⟩
mutual
def rH:Int→List Tm→Bool
 | _,[]=>true
 | m,t::ts=>aSs m t && rH (m+2*t.size) ts
def aSs:Int→Tm→Bool|m,.mk k n ks=>k==m && n==m+1 && rH (m+2) ks
end
variable {w w':World}{A:Option Addr}{ks:List Tm}{fp fq:List Nat}{lo hi:Nat}
end Go.Proofs.YtjlaenhcemacdaaGreat
