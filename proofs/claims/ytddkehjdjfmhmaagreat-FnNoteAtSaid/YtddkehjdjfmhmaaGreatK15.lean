/- Parts of the proof. No condition. -/
import Derived.Test.YtddkehjdjfmhmaaGreatK12
import Derived.Test.YtddkehjdjfmhmaaGreatK13
import Derived.Test.YtddkehjdjfmhmaaGreatK14
import Derived.Deep.Upon
import Derived.Laws.IdiomStrings
import Derived.Lib.SliceRun
open Go.Proofs.Tryz
namespace Go.Proofs.YtddkehjdjfmhmaaGreat
open Go.RowKit
set_option maxHeartbeats 4000000
set_option maxRecDepth 100000
set_option linter.unusedSimpArgs false
set_option linter.unusedVariables false
theorem yY {p:Nat→Prop}{w:World}{b off:Nat}:∀{ts:List Tm} {i:Nat},RdP p w (some ⟨b,off,none⟩) i ts→∃xs,RdX p w ts xs∧∀j u,xs[j]?=some u→w.cell? ⟨b,off+i*3+j,none⟩=some u
 | [],i,_=>⟨[],rfl,fun j u h=>by simp at h⟩
 | .mk k n ks::ts,i,h=>by
  obtain ⟨⟨b',off',hA,hc⟩,hr⟩:=RdP.cons_iff.1 h;injection hA with hA;injection hA with h1 h2;subst h1 h2;obtain ⟨hp,c0,c1,A,c,c2,hl,hk⟩:=RdPC.iff.1 hc;obtain ⟨xs,hx,hcx⟩:=yY hr;refine ⟨.int .i64 k :: .int .i64 n :: .slice A ks.length c::xs,⟨A,c,xs,rfl,hl,hk,hx⟩,fun j u hj=>?_⟩;match j,hj with
  | 0,hj=>simp only [List.getElem?_cons_zero,Option.some.injEq] at hj;subst hj;exact c0
  | 1,hj=>simp only [List.getElem?_cons_succ,List.getElem?_cons_zero,Option.some.injEq] at hj;subst hj;exact c1
  | 2,hj=>simp only [List.getElem?_cons_succ,List.getElem?_cons_zero,Option.some.injEq] at hj;subst hj;exact c2
  | j+3,hj=>
   simp only [List.getElem?_cons_succ] at hj
   have:=hcx j u hj;rw [← this];congr 2
   omega
theorem RdX.oneC {p:Nat→Prop}{w:World}:∀{ts:List Tm} {xs:List Value},RdX p w ts xs→∀u,u∈xs→u.oneCell'=true
 | [],xs,h,u,hu=>by have h:xs=[]:=h;subst h;cases hu
 | .mk k n ks::ts,xs,h,u,hu=>by
  obtain ⟨A,c,ys,rfl,hl,hr,hx⟩:=h;simp only [List.mem_cons] at hu
  rcases hu with rfl|rfl|rfl|hu
  ·rfl
  ·rfl
  ·rfl
  ·exact hx.oneC u hu
section
variable {lo:Nat→Prop}{B:Nat}{w:World}{v:Value}{ts:List Tm}{k n:Int}{ks:List Tm}{A:Option Addr}{c:Nat}{q:Nat→Prop}
theorem vA (hp:PartR lo B w v ts)(hB:B≤w.heap.size)(hr:RdP q w A 0 ks)(hq:∀b,q b→PB lo B w v b)(hl:ks.length≤9223372036854775807)(hlen:ts.length≤1099511627776)(g cc:Nat)
  (hb : Blk w g (Ro k n A ks.length c)) (ty : TypeId) :
  ∃v' w',(Builtin.append_ #[23,23] ty #[v,.slice (some ⟨g,0,none⟩) 1 cc]).run prog w = .ok v' w'∧
   PartR lo B w' v' (ts++[.mk k n ks])∧Below B w w'∧w.grownBy w' v.ownBlock∧∀b,b<w.heap.size→v.ownBlock≠some b→v'.ownBlock≠some b:=by
 obtain ⟨i,hi,hz,hz1,hz2⟩:=info_parts jT;obtain ⟨xs,k1,h2⟩:=hp;have hge:∀g,v.ownBlock=some g→B≤g:=fun g hg=>(k1.lt g hg).1
 obtain ⟨c0,c1,c2⟩:w.cell? ⟨g,0,none⟩=some (.int .i64 k)∧w.cell? ⟨g,1,none⟩=some (.int .i64 n)∧w.cell? ⟨g,2,none⟩=some (.slice A ks.length c):=⟨hb.at_ (i:=0) rfl,hb.at_ (i:=1) rfl,hb.at_ (i:=2) rfl⟩;obtain ⟨v',w',hrun,hown,hg,_,hat⟩:=run_append_own_at (P:=prog) w B 23 ty 25 i _ 3 40 Tryz.underlying23 hi hz hz1 hz2 rfl (by omega) v ts.length xs k1 ⟨g,0,none⟩ 1 cc [.int .i64 k,.int .i64 n,.slice A ks.length c] rfl (by
  intro j u hj;match j,hj with
  | 0,hj=>simp only [List.getElem?_cons_zero,Option.some.injEq] at hj;subst hj;simpa [Addr.add] using c0
  | 1,hj=>simp only [List.getElem?_cons_succ,List.getElem?_cons_zero,Option.some.injEq] at hj;subst hj;simpa [Addr.add] using c1
  | 2,hj=>simp only [List.getElem?_cons_succ,List.getElem?_cons_zero,Option.some.injEq] at hj;subst hj;simpa [Addr.add] using c2) (by
  intro u hu;simp only [List.mem_cons,List.not_mem_nil,or_false] at hu
  rcases hu with rfl|rfl|rfl<;>rfl) (by simp only [maxLen];omega) (by omega) (by omega)
 have hsz:=hg.size;have hne:∀b,b<w.heap.size→v.ownBlock≠some b→v'.ownBlock≠some b:=by
  intro b hb hv e;rcases hat with e'|e'
  ·exact hv (e'.symm.trans e)
  ·rw [e'] at e;injection e with e;omega
 have hst:∀b,PB lo B w v b→PB lo B w' v' b:=fun b hb=>⟨hb.1,by have:=hb.2.1;omega,hne b hb.2.1 hb.2.2⟩
 have hkp:∀b,PB lo B w v b→b<w.heap.size→w'.heap[b]?=w.heap[b]?:=fun b hb hl=>hg.block b hl (fun e=>hb.2.2 e.symm)
 have hr':RdP (PB lo B w' v') w' A 0 ks:=((hr.mono (q:=PB lo B w v) hq).blocks hkp).mono hst;refine ⟨v',w',hrun,⟨xs++[.int .i64 k,.int .i64 n,.slice A ks.length c],by simpa using hown,RdX.append (show RdX (PB lo B w' v') w' [.mk k n ks] _ from ⟨A,c,[],rfl,hl,hr',rfl⟩) (h2.keep hst hkp)⟩,?_,hg,hne⟩;exact ⟨hg.os,hg.tape,hg.output,hg.size,fun k hk=>hg.block k (by omega) (fun e=>by have:=hge k e.symm;omega)⟩
theorem cC (hp:PartR lo B w v ts)(hB:B≤w.heap.size)(hr:RdP q w A 0 ks)(hq:∀b,q b→PB lo B w v b)(hl:ks.length≤9223372036854775807){m:Nat}(hm:ts.length=m)(hlen:m≤1099511627776)(g cc:Nat)
  (hb : Blk w g (Ro k n A ks.length c))
  {ops:Array Oper} {rest:List Oper} {o:Oper} {a:Act} {Q:Exit→Act→World→Prop} (hgd:o.guard=none) (s x:Operand)
  (ho : o.op = .call { callee := .builtin .append, args := #[s, x], argTypes := #[23, 23] }) (hse : a.eval s = v) (hx : a.eval x = .slice (some ⟨g, 0, none⟩) 1 cc)
  (h : ∀ A' c' w', PartR lo B w' (.slice A' (m + 1) c') (ts ++ [.mk k n ks]) → Below B w w' → w.grownBy w' v.ownBlock → (∀ b, b < w.heap.size → v.ownBlock ≠ some b → (Value.slice A' (m + 1) c').ownBlock ≠ some b) → wpList prog ops Q rest (a.put o.dst (.slice A' (m + 1) c')) w') :
  wpList prog ops Q (o::rest) a w:=by
 subst hm;refine wpList_plain hgd fun K hK=>?_
 obtain ⟨v',w',hrun,h2,h3,h4,h5⟩:=vA (k:=k) (n:=n) (c:=c) hp hB hr hq hl hlen g cc hb o.type;unfold Oper.wp execOp
 simp only [ho,resolve,invoke,builtin,Sem.run_bind,Sem.run_pure,Result.andThen_ok,List.map_toArray,List.map_cons,List.map_nil,hse,hx,hrun]
 obtain ⟨A',c',rfl⟩:=h2.shape;rw [List.length_append] at h2⊢;exact hK _ _ (h A' c' w' h2 h3 h4 (by rw [List.length_append] at h5;exact h5))
end
section
variable {p:Nat→Prop}{w:World}{l:List Tm}{L:Option Addr}{cl g:Nat}
theorem sM (hg:w.heap[g]?=some (.cells #[] 25 (0,0)))(hl:RdP p w L 0 l)(hp:∀b,p b→b<w.heap.size∧b≠g)(hlen:l.length≤1099511627776)(ty:TypeId) :
  ∃v' w',(Builtin.append_ #[23,23] ty #[.slice (some ⟨g,0,none⟩) 0 0,.slice L l.length cl]).run prog w = .ok v' w'∧PartR p g w' v' l∧w.grownBy w' (some g):=by
 have hgw:g<w.heap.size:=(Array.getElem?_eq_some_iff.1 hg).1;obtain ⟨i,hi,hz,hz1,hz2⟩:=info_parts jT;have k1:w.ownsRow g 25 3 (.slice (some ⟨g,0,none⟩) 0 0) 0 []:=⟨by simp,.inr ⟨g,0,#[],rfl,iD _,hg,iD _,by simp [maxLen],by simp,by simp⟩⟩;cases l with
 | nil=>
  refine ⟨.slice (some ⟨g,0,none⟩) 0 0,w,run_append_nothing w 23 23 ty 25 i Tryz.underlying23 hi _ 0 0 (iD _) _ ⟨.inl ⟨25,Tryz.underlying23⟩,fun w'=>by simp [Builtin.lenOf],by cases L<;>simp [Builtin.firstCells,loadCells,loadCellsFrom],by cases L<;>simp [Builtin.firstCells,loadCells,loadCellsFrom],by simp,fun u hu=>by cases hu⟩,⟨[],k1,rfl⟩,gG _ _⟩
 | cons t ts=>
  obtain ⟨⟨b,off,rfl,_⟩,_⟩:=RdP.cons_iff.1 hl;obtain ⟨x1,hx,hc⟩:=yY hl;obtain ⟨v',w',hrun,hown,hgr,_,hat⟩:=run_append_own_at (P:=prog) w g 23 ty 25 i _ 3 40 Tryz.underlying23 hi hz hz1 hz2 rfl (by omega) _ 0 [] k1 ⟨b,off,none⟩ (t::ts).length cl x1 hx.length (fun j u hj=>by
    have:=hc j u hj;rw [show Addr.add ⟨b,off,none⟩ j=⟨b,off+0*3+j,none⟩ from by simp only [Addr.add];split<;>simp_all];exact this) hx.oneC (by simp only [maxLen];omega) (by omega) (by omega)
  rw [Nat.zero_add,List.nil_append] at hown;have hsz:=hgr.size;have hvo:∀b,b<w.heap.size→b≠g→v'.ownBlock≠some b:=by
   intro b hb hbg e;rcases hat with e'|e'
   ·rw [e'] at e;injection e with e;exact hbg e.symm
   ·rw [e'] at e;injection e with e;omega
  exact ⟨v',w',hrun,⟨x1,hown,hx.keep (fun b hb=>⟨.inl hb,by have:=(hp b hb).1;omega,hvo b (hp b hb).1 (hp b hb).2⟩) fun b hb hl=>hgr.block b hl (fun e=>(hp b hb).2 (by injection e))⟩,hgr⟩
end
abbrev Prs:=List Tm × List Tm
def aTi (x y:Tm):List Tm→List Tm→Option Nat
 | l::ls,r::rs=>if (jO l x && jO r y)=true then some 0 else (aTi x y ls rs).map (·+1)
 | _,_=>none
def aIj (H:Nat→Tm)(d:Int)(t u:Tm)(st:Prs):Option (Tm × Prs):=
 match cP (-d) 0 t,cP (-d) 0 u with
 | some x,some y=>(match aTi x y st.1 st.2 with|some i=>some (H i,st)|none=>some (H st.1.length,(st.1++[x],st.2++[y])))
 | _,_=>none
mutual
def cm (H:Nat→Tm):Int→Tm→Tm→Prs→Option (Tm × Prs)
 | d,.mk k n ks,u,st=>
  if u.k=k∧u.n=n∧u.kids.length=ks.length then
   (match cmL H k d 0 ks u.kids st with
    | some (os,st')=>some (.mk k n os,st')
    | none=>aIj H d (.mk k n ks) u st)
  else aIj H d (.mk k n ks) u st
def cmL (H:Nat→Tm):Int→Int→Nat→List Tm→List Tm→Prs→Option (List Tm × Prs)
 | k,d,i,t::ts,u::us,st=>
  (match cm H (d + aO k i) t u st with
   | none=>none
   | some (o,st')=>(match cmL H k d (i+1) ts us st' with|none=>none|some (os,st2)=>some (o::os,st2)))
 | _,_,_,_,_,st=>some ([],st)
end
def PrsOk (m:Nat)(st:Prs):Prop:=st.1.length=st.2.length∧st.1.length≤m∧(∀x,x∈st.1→x.size≤400)∧(∀x,x∈st.2→x.size≤400)
theorem PrsOk.mono {m m':Nat}{st:Prs}(h:PrsOk m st)(hm:m≤m'):PrsOk m' st:=⟨h.1,Nat.le_trans h.2.1 hm,h.2.2⟩
def nbd:Tm→Bool
 | .mk _ n ks=>decide (0≤n) && decide (n≤1000000) && nbds ks
where nbds:List Tm→Bool|[]=>true|t::ts=>nbd t && nbds ts
theorem lE {B n:Nat}{w w':World}{v:Value}{xs:List Value}(h:w.ownsRow B 25 3 v n xs)(hk:∀g,v.ownBlock=some g→w'.heap[g]?=w.heap[g]?):w'.ownsRow B 25 3 v n xs:=by
 refine ⟨h.1,?_⟩;rcases h.2 with hn|⟨g,cap,cur,rfl,hb,hg,r⟩
 ·exact .inl hn
 ·exact .inr ⟨g,cap,cur,rfl,hb,(hk g rfl).trans hg,r⟩
def P2 (B:Nat)(E:Nat→Prop)(w:World)(v1 v2:Value)(b:Nat):Prop:=B≤b∧b<w.heap.size∧v1.ownBlock≠some b∧v2.ownBlock≠some b∧¬E b
structure Rows2 (B:Nat) (E:Nat→Prop) (w:World) (v1 v2:Value) (l r:List Tm):Prop where
 body:∃xs ys,w.ownsRow B 25 3 v1 l.length xs∧w.ownsRow B 25 3 v2 r.length ys∧RdX (P2 B E w v1 v2) w l xs∧RdX (P2 B E w v1 v2) w r ys
 apart:∀g,v1.ownBlock=some g→v2.ownBlock≠some g
 e1:∀g,v1.ownBlock=some g→¬E g
 e2:∀g,v2.ownBlock=some g→¬E g
section
variable {B:Nat}{E E':Nat→Prop}{w w':World}{v1 v2:Value}{l r:List Tm}
theorem Rows2.symm (h:Rows2 B E w v1 v2 l r):Rows2 B E w v2 v1 r l:=by
 obtain ⟨⟨xs,ys,h1,h2,h3,h4⟩,h5,h6,h7⟩:=h;have hp:∀b,P2 B E w v1 v2 b→P2 B E w v2 v1 b:=fun b hb=>⟨hb.1,hb.2.1,hb.2.2.2.1,hb.2.2.1,hb.2.2.2.2⟩
 exact ⟨⟨ys,xs,h2,h1,h4.keep hp fun _ _ _=>rfl,h3.keep hp fun _ _ _=>rfl⟩,fun g hg hg'=>h5 g hg' hg,h7,h6⟩
theorem Rows2.nil:Rows2 B E w (.slice none 0 0) (.slice none 0 0) [] []:=⟨⟨[],[],World.ownsRow_nil _ _ _ _,World.ownsRow_nil _ _ _ _,rfl,rfl⟩,fun g hg=>(by cases hg),fun g hg=>(by cases hg),fun g hg=>(by cases hg)⟩
theorem Rows2.own (h:Rows2 B E w v1 v2 l r):(∀g,v1.ownBlock=some g→B≤g∧g<w.heap.size)∧(∀g,v2.ownBlock=some g→B≤g∧g<w.heap.size):=by
 obtain ⟨⟨xs,ys,h1,h2,_⟩,_⟩:=h;exact ⟨fun g hg=>h1.lt g hg,fun g hg=>h2.lt g hg⟩
theorem Rows2.mono (h:Rows2 B E w v1 v2 l r)(he:∀b,b<w.heap.size→E' b→E b):Rows2 B E' w v1 v2 l r:=by
 have ho:=h.own;obtain ⟨⟨xs,ys,h1,h2,h3,h4⟩,h5,h6,h7⟩:=h;have hp:∀b,P2 B E w v1 v2 b→P2 B E' w v1 v2 b:=fun b hb=>⟨hb.1,hb.2.1,hb.2.2.1,hb.2.2.2.1,fun e=>hb.2.2.2.2 (he b hb.2.1 e)⟩
 exact ⟨⟨xs,ys,h1,h2,h3.keep hp fun _ _ _=>rfl,h4.keep hp fun _ _ _=>rfl⟩,h5,fun g hg e=>h6 g hg (he g (ho.1 g hg).2 e),fun g hg e=>h7 g hg (he g (ho.2 g hg).2 e)⟩
theorem Rows2.frame (h:Rows2 B E w v1 v2 l r)(hs:w.heap.size≤w'.heap.size)(hk:∀b,B≤b→b<w.heap.size→¬E b→w'.heap[b]?=w.heap[b]?):Rows2 B E w' v1 v2 l r:=by
 have ho:=h.own;obtain ⟨⟨xs,ys,h1,h2,h3,h4⟩,h5,h6,h7⟩:=h;have hp:∀b,P2 B E w v1 v2 b→P2 B E w' v1 v2 b:=fun b hb=>⟨hb.1,kT hb.2.1 hs,hb.2.2⟩
 exact ⟨⟨xs,ys,lE h1 fun g hg=>hk g (ho.1 g hg).1 (ho.1 g hg).2 (h6 g hg),lE h2 fun g hg=>hk g (ho.2 g hg).1 (ho.2 g hg).2 (h7 g hg),h3.keep hp fun b hb hl=>hk b hb.1 hl hb.2.2.2.2,h4.keep hp fun b hb hl=>hk b hb.1 hl hb.2.2.2.2⟩,h5,h6,h7⟩
theorem Rows2.below (h:Rows2 B E w v1 v2 l r)(hb:Bw w w'):Rows2 B E w' v1 v2 l r:=h.frame hb.size fun b _ hl _=>hb.block b hl
theorem Rows2.alloc (h:Rows2 B E w v1 v2 l r)(o:Obj):Rows2 B E (w.alloc o) v1 v2 l r:=h.below (bw1)
theorem Rows2.drew (h:Rows2 B E w v1 v2 l r):Rows2 B E w.drew v1 v2 l r:=h.below (dV _ _).drew
theorem Rows2.setCell (h:Rows2 B E w v1 v2 l r){a:Addr}(ha:a.block<B∨E a.block∨w.heap.size≤a.block)(u:Value):Rows2 B E (w.setCell a u) v1 v2 l r:=h.frame (by simp) fun b hb hl he=>lR w a u b (by
 rcases ha with ha|ha|ha
 ·omega
 ·exact fun e=>he (e▸ha)
 ·omega)
theorem Rows2.grown {row:Option Nat}(h:Rows2 B E w v1 v2 l r)(hg:w.grownBy w' row)(hr:∀g,row=some g→g<B∨E g):Rows2 B E w' v1 v2 l r:=h.frame hg.size fun b hb hl he=>hg.block b hl (fun e=>by
 rcases hr b e.symm with h1|h1
 ·omega
 ·exact he h1)
theorem sU {p:Nat→Prop}{B n:Nat}{w:World}{v:Value}{ts:List Tm}{xs:List Value}(h1:w.ownsRow B 25 3 v ts.length xs)(h2:RdX p w ts xs)(hp:∀b,p b→B≤b):∃A c,v = .slice A ts.length c∧RdP (fun b=>B≤b) w A 0 ts:=by
 rcases h1.2 with ⟨rfl,h0⟩|⟨g,cap,cur,rfl,hb,hg,_,_,_,htk⟩
 ·have:ts=[]:=lEn h0;subst this;exact ⟨none,0,rfl,RdP.nil⟩
 ·refine ⟨_,_,rfl,RdX.rdp hb (h2.keep hp fun _ _ _=>rfl) fun j u hu=>?_⟩;rw [show 0+0*3+j=j by omega,cell_of_row w g j cur 25 (0,0) hg];rw [← htk,List.getElem?_take] at hu;split at hu
  ·simpa using hu
  ·cases hu
theorem Rows2.rd (h:Rows2 B E w v1 v2 l r):∃A1 c1 A2 c2,v1 = .slice A1 l.length c1∧v2 = .slice A2 r.length c2∧RdP (fun b=>B≤b) w A1 0 l∧RdP (fun b=>B≤b) w A2 0 r:=by
 obtain ⟨⟨xs,ys,h1,h2,h3,h4⟩,h5,_⟩:=h;obtain ⟨A1,c1,e1,r1⟩:=sU (n:=0) h1 h3 fun b hb=>hb.1
 obtain ⟨A2,c2,e2,r2⟩:=sU (n:=0) h2 h4 fun b hb=>hb.1
 exact ⟨A1,c1,A2,c2,e1,e2,r1,r2⟩
theorem RdX.take {p:Nat→Prop}{w:World}{us:List Tm}:∀{ts:List Tm} {xs:List Value},RdX p w (ts++us) xs→RdX p w ts (xs.take (ts.length*3))
 | [],xs,h=>by simp [RdX]
 | .mk k n ks::ts,xs,h=>by
  obtain ⟨A,c,ys,rfl,hl,hr,hx⟩:=h;refine ⟨A,c,ys.take (ts.length*3),?_,hl,hr,hx.take⟩;rw [List.length_cons,Nat.succ_mul];simp [List.take]
theorem qZ {n m c:Nat}{A:Option Addr}{xs:List Value}(h:w.ownsRow B 25 3 (.slice A n c) n xs)(hm:m≤n):w.ownsRow B 25 3 (.slice A m c) m (xs.take (m*3)):=by
 refine ⟨by rw [List.length_take,h.1];omega,?_⟩;rcases h.2 with ⟨e,h0⟩|⟨g,cap,cur,e,hb,hg,h1,h2,h3,h4⟩
 ·injection e with e1 e2 e3;subst e1 e3;obtain rfl:m=0:=by omega
  exact .inl ⟨rfl,rfl⟩
 ·injection e with e1 e2 e3;subst e1 e3;exact .inr ⟨g,c,cur,rfl,hb,hg,by omega,h2,h3,by rw [← h4,List.take_take,Nat.min_eq_left (by omega)]⟩
theorem Rows2.take {A1 A2:Option Addr}{c1 c2:Nat}{m1 m2:List Tm}(h:Rows2 B E w (.slice A1 (l++m1).length c1) (.slice A2 (r++m2).length c2) (l++m1) (r++m2)):Rows2 B E w (.slice A1 l.length c1) (.slice A2 r.length c2) l r:=by
 obtain ⟨⟨xs,ys,h1,h2,h3,h4⟩,h5,h6,h7⟩:=h;have e1:∀n m,(Value.slice A1 n c1).ownBlock=(Value.slice A1 m c1).ownBlock:=fun n m=>by cases A1<;>rfl
 have e2:∀n m,(Value.slice A2 n c2).ownBlock=(Value.slice A2 m c2).ownBlock:=fun n m=>by cases A2<;>rfl
 have hp:∀b,P2 B E w (.slice A1 (l++m1).length c1) (.slice A2 (r++m2).length c2) b→P2 B E w (.slice A1 l.length c1) (.slice A2 r.length c2) b:=fun b hb=>⟨hb.1,hb.2.1,by rw [e1 _ (l++m1).length];exact hb.2.2.1,by rw [e2 _ (r++m2).length];exact hb.2.2.2.1,hb.2.2.2.2⟩
 refine ⟨⟨_,_,qZ h1 (by simp),qZ h2 (by simp),(h3.take).keep hp fun _ _ _=>rfl,(h4.take).keep hp fun _ _ _=>rfl⟩,fun g hg hg'=>h5 g ?_ ?_,fun g hg=>h6 g ?_,fun g hg=>h7 g ?_⟩
 ·rw [e1 _ l.length];exact hg
 ·rw [e2 _ r.length];exact hg'
 ·rw [e1 _ l.length];exact hg
 ·rw [e2 _ r.length];exact hg
end
mutual
def eH:Tm→Option (List Int)
 | .mk k n ks=>if cT k ks=0 then iN 0 ks else some []
def iN:Int→List Tm→Option (List Int)
 | _,[]=>none
 | i,t::ts=>match eH t with|some p=>some (i::p)|none=>iN (i+1) ts
end
def fB (k:Int):Int:=if k=5∨k=15∨k=16 then 0 else if k=9 then 3 else if k=12 then 1 else -1
mutual
def bS:Tm→Option (List Int)
 | .mk k n ks=>if cT k ks=0 then (if fB k<0 then none else (iE (fB k).toNat ks).map (fB k::·)) else some []
def iE:Nat→List Tm→Option (List Int)
 | _,[]=>none
 | 0,t::_=>bS t
 | i+1,_::ts=>iE i ts
end
def iL:Tm→List Int→Tm→Tm
 | _,[],u=>u
 | .mk k n ks,i::is,u=>.mk k n (ks.set i.toNat (iL (ks.getD i.toNat default) is u))
def vO (t:Tm):Option Tm:=if aE t=true then some t else none
def aL (ks:List Tm)(i:Nat):Tm:=ks.getD i default
def oV:Tm→Option Tm
 | .mk k n ks=>
  if cT k ks=1 then eC 0 (aL ks 1) (aL (aL ks 0).ks 1)
  else if cT k ks=2 then vO (aL ks 1)
  else if cT k ks=3 then vO (.mk 5 0 [.mk 5 0 [aL ks 2,aL (aL ks 3).ks 0],.mk 9 0 [aL ks 0,aL ks 1,aL ks 2,aL (aL ks 3).ks 0]])
  else if cT k ks=4 then vO (aL ks 2)
  else if cT k ks=5 then vO (aL (aL ks 0).ks 1)
  else if cT k ks=6 then vO (aL (aL ks 0).ks 2)
  else none
def lL (t:Tm)(p:List Int):Option Tm:=
 match eP t p with
 | none=>none
 | some u=>match oV u with|none=>none|some v=>vO (iL t p v)
def redI (find:Tm→Option (List Int)):Nat→Tm→Option Tm × Int
 | fuel,t=>match find t with
  | none=>(some t,0)
  | some p=>match fuel with
   | 0=>(none,1)
   | fuel+1=>match lL t p with
    | none=>(none,2)
    | some t'=>redI find fuel t'
def lU (fuel:Nat)(a b:Tm):Int:=
 if jO a b=true then 1 else
  if (redI eH fuel a).2≠0∨(redI eH fuel b).2≠0 then 3 else
   if jO ((redI eH fuel a).1.getD (.mk 0 0 [])) ((redI eH fuel b).1.getD (.mk 0 0 []))=true then 1 else 2
def Way (find:Tm→Option (List Int)):Prop:=∀t p,find t=some p→∃k n ks,eP t p=some (.mk k n ks)∧cT k ks≠0
theorem oE {k n:Int}{ks:List Tm}{j:Nat}{p:List Int}(hj:j<ks.length):eP (.mk k n ks) ((j:Int)::p)=eP ks[j] p:=by
 rw [eP,if_pos ⟨by omega,by simpa [Tm.kids] using hj⟩];simp [Tm.kids,List.getD,iG hj]
theorem aKs:Way eH:=by
 have h:(∀t p,eH t=some p→∃k n ks,eP t p=some (.mk k n ks)∧cT k ks≠0)∧
   (∀(ts:List Tm) (i:Nat) p,iN i ts=some p→∃(j:Nat) (q:List Int) (h:j<ts.length),p=((i+j:Nat):Int)::q∧∃k n ks,eP ts[j] q=some (.mk k n ks)∧cT k ks≠0):=by
  refine bM (fun k n ks ih p hp=>?_) (fun i p hp=>?_) (fun t ts h1 h2 i p hp=>?_)
  ·rw [eH] at hp;split at hp
   ·obtain ⟨j,q,hj,rfl,h⟩:=ih 0 p hp;rw [Nat.zero_add,oE hj];exact h
   ·rename_i hr
    injection hp with hp;subst hp;exact ⟨k,n,ks,rfl,hr⟩
  ·rw [iN] at hp;cases hp
  ·rw [iN] at hp;cases h:eH t with
   | some q=>
    rw [h] at hp;injection hp with hp;subst hp;exact ⟨0,q,by simp,by simp,h1 q h⟩
   | none=>
    rw [h] at hp;obtain ⟨j,q,hj,rfl,h3⟩:=h2 (i+1) p (by simpa using hp);refine ⟨j+1,q,by simp;omega,by congr 1;omega,?_⟩;simpa using h3
 exact h.1
theorem aFx:Way bS:=by
 have h:(∀t p,bS t=some p→∃k n ks,eP t p=some (.mk k n ks)∧cT k ks≠0)∧
   (∀(ts:List Tm) (i:Nat) p,iE i ts=some p→∃h:i<ts.length,∃k n ks,eP ts[i] p=some (.mk k n ks)∧cT k ks≠0):=by
  refine bM (fun k n ks ih p hp=>?_) (fun i p hp=>?_) (fun t ts h1 h2 i p hp=>?_)
  ·rw [bS] at hp;split at hp
   ·split at hp
    ·cases hp
    ·rename_i hm
     cases h:iE (fB k).toNat ks with
     | none=>rw [h] at hp;cases hp
     | some q=>
      rw [h] at hp;injection hp with hp;subst hp;obtain ⟨hj,h3⟩:=ih _ _ h;rw [show fB k=((fB k).toNat:Int) from by omega,oE (by simpa using hj)];simpa using h3
   ·rename_i hr
    injection hp with hp;subst hp;exact ⟨k,n,ks,rfl,hr⟩
  ·rw [iE] at hp;cases hp
  ·cases i with
   | zero=>rw [iE] at hp;exact ⟨by simp,by simpa using h1 p hp⟩
   | succ i=>
    rw [iE] at hp;obtain ⟨hj,h3⟩:=h2 i p hp;exact ⟨by simp;omega,by simpa using h3⟩
 exact h.1
theorem kJ {t u:Tm}(h:vO t=some u):aE u=true:=by
 unfold vO at h
 split at h
 ·injection h with h;subst h;assumption
 ·cases h
theorem fV {x:Int}{u t v:Tm}(h:eC x u t=some v):aE v=true:=by
 unfold eC at h
 split at h
 ·split at h
  ·injection h with h;subst h;assumption
  ·cases h
 ·cases h
theorem aCw {t u:Tm}(h:oV t=some u):aE u=true:=by
 obtain ⟨k,n,ks⟩:=t;rw [oV] at h;split at h
 ·exact fV h
 repeat (split at h;· exact kJ h)
 cases h
theorem pO {t u:Tm}{p:List Int}(h:lL t p=some u):aE u=true:=by
 unfold lL at h
 split at h
 ·cases h
 ·split at h
  ·cases h
  ·exact kJ h
theorem vC {find:Tm→Option (List Int)}:∀(fuel:Nat) (t u:Tm) (c:Int),aE t=true→redI find fuel t=(some u,c)→aE u=true
 | fuel,t,u,c,hv,h=>by
  rw [redI] at h;split at h
  ·injection h with h1 h2;injection h1 with h1;subst h1;exact hv
  ·split at h
   ·cases h
   ·split at h
    ·cases h
    ·exact vC _ _ _ _ (pO (by assumption)) h
section
variable {u:Tm}(hsu:shape 30 u=true)
include hsu
theorem aTb (t:Tm):∀(q:Nat) (d:Int),0≤d→shape q t=true→eZ (oW 0 u) d t=true→chg (sbF 0 u) d t=jB u d d t:=by
 refine Tm.rec (motive_1:=fun t=>∀(q:Nat) (d:Int),0≤d→shape q t=true→eZ (oW 0 u) d t=true→chg (sbF 0 u) d t=jB u d d t)
  (motive_2 := fun ts => ∀ (q : Nat) (k d : Int) (i : Nat), 0 ≤ d → (∀ t, t ∈ ts → shape q t = true) → dW (oW 0 u) k d i ts = true → gM (sbF 0 u) k d i ts = dQ u k d d i ts) ?_ ?_ ?_ t
 ·intro k n ks ih q d hd h hok;obtain ⟨q',rfl,ha,h0,h1,hk⟩:=cG h;rw [eZ] at hok;rw [chg,jB];by_cases h1:k=1
  ·subst h1;have:=tS ha;subst this;rw [if_pos rfl] at hok⊢;unfold oW at hok
   unfold sbF
   by_cases h2:n=d
   ·rw [if_pos (show n - d=0 by omega)] at hok⊢;rw [if_pos (show (1:Int)=1∧n=d from ⟨rfl,h2⟩)];exact nN hsu hok
   ·rw [if_neg (show ¬n - d=0 by omega),if_neg (show ¬((1:Int)=1∧n=d) from fun h=>h2 h.2)];by_cases h3:d<n
    ·rw [if_pos (show 0<n - d by omega),if_pos (show (1:Int)=1∧d<n from ⟨rfl,h3⟩)];rfl
    ·rw [if_neg (show ¬0<n - d by omega),if_neg (show ¬((1:Int)=1∧d<n) from fun h=>h3 h.2)];rfl
  ·rw [if_neg h1] at hok⊢;rw [if_neg (by rintro ⟨h,-⟩;exact h1 h),if_neg (by rintro ⟨h,-⟩;exact h1 h),ih q' k d 0 hd hk hok]
 ·intro q k d i _ _ _;rfl
 ·intro t ts h1 h2 q k d i hd hk hok;rw [dW,Bool.and_eq_true] at hok;rw [gM,dQ,h1 q _ (by have:=eA k i;omega) (hk t List.mem_cons_self) hok.1,h2 q k d (i+1) hd (fun t ht=>hk t (List.mem_cons_of_mem _ ht)) hok.2]
theorem aOk (t:Tm):∀(q p:Nat) (d:Int),0≤d→p≤30→shape q t=true→shape p (jB u d d t)=true→(jB u d d t).size≤400→eZ (oW 0 u) d t=true:=by
 refine Tm.rec (motive_1:=fun t=>∀(q p:Nat) (d:Int),0≤d→p≤30→shape q t=true→shape p (jB u d d t)=true→(jB u d d t).size≤400→eZ (oW 0 u) d t=true)
  (motive_2 := fun ts => ∀ (q p : Nat) (k d : Int) (i : Nat), 0 ≤ d → p ≤ 30 → (∀ t, t ∈ ts → shape q t = true) → (∀ t, t ∈ dQ u k d d i ts → shape p t = true) → aG (dQ u k d d i ts) ≤ 400 → dW (oW 0 u) k d i ts = true) ?_ ?_ ?_ t
 ·intro k n ks ih q p d hd hp h hs hz;obtain ⟨q',rfl,ha,h0,h1,hk⟩:=cG h;rw [eZ];rw [jB] at hs hz;by_cases h1:k=1
  ·subst h1;rw [if_pos rfl];unfold oW
   by_cases h2:n=d
   ·rw [if_pos (show n - d=0 by omega)];rw [if_pos (show (1:Int)=1∧n=d from ⟨rfl,h2⟩)] at hs hz;refine xI hd hsu ?_;rw [aE,qV hp _ hs,decide_eq_true hz];rfl
   ·rw [if_neg (show ¬n - d=0 by omega)]
  ·rw [if_neg h1];have hn:¬(k=1∧n=d):=by rintro ⟨h,-⟩;exact h1 h
   rw [if_neg hn] at hs hz;obtain ⟨p',rfl,hpa,hp0,hp1,hpk⟩:=cG hs;rw [Tm.size] at hz;exact ih q' p' k d 0 hd (by omega) hk hpk (by omega)
 ·intro q p k d i _ _ _ _ _;rfl
 ·intro t ts h1 h2 q p k d i hd hp hk hs hz;rw [dQ] at hs hz;rw [aG] at hz;rw [dW,h1 q p _ (by have:=eA k i;omega) hp (hk t List.mem_cons_self) (hs _ List.mem_cons_self) (by omega),h2 q p k d (i+1) hd hp (fun t ht=>hk t (List.mem_cons_of_mem _ ht)) (fun t ht=>hs t (List.mem_cons_of_mem _ ht)) (by omega)];rfl
end
theorem aY {t:Tm}(h:aE t=true):shape 30 t=true:=by simp only [aE,Bool.and_eq_true] at h;exact h.1
theorem kK {u t:Tm}(hu:aE u=true)(ht:aE t=true):eC 0 u t=vO (jB u 0 0 t):=by
 have hsu:=aY hu;unfold eC vO
 by_cases hv:aE (jB u 0 0 t)=true
 ·have h2:(jB u 0 0 t).size≤400:=by simp only [aE,Bool.and_eq_true,decide_eq_true_eq] at hv;exact hv.2
  have hok:=aOk hsu t 30 30 0 (Int.le_refl _) (iD _) (aY ht) (aY hv) h2;rw [if_pos hok,aTb hsu t 30 0 (Int.le_refl _) (aY ht) hok,if_pos hv]
 ·rw [if_neg hv];by_cases hok:eZ (oW 0 u) 0 t=true
  ·rw [if_pos hok,aTb hsu t 30 0 (Int.le_refl _) (aY ht) hok,if_neg hv]
  ·rw [if_neg hok]
def jL:Tm→Tm
 | .mk k n ks=>
  if cT k ks=1 then jB (aL ks 1) 0 0 (aL (aL ks 0).ks 1)
  else if cT k ks=2 then aL ks 1
  else if cT k ks=3 then .mk 5 0 [.mk 5 0 [aL ks 2,aL (aL ks 3).ks 0],.mk 9 0 [aL ks 0,aL ks 1,aL ks 2,aL (aL ks 3).ks 0]]
  else if cT k ks=4 then aL ks 2
  else if cT k ks=5 then aL (aL ks 0).ks 1
  else aL (aL ks 0).ks 2
theorem aJg {ks:List Tm}{i:Nat}(h:i<ks.length):aL ks i∈ks:=by
 rw [aL,List.getD_eq_getElem?_getD,iG h];exact fG h
theorem eW {k n:Int}{ks:List Tm}(h:aE (.mk k n ks)=true):aW k=(ks.length:Int):=by
 obtain ⟨q,_,ha,_,_,_⟩:=cG (aY h);exact ha
theorem aS {k n:Int}{ks:List Tm}{i:Nat}(h:aE (.mk k n ks)=true)(hi:i<ks.length):aE (aL ks i)=true:=aX h (aJg hi)
theorem aSf (k:Int)(ks:List Tm):0≤cT k ks∧cT k ks≤6:=by unfold cT;repeat' split<;>omega
theorem aNr {k:Int}{ks:List Tm}(h:cT k ks=1):k=5∧lI ks 0=4:=by
 unfold cT at h
 repeat' split at h
 all_goals first|(exact absurd h (by decide))|(constructor<;>assumption)
theorem aLu (ks:List Tm)(i:Nat)(h:i<ks.length):lI ks i=(aL ks i).k:=by
 rw [aL,List.getD_eq_getElem?_getD,iG h];simp [lI,h]
theorem xZ {k n:Int}{ks:List Tm}(hv:aE (.mk k n ks)=true)(hr:cT k ks≠0):oV (.mk k n ks)=vO (jL (.mk k n ks)):=by
 have hle:=aSf k ks;rw [oV,jL];by_cases h1:cT k ks=1
 ·rw [if_pos h1,if_pos h1];obtain ⟨rfl,h4⟩:=aNr h1;have ha:aW 5=(ks.length:Int):=eW hv;have hl:ks.length=2:=by have h5:aW 5=2:=rfl;omega
  have hv0:=aS (i:=0) hv (by omega);have hv1:=aS (i:=1) hv (by omega);rw [aLu ks 0 (by omega)] at h4;generalize aL ks 0=t0 at hv0 h4
  obtain ⟨k0,n0,ks0⟩:=t0;have h4:k0=4:=h4;subst h4;have ha0:aW 4=(ks0.length:Int):=eW hv0;have hl0:ks0.length=2:=by have h5:aW 4=2:=rfl;omega
  exact kK hv1 (aS (i:=1) hv0 (show 1<ks0.length by omega))
 ·rw [if_neg h1,if_neg h1];by_cases h2:cT k ks=2
  ·rw [if_pos h2,if_pos h2]
  rw [if_neg h2,if_neg h2];by_cases h3:cT k ks=3
  ·rw [if_pos h3,if_pos h3]
  rw [if_neg h3,if_neg h3];by_cases h4:cT k ks=4
  ·rw [if_pos h4,if_pos h4]
  rw [if_neg h4,if_neg h4];by_cases h5:cT k ks=5
  ·rw [if_pos h5,if_pos h5]
  rw [if_neg h5,if_neg h5,if_pos (by omega)]
mutual
def eL:Tm→Option Tm
 | .mk k n ks=>if cT k ks=0 then (kI ks).map (Tm.mk k n) else some (jL (.mk k n ks))
def kI:List Tm→Option (List Tm)
 | []=>none
 | t::ts=>match eL t with|some u=>some (u::ts)|none=>(kI ts).map (t::·)
end
def iO:Nat→Tm→Option Tm × Int
 | fuel,t=>match eL t with
  | none=>(some t,0)
  | some t'=>match fuel with
   | 0=>(none,1)
   | fuel+1=>if aE t'=true then iO fuel t' else (none,2)
theorem wY {k n:Int}{ks:List Tm}{j:Nat}{p:List Int}{u:Tm}(hj:j<ks.length):iL (.mk k n ks) ((j:Int)::p) u = .mk k n (ks.set j (iL ks[j] p u)):=by
 rw [iL];simp [List.getD,iG hj]
theorem out_step:(∀t:Tm,(eH t=none→eL t=none)∧∀p,eH t=some p→∃k n ks,eP t p=some (.mk k n ks)∧cT k ks≠0∧eL t=some (iL t p (jL (.mk k n ks))))∧
  (∀ (ts : List Tm) (i : Nat), (iN i ts = none → kI ts = none) ∧ ∀ p, iN i ts = some p → ∃ (j : Nat) (q : List Int) (h : j < ts.length), p = ((i + j : Nat) : Int) :: q ∧ ∃ k n ks, eP ts[j] q = some (.mk k n ks) ∧ cT k ks ≠ 0 ∧ kI ts = some (ts.set j (iL ts[j] q (jL (.mk k n ks))))) := by
 refine bM (fun k n ks ih=>⟨fun h=>?_,fun p hp=>?_⟩) (fun i=>⟨fun h=>rfl,fun p hp=>?_⟩) (fun t ts h1 h2 i=>⟨fun h=>?_,fun p hp=>?_⟩)
 ·rw [eH] at h;rw [eL];split at h
  ·rename_i hr
   rw [if_pos hr,(ih 0).1 h];rfl
  ·cases h
 ·rw [eH] at hp;rw [eL];split at hp
  ·rename_i hr
   obtain ⟨j,q,hj,rfl,k1,n1,ks1,ha,hr1,hs⟩:=(ih 0).2 p hp;refine ⟨k1,n1,ks1,?_,hr1,?_⟩
   ·rw [Nat.zero_add,oE hj];exact ha
   ·rw [if_pos hr,hs,Nat.zero_add,wY hj];rfl
  ·rename_i hr
   injection hp with hp;subst hp;exact ⟨k,n,ks,rfl,hr,by rw [if_neg hr];rfl⟩
 ·rw [iN] at hp;cases hp
 ·rw [iN] at h;rw [kI];cases ho:eH t with
  | some q=>rw [ho] at h;cases h
  | none=>
   rw [ho] at h;rw [h1.1 ho,(h2 (i+1)).1 (by simpa using h)];rfl
 ·rw [iN] at hp;rw [kI];cases ho:eH t with
  | some q=>
   rw [ho] at hp;injection hp with hp;subst hp;obtain ⟨k1,n1,ks1,ha,hr1,hs⟩:=h1.2 q ho;exact ⟨0,q,by simp,by simp,k1,n1,ks1,ha,hr1,by rw [hs];rfl⟩
  | none=>
   rw [ho] at hp;obtain ⟨j,q,hj,rfl,k1,n1,ks1,ha,hr1,hs⟩:=(h2 (i+1)).2 p (by simpa using hp);refine ⟨j+1,q,by simp;omega,by congr 1;omega,k1,n1,ks1,by simpa using ha,hr1,?_⟩;rw [h1.1 ho,hs];simp
theorem pJ:∀(p:List Int) (t u v:Tm),eP t p=some u→aE (iL t p v)=true→aE v=true
 | [],t,u,v,h,hv=>hv
 | i::is,.mk k n ks,u,v,h,hv=>by
  rw [eP] at h;split at h
  ·rename_i hi
   have hj:i.toNat<ks.length:=by have h2:=hi.2;simp only [Tm.kids] at h2;omega
   rw [iL] at hv;refine pJ is _ u v h (aX hv ?_);exact List.mem_iff_getElem.2 ⟨i.toNat,by simpa using hj,by simp [Tm.kids]⟩
  ·cases h
theorem sB {t:Tm}(h:¬aE t=true):vO t=none:=by rw [vO,if_neg h]
theorem iA {t:Tm}(h:aE t=true):vO t=some t:=by rw [vO,if_pos h]
theorem aKc {t:Tm}{p:List Int}(hv:aE t=true)(hp:eH t=some p):∃t',eL t=some t'∧lL t p=vO t':=by
 obtain ⟨k,n,ks,ha,hr,hs⟩:=(out_step.1 t).2 p hp;refine ⟨_,hs,?_⟩;have hu:=gU ha hv;rw [lL,ha];simp only [xZ hu hr]
 by_cases hc:aE (jL (.mk k n ks))=true
 ·rw [iA hc]
 ·rw [sB hc,sB (fun h=>hc (pJ p t _ _ ha h))]
theorem rS:∀(fuel:Nat) (t:Tm),aE t=true→iO fuel t=redI eH fuel t
 | fuel,t,hv=>by
  rw [iO,redI];cases hp:eH t with
  | none=>rw [(out_step.1 t).1 hp]
  | some p=>
   obtain ⟨t',hs,hc⟩:=aKc hv hp;rw [hs];cases fuel with
   | zero=>rfl
   | succ fuel=>
    simp only [hc]
    by_cases h:aE t'=true
    ·rw [if_pos h,iA h];exact rS fuel t' h
    ·rw [if_neg h,sB h]
def dU (l:List UInt8):ByteArray:=⟨l.toArray⟩
theorem fQ {a b:ByteArray}(h:a.data.toList=b.data.toList):Ending.returned (.string a) = .returned (.string b):=by
 rw [ByteArray.ext (Array.ext' h)]
theorem aEb (a b:List UInt8)(h:a.length+b.length≤1000000)(w:World):(Op.stringOp .add (dU a) (dU b)).run prog w = .ok (.string (dU (a++b))) w:=by
 rw [run_string_add_sum w _ _ (by simp [dU,ByteArray.size];omega)];unfold dU
 rw [ByteArray.mk_append_mk]
theorem aEa (n:Int)(c:UInt8)(h:0≤n∧n≤9∧(c.toNat:Int)=48+n)(w:World):Calls prog 144 #[.int .i64 n] w fun e w'=>e = .returned (.string (dU [c]))∧Bw w w':=by
 have hcv:=aD (run_convert_bytes_back (P:=prog) (w.alloc (.cells #[.int .u8 (48+n)] 5)) 22 9 5 ⟨w.heap.size,0,none⟩ 1 [c] Tryz.underlying22 Tryz.underlying5 Tryz.underlying9 (fun j hj=>by
  have:j=0:=by simpa using hj
  subst this;simp [Addr.add,h.2.2]))
 have hcv2:(convert 22 9 (.slice (some ⟨w.heap.size,0,none⟩) 1 1)).run prog (w.alloc (.cells #[.int .u8 (48+n)] 5)) = .ok (.string (dU [c])) (w.alloc (.cells #[.int .u8 (48+n)] 5)):=hcv.out;have hu8:IntKind.u8.wrap (48+n)=48+n:=IntWalk.u8_in _ (by omega);have hd1:decide (n < -9223372036854775807)=false:=decide_eq_false (by omega);have hd2:decide (n<0)=false:=decide_eq_false (by omega);have hd3:decide (9<n)=false:=decide_eq_false (by omega);obtain ⟨h1,h2,h3⟩:=h;have h3':=aD h3;clear hcv h3;go_enter func144,ntmps144;go_wp2
 go_loop [0,3] (fun a v=>a = .int .i64 n∧v = .string (dU [])) (fun _ _=>0)
 case atStart=>exact ⟨rfl,rfl⟩
 case round=>
  obtain ⟨rfl,rfl⟩:=hrel;have hadd:=fun w=>aEb [c] [] (by simp) w
  go_wp2
  go_ret
  exact ⟨rfl,bw1⟩
def fY (k n:Int)(ks:List Tm)(b:List UInt8):Prop:=∀(A:Option Addr) (c:Nat) (w:World),b.length≤100000→Rd w A 0 ks→
 Calls prog 131 #[.agg (Ro k n A ks.length c)] w fun e w'=>e = .returned (.string (dU b))∧Bw w w'
theorem aKr (n:Int)(c:UInt8)(h:0≤n∧n≤9∧(c.toNat:Int)=48+n):fY 1 n [] [35,c]:=by
 intro A cc w _ _;have hsz:(dU [c]).size≤1000:=by simp [dU,ByteArray.size]
 have h9:0≤n∧n≤9∧(c.toNat:Int)=48+n:=⟨h.1,by omega,h.2.2⟩;clear h;go_enter func131,ntmps131;go_wp2_with (go_at_call 144;refine (aEa n c h9 _).mono ?_;rintro e w1 ⟨rfl,hb1⟩)
 go_ret
 exact ⟨fQ (by simp [dU]),bw1.trans (hb1.mono (by simp))⟩
theorem aFc (n:Int)(c:UInt8)(h:0≤n∧n≤3∧(c.toNat:Int)=48+n):fY 2 n [] [42,c]:=by
 intro A cc w _ _;have hsz:(dU [c]).size≤1000:=by simp [dU,ByteArray.size]
 have h9:0≤n∧n≤9∧(c.toNat:Int)=48+n:=⟨h.1,by omega,h.2.2⟩;clear h;go_enter func131,ntmps131;go_wp2_with (go_at_call 144;refine (aEa n c h9 _).mono ?_;rintro e w1 ⟨rfl,hb1⟩)
 go_ret
 exact ⟨fQ (by simp [dU]),bw1.trans (hb1.mono (by simp))⟩
theorem aLg:fY 6 0 [] [78]:=by
 intro A cc w _ _;go_enter func131,ntmps131;go_wp2
 go_ret
 exact ⟨fQ (by simp [dU]),bw1⟩
theorem aHx:fY 7 0 [] [48]:=by
 intro A cc w _ _;go_enter func131,ntmps131;go_wp2
 go_ret
 exact ⟨fQ (by simp [dU]),bw1⟩
theorem aJd {k:Int}{c:UInt8}{k1 n1:Int}{ks1:List Tm}{b:List UInt8}(h:aQx k c)(ih:fY k1 n1 ks1 b):fY k 0 [.mk k1 n1 ks1] (c::b):=by
 intro A cc w hl hr;obtain ⟨bb,off,k',n',ks',A',c',rfl,hk,hc1,hc2,hc3,hl',hr'⟩:=hr.at_ (j:=0) (by simp);injection hk with h1 h2 h3;subst h1 h2 h3;simp only [Nat.zero_mul,Nat.add_zero] at hc1 hc2 hc3
 have hb:b.length≤100000:=by simp at hl;omega
 have hsz:(dU b).size≤100000:=by simpa [dU,ByteArray.size] using hb
 have ih':=aD ih;have bl:bb<w.heap.size:=jN w _ hc1;clear ih hr;rcases h with ⟨rfl,rfl⟩|⟨rfl,rfl⟩|⟨rfl,rfl⟩|⟨rfl,rfl⟩
 all_goals
  go_enter func131,ntmps131;go_wp2_with (go_at_call 131;refine (ih'.out A' c' _ hb (hr'.alloc _)).mono ?_;rintro e w1 ⟨rfl,hb1⟩)
  go_ret
  exact ⟨fQ (by simp [dU]),bw1.trans (hb1.mono (by simp))⟩
theorem cN {a b r:List UInt8}(hr:r=a++b)(h:a.length+b.length≤1000000)(w:World):(Op.stringOp .add (dU a) (dU b)).run prog w = .ok (.string (dU r)) w:=by subst hr;exact aEb a b h w
theorem aLt {k:Int}{c:UInt8}{k1 n1:Int}{ks1:List Tm}{x:List UInt8}{k2 n2:Int}{ks2:List Tm}{y:List UInt8}(h:aSh k c)(ih1:fY k1 n1 ks1 x)(ih2:fY k2 n2 ks2 y):fY k 0 [.mk k1 n1 ks1,.mk k2 n2 ks2] (40::(x++c::(y++[41]))):=by
 intro A cc w hl hr;obtain ⟨bb,off,k',n',ks',A',c',rfl,hk,hc1,hc2,hc3,hl',hr'⟩:=hr.at_ (j:=0) (by simp);obtain ⟨b2,o2,k3,n3,ks3,A2,c2,hA,hk2,hd1,hd2,hd3,hl2,hr2⟩:=hr.at_ (j:=1) (by simp);injection hA with hA;injection hA with h8 h9;subst h8 h9;injection hk with h1 h2 h3;subst h1 h2 h3;injection hk2 with h1 h2 h3;subst h1 h2 h3;simp only [Nat.zero_mul,Nat.add_zero,Nat.one_mul] at hc1 hc2 hc3 hd1 hd2 hd3
 have hbx1:x.length≤100000:=by simp at hl;omega
 have hby1:y.length≤100000:=by simp at hl;omega
 have ih1':=aD ih1;have ih2':=aD ih2;have bl:bb<w.heap.size:=jN w _ hc1;clear ih1 ih2 hr;rcases h with ⟨rfl,rfl⟩|⟨rfl,rfl⟩|⟨rfl,rfl⟩
 ·have a1:∀w,(Op.stringOp .add ⟨#[40]⟩ (dU x)).run prog w = .ok (.string (dU (40::x))) w:=fun w=>cN (a:=[40]) rfl (by simp;omega) w
  have a2:∀w,(Op.stringOp .add (dU (40::x)) ⟨#[62]⟩).run prog w = .ok (.string (dU (40::(x++[62])))) w:=fun w=>cN (a:=40::x) (b:=[62]) rfl (by simp;omega) w
  have a3:∀w,(Op.stringOp .add (dU (40::(x++[62]))) (dU y)).run prog w = .ok (.string (dU (40::(x++62::y)))) w:=fun w=>cN (a:=40::(x++[62])) (b:=y) (by simp) (by simp;omega) w
  have a4:∀w,(Op.stringOp .add (dU (40::(x++62::y))) ⟨#[41]⟩).run prog w = .ok (.string (dU (40::(x++62::(y++[41]))))) w:=fun w=>cN (a:=40::(x++62::y)) (b:=[41]) (by simp) (by simp;omega) w
  go_enter func131,ntmps131;go_wp2_with fail
  refine aT ?_;intro wx hwx;have hbx:Bw w wx:=by rw [hwx];exact bw1
  have hX:Blk wx w.heap.size (Ro 3 0 (some ⟨bb,off,none⟩) 2 cc):=by rw [hwx];exact aC _ _ _ rfl
  have y0:=aF ((bR hbx) _ _ hc1);have y1:=aF ((bR hbx) _ _ hc2);have y2:=aF ((bR hbx) _ _ hc3);have z0:=aF ((bR hbx) _ _ hd1);have z1:=aF ((bR hbx) _ _ hd2);have z2:=aF ((bR hbx) _ _ hd3);have x2:=hX.rule (i:=2) rfl;have sm1:=fun (w':World) (hw':Bw wx w')=>ih1'.out A' c' w' hbx1 ((hr'.below hbx).below hw')
  have sm2:=fun (w':World) (hw':Bw wx w')=>ih2'.out A2 c2 w' hby1 ((hr2.below hbx).below hw')
  clear hwx;refine bX (fun w'=>Below (wx).heap.size wx w') (by kernel_rfl) (by kernel_rfl) (dV _ _).drew ?_;repeat (first|refine qS ?_|refine qO ?_|refine qB 131 (hc:=fun w' hS'=>by with_reducible exact sm1 w' hS') (h:=?_)|refine qB 131 (hc:=fun w' hS'=>by with_reducible exact sm2 w' hS') (h:=?_))
  refine dR ?_;intro wa hx1;clear sm1 sm2 y0 y1 y2 z0 z1 z2 x2;go_wp2_with fail
  go_ret
  exact ⟨fQ (by simp [dU]),hbx.trans (hx1.mono hbx.size)⟩
 ·have a1:∀w,(Op.stringOp .add ⟨#[40]⟩ (dU x)).run prog w = .ok (.string (dU (40::x))) w:=fun w=>cN (a:=[40]) rfl (by simp;omega) w
  have a2:∀w,(Op.stringOp .add (dU (40::x)) ⟨#[42]⟩).run prog w = .ok (.string (dU (40::(x++[42])))) w:=fun w=>cN (a:=40::x) (b:=[42]) rfl (by simp;omega) w
  have a3:∀w,(Op.stringOp .add (dU (40::(x++[42]))) (dU y)).run prog w = .ok (.string (dU (40::(x++42::y)))) w:=fun w=>cN (a:=40::(x++[42])) (b:=y) (by simp) (by simp;omega) w
  have a4:∀w,(Op.stringOp .add (dU (40::(x++42::y))) ⟨#[41]⟩).run prog w = .ok (.string (dU (40::(x++42::(y++[41]))))) w:=fun w=>cN (a:=40::(x++42::y)) (b:=[41]) (by simp) (by simp;omega) w
  go_enter func131,ntmps131;go_wp2_with fail
  refine aT ?_;intro wx hwx;have hbx:Bw w wx:=by rw [hwx];exact bw1
  have hX:Blk wx w.heap.size (Ro 13 0 (some ⟨bb,off,none⟩) 2 cc):=by rw [hwx];exact aC _ _ _ rfl
  have y0:=aF ((bR hbx) _ _ hc1);have y1:=aF ((bR hbx) _ _ hc2);have y2:=aF ((bR hbx) _ _ hc3);have z0:=aF ((bR hbx) _ _ hd1);have z1:=aF ((bR hbx) _ _ hd2);have z2:=aF ((bR hbx) _ _ hd3);have x2:=hX.rule (i:=2) rfl;have sm1:=fun (w':World) (hw':Bw wx w')=>ih1'.out A' c' w' hbx1 ((hr'.below hbx).below hw')
  have sm2:=fun (w':World) (hw':Bw wx w')=>ih2'.out A2 c2 w' hby1 ((hr2.below hbx).below hw')
  clear hwx;refine bX (fun w'=>Below (wx).heap.size wx w') (by kernel_rfl) (by kernel_rfl) (dV _ _).drew ?_;repeat (first|refine qS ?_|refine qO ?_|refine qB 131 (hc:=fun w' hS'=>by with_reducible exact sm1 w' hS') (h:=?_)|refine qB 131 (hc:=fun w' hS'=>by with_reducible exact sm2 w' hS') (h:=?_))
  refine dR ?_;intro wa hx1;clear sm1 sm2 y0 y1 y2 z0 z1 z2 x2;go_wp2_with fail
  go_ret
  exact ⟨fQ (by simp [dU]),hbx.trans (hx1.mono hbx.size)⟩
 ·have a1:∀w,(Op.stringOp .add ⟨#[40]⟩ (dU x)).run prog w = .ok (.string (dU (40::x))) w:=fun w=>cN (a:=[40]) rfl (by simp;omega) w
  have a2:∀w,(Op.stringOp .add (dU (40::x)) ⟨#[32]⟩).run prog w = .ok (.string (dU (40::(x++[32])))) w:=fun w=>cN (a:=40::x) (b:=[32]) rfl (by simp;omega) w
  have a3:∀w,(Op.stringOp .add (dU (40::(x++[32]))) (dU y)).run prog w = .ok (.string (dU (40::(x++32::y)))) w:=fun w=>cN (a:=40::(x++[32])) (b:=y) (by simp) (by simp;omega) w
  have a4:∀w,(Op.stringOp .add (dU (40::(x++32::y))) ⟨#[41]⟩).run prog w = .ok (.string (dU (40::(x++32::(y++[41]))))) w:=fun w=>cN (a:=40::(x++32::y)) (b:=[41]) (by simp) (by simp;omega) w
  go_enter func131,ntmps131;go_wp2_with fail
  refine aT ?_;intro wx hwx;have hbx:Bw w wx:=by rw [hwx];exact bw1
  have hX:Blk wx w.heap.size (Ro 5 0 (some ⟨bb,off,none⟩) 2 cc):=by rw [hwx];exact aC _ _ _ rfl
  have y0:=aF ((bR hbx) _ _ hc1);have y1:=aF ((bR hbx) _ _ hc2);have y2:=aF ((bR hbx) _ _ hc3);have z0:=aF ((bR hbx) _ _ hd1);have z1:=aF ((bR hbx) _ _ hd2);have z2:=aF ((bR hbx) _ _ hd3);have x2:=hX.rule (i:=2) rfl;have sm1:=fun (w':World) (hw':Bw wx w')=>ih1'.out A' c' w' hbx1 ((hr'.below hbx).below hw')
  have sm2:=fun (w':World) (hw':Bw wx w')=>ih2'.out A2 c2 w' hby1 ((hr2.below hbx).below hw')
  clear hwx;refine bX (fun w'=>Below (wx).heap.size wx w') (by kernel_rfl) (by kernel_rfl) (dV _ _).drew ?_;repeat (first|refine qS ?_|refine qO ?_|refine qB 131 (hc:=fun w' hS'=>by with_reducible exact sm1 w' hS') (h:=?_)|refine qB 131 (hc:=fun w' hS'=>by with_reducible exact sm2 w' hS') (h:=?_))
  refine dR ?_;intro wa hx1;clear sm1 sm2 y0 y1 y2 z0 z1 z2 x2;go_wp2_with fail
  go_ret
  exact ⟨fQ (by simp [dU]),hbx.trans (hx1.mono hbx.size)⟩
theorem aJh {k1 n1:Int}{ks1:List Tm}{x:List UInt8}{k2 n2:Int}{ks2:List Tm}{y:List UInt8}(ih1:fY k1 n1 ks1 x)(ih2:fY k2 n2 ks2 y):fY 4 0 [.mk k1 n1 ks1,.mk k2 n2 ks2] (91::(x++93::y)):=by
 intro A cc w hl hr;obtain ⟨bb,off,k',n',ks',A',c',rfl,hk,hc1,hc2,hc3,hl',hr'⟩:=hr.at_ (j:=0) (by simp);obtain ⟨b2,o2,k3,n3,ks3,A2,c2,hA,hk2,hd1,hd2,hd3,hl2,hr2⟩:=hr.at_ (j:=1) (by simp);injection hA with hA;injection hA with h8 h9;subst h8 h9;injection hk with h1 h2 h3;subst h1 h2 h3;injection hk2 with h1 h2 h3;subst h1 h2 h3;simp only [Nat.zero_mul,Nat.add_zero,Nat.one_mul] at hc1 hc2 hc3 hd1 hd2 hd3
 have hbx1:x.length≤100000:=by simp at hl;omega
 have hby1:y.length≤100000:=by simp at hl;omega
 have ih1':=aD ih1;have ih2':=aD ih2;have bl:bb<w.heap.size:=jN w _ hc1;clear ih1 ih2 hr;have a1:∀w,(Op.stringOp .add ⟨#[91]⟩ (dU x)).run prog w = .ok (.string (dU (91::x))) w:=fun w=>cN (a:=[91]) rfl (by simp;omega) w
 have a2:∀w,(Op.stringOp .add (dU (91::x)) ⟨#[93]⟩).run prog w = .ok (.string (dU (91::(x++[93])))) w:=fun w=>cN (a:=91::x) (b:=[93]) rfl (by simp;omega) w
 have a3:∀w,(Op.stringOp .add (dU (91::(x++[93]))) (dU y)).run prog w = .ok (.string (dU (91::(x++93::y)))) w:=fun w=>cN (a:=91::(x++[93])) (b:=y) (by simp) (by simp;omega) w
 go_enter func131,ntmps131;go_wp2_with fail
 refine aT ?_;intro wx hwx;have hbx:Bw w wx:=by rw [hwx];exact bw1
 have hX:Blk wx w.heap.size (Ro 4 0 (some ⟨bb,off,none⟩) 2 cc):=by rw [hwx];exact aC _ _ _ rfl
 have y0:=aF ((bR hbx) _ _ hc1);have y1:=aF ((bR hbx) _ _ hc2);have y2:=aF ((bR hbx) _ _ hc3);have z0:=aF ((bR hbx) _ _ hd1);have z1:=aF ((bR hbx) _ _ hd2);have z2:=aF ((bR hbx) _ _ hd3);have x2:=hX.rule (i:=2) rfl;have sm1:=fun (w':World) (hw':Bw wx w')=>ih1'.out A' c' w' hbx1 ((hr'.below hbx).below hw')
 have sm2:=fun (w':World) (hw':Bw wx w')=>ih2'.out A2 c2 w' hby1 ((hr2.below hbx).below hw')
 clear hwx;refine bX (fun w'=>Below (wx).heap.size wx w') (by kernel_rfl) (by kernel_rfl) (dV _ _).drew ?_;repeat (first|refine qS ?_|refine qO ?_|refine qB 131 (hc:=fun w' hS'=>by with_reducible exact sm1 w' hS') (h:=?_)|refine qB 131 (hc:=fun w' hS'=>by with_reducible exact sm2 w' hS') (h:=?_))
 refine dR ?_;intro wa hx1;clear sm1 sm2 y0 y1 y2 z0 z1 z2 x2;go_wp2_with fail
 go_ret
 exact ⟨fQ (by simp [dU]),hbx.trans (hx1.mono hbx.size)⟩
def jn:List (List UInt8)→List UInt8
 | []=>[]
 | [b]=>b
 | b::bs=>b++44::jn bs
theorem aCu (b d:List UInt8)(bs:List (List UInt8)):jn (b::d::bs)=b++44::jn (d::bs):=by simp [jn]
theorem zH (x:List UInt8):∀{xs:List (List UInt8)},xs≠[]→jn (xs++[x])=jn xs++44::x
 | [],h=>absurd rfl h
 | [b],_=>by simp [jn]
 | b::d::bs,_=>by
  have:=zH x (xs:=d::bs) (by simp);rw [List.cons_append,List.cons_append,aCu,aCu,← List.cons_append,this];simp
theorem aJu (c:UInt8):∀{xs:List (List UInt8)},xs≠[]→gY c xs=jn xs++[c]
 | [],h=>absurd rfl h
 | [b],_=>by simp [gY,jn]
 | b::d::bs,_=>by rw [aBb,aCu,aJu c (xs:=d::bs) (by simp)];simp
theorem aPi (x:List UInt8)(xs:List (List UInt8)):(jn xs).length+x.length≤(jn (xs++[x])).length:=by
 by_cases h:xs=[]
 ·subst h;simp [jn]
 ·rw [zH x h];simp only [List.length_append,List.length_cons];omega
theorem aOl {xs:List (List UInt8)}{j:Nat}(hj:j<xs.length):(jn (xs.take j)).length+xs[j].length≤(jn xs).length:=by
 have h:∀m,j+1+m≤xs.length→(jn (xs.take j)).length+xs[j].length≤(jn (xs.take (j+1+m))).length:=by
  intro m;induction m with
  | zero=>intro _;rw [Nat.add_zero,oR hj];exact aPi _ _
  | succ m ih=>
   intro hm;have:=ih (by omega);rw [show j+1+(m+1)=(j+1+m)+1 from by omega,oR (by omega:j+1+m<xs.length)];have:=aPi (xs[j+1+m]'(by omega)) (xs.take (j+1+m));omega
 have:=h (xs.length - (j+1)) (by omega);rw [show j+1+(xs.length - (j+1))=xs.length from by omega,List.take_length] at this;exact this
theorem aLo (ts:List Tm)(xs:List (List UInt8))(hl:xs.length=ts.length)(hl4:ts.length≤1000)(hj:(jn xs).length≤100000)
  (ih : ∀ (j : Nat) (k n : Int) (ks : List Tm) (x : List UInt8), ts[j]? = some (.mk k n ks) → xs[j]? = some x → fY k n ks x) (A : Option Addr) (c : Nat) (w : World) (hr : Rd w A 0 ts) :
  Calls prog 145 #[.slice A ts.length c] w fun e w'=>e = .returned (.string (dU (jn xs)))∧Bw w w':=by
 have hl':=aD hl;have ih':=aD ih;clear hl ih;go_enter func145,ntmps145;go_wp2
 go_loopw [3,4] (fun v jv wr=>∃j:Nat,j≤ts.length∧jv = .int .i64 j∧v = .string (dU (jn (xs.take j)))∧Bw w wr) (fun _ jv _=>ts.length - (intOf jv).toNat)
 case atStart=>exact ⟨0,Nat.zero_le _,rfl,rfl,dV _ _⟩
 case round=>
  obtain ⟨j,hjl,rfl,rfl,hb⟩:=hrel;by_cases hlt:j<ts.length
  ·have hlx:j<xs.length:=by have:=hl'.out;omega
   obtain ⟨bb,off,k',n',ks',A',c',rfl,hk,hc1,hc2,hc3,hln,hr'⟩:=(hr.below hb).at_ hlt;obtain ⟨x,hx⟩:∃x,xs[j]=x:=⟨_,rfl⟩;have htk:=aOl hlx;rw [hx] at htk;have htx:=aD (show ts[j]?=some (.mk k' n' ks') by rw [iG hlt,hk]);have hxx:=aD (show xs[j]?=some x by rw [iG hlx,hx]);have hnext:=aD (show xs.take (j+1)=xs.take j++[x] by rw [oR hlx,hx]);have hne:=aD (show 0<j→xs.take j≠[] from fun h e=>by have:=congrArg List.length e;rw [List.length_take] at this;simp only [List.length_nil] at this;omega);have hj0:=aD (show j=0→xs.take j=[] from fun h=>by rw [h];rfl);have hx1:x.length≤100000:=by omega
   have hsub:=aD (fun (w:World) (hr:Rd w A' 0 ks')=>ih'.out j k' n' ks' x htx.out hxx.out A' c' w hx1 hr);clear hk hx;generalize xs.take j=pr at *
   generalize hJ:jn pr=J at *
   have hJ':=aD hJ;clear hJ;by_cases h0:j=0
   ·have q0:decide (0<j)=false:=decide_eq_false (by omega);have q1:¬0<j:=by omega
    have hJn:J=[]:=by rw [← hJ'.out,hj0.out h0];rfl
    subst hJn;have h0':=aD h0;clear h0;have a2:∀w,(Op.stringOp .add (dU []) (dU x)).run prog w = .ok (.string (dU x)) w:=fun w=>cN (a:=[]) rfl (by simp;omega) w
    go_wp2_with (go_at_call 131;refine (hsub.out _ hr').mono ?_;rintro e w1 ⟨rfl,hb1⟩)
    go_roundw
    case rel=>exact ⟨j+1,by omega,by go_num,by rw [hnext.out,hj0.out h0'.out];rfl,hb.trans (hb1.mono hb.size)⟩
    case measure=>simp [intOf];omega
   ·have q0:decide (0<(j:Int))=true:=decide_eq_true (by omega);have a1:∀w,(Op.stringOp .add (dU J) ⟨#[44]⟩).run prog w = .ok (.string (dU (J++[44]))) w:=fun w=>cN (b:=[44]) rfl (by simp;omega) w
    have a2:∀w,(Op.stringOp .add (dU (J++[44])) (dU x)).run prog w = .ok (.string (dU (J++44::x))) w:=fun w=>cN (a:=J++[44]) (by simp) (by simp;omega) w
    go_wp2_with (go_at_call 131;refine (hsub.out _ hr').mono ?_;rintro e w1 ⟨rfl,hb1⟩)
    go_roundw
    case rel=>exact ⟨j+1,by omega,by go_num,by rw [hnext.out,zH x (hne.out (by omega)),hJ'.out],hb.trans (hb1.mono hb.size)⟩
    case measure=>simp [intOf];omega
  ·have hjl:j=ts.length:=by omega
   subst hjl;have hall:=aD (show xs.take ts.length=xs from List.take_of_length_le (by have:=hl'.out;omega));go_wp2
   go_ret
   exact ⟨by rw [hall.out];rfl,hb⟩
theorem aKw {k:Int}{m:Nat}{o:List UInt8}{c:UInt8}(h:aIh k m o c)(ts:List Tm)(xs:List (List UInt8))(hm:ts.length=m)(hx:xs.length=m)
  (ih : ∀ (j : Nat) (k n : Int) (ks : List Tm) (x : List UInt8), ts[j]? = some (.mk k n ks) → xs[j]? = some x → fY k n ks x) : fY k 0 ts (o ++ gY c xs) := by
 intro A cc w hl hr;have hne:xs≠[]:=fun e=>by subst e;rcases h with ⟨_,rfl,_,_⟩|⟨_,rfl,_,_⟩|⟨_,rfl,_,_⟩|⟨_,rfl,_,_⟩<;>simp at hx
 have hm4:ts.length≤4:=by rcases h with ⟨_,rfl,_,_⟩|⟨_,rfl,_,_⟩|⟨_,rfl,_,_⟩|⟨_,rfl,_,_⟩<;>omega
 rw [aJu c hne] at hl⊢;have hjl:(jn xs).length≤100000:=by simp only [List.length_append,List.length_cons] at hl;omega
 have hlist:=aD (fun w (hr:Rd w A 0 ts)=>aLo ts xs (by omega) (by omega) hjl ih A cc w hr);clear ih hx hne hl;generalize jn xs=J at *
 have hm':=aD hm;rcases h with ⟨rfl,rfl,rfl,rfl⟩|⟨rfl,rfl,rfl,rfl⟩|⟨rfl,rfl,rfl,rfl⟩|⟨rfl,rfl,rfl,rfl⟩
 ·clear hm;have a1:∀w,(Op.stringOp .add ⟨#[60]⟩ (dU J)).run prog w = .ok (.string (dU (60::J))) w:=fun w=>cN (a:=[60]) rfl (by simp;omega) w
  have a2:∀w,(Op.stringOp .add (dU (60::J)) ⟨#[62]⟩).run prog w = .ok (.string (dU (60::(J++[62])))) w:=fun w=>cN (a:=60::J) (b:=[62]) rfl (by simp;omega) w
  go_enter func131,ntmps131;go_wp2_with (go_at_call 145;refine (hlist.out _ (hr.alloc _)).mono ?_;rintro e w1 ⟨rfl,hb1⟩)
  go_ret
  exact ⟨fQ (by simp [dU]),bw1.trans (hb1.mono (by simp))⟩
 ·clear hm;have a1:∀w,(Op.stringOp .add ⟨#[123]⟩ (dU J)).run prog w = .ok (.string (dU (123::J))) w:=fun w=>cN (a:=[123]) rfl (by simp;omega) w
  have a2:∀w,(Op.stringOp .add (dU (123::J)) ⟨#[125]⟩).run prog w = .ok (.string (dU (123::(J++[125])))) w:=fun w=>cN (a:=123::J) (b:=[125]) rfl (by simp;omega) w
  go_enter func131,ntmps131;go_wp2_with (go_at_call 145;refine (hlist.out _ (hr.alloc _)).mono ?_;rintro e w1 ⟨rfl,hb1⟩)
  go_ret
  exact ⟨fQ (by simp [dU]),bw1.trans (hb1.mono (by simp))⟩
 ·clear hm;have a1:∀w,(Op.stringOp .add ⟨#[124]⟩ (dU J)).run prog w = .ok (.string (dU (124::J))) w:=fun w=>cN (a:=[124]) rfl (by simp;omega) w
  have a2:∀w,(Op.stringOp .add (dU (124::J)) ⟨#[124]⟩).run prog w = .ok (.string (dU (124::(J++[124])))) w:=fun w=>cN (a:=124::J) (b:=[124]) rfl (by simp;omega) w
  go_enter func131,ntmps131;go_wp2_with (go_at_call 145;refine (hlist.out _ (hr.alloc _)).mono ?_;rintro e w1 ⟨rfl,hb1⟩)
  go_ret
  exact ⟨fQ (by simp [dU]),bw1.trans (hb1.mono (by simp))⟩
 ·clear hm;have a1:∀w,(Op.stringOp .add ⟨#[64,60]⟩ (dU J)).run prog w = .ok (.string (dU (64::60::J))) w:=fun w=>cN (a:=[64,60]) rfl (by simp;omega) w
  have a2:∀w,(Op.stringOp .add (dU (64::60::J)) ⟨#[62]⟩).run prog w = .ok (.string (dU (64::60::(J++[62])))) w:=fun w=>cN (a:=64::60::J) (b:=[62]) rfl (by simp;omega) w
  go_enter func131,ntmps131;go_wp2_with (go_at_call 145;refine (hlist.out _ (hr.alloc _)).mono ?_;rintro e w1 ⟨rfl,hb1⟩)
  go_ret
  exact ⟨fQ (by simp [dU]),bw1.trans (hb1.mono (by simp))⟩
theorem aKl {d:Nat}{t:Tm}{b:List UInt8}(h:Tx d t b):∀(k n:Int) (ks:List Tm),t = .mk k n ks→fY k n ks b:=by
 induction h with
 | var d n c h=>rintro k' n' ks' ⟨⟩;exact aKr n c h
 | sort d n c h=>rintro k' n' ks' ⟨⟩;exact aFc n c h
 | nat d=>rintro k' n' ks' ⟨⟩;exact aLg
 | zero d=>rintro k' n' ks' ⟨⟩;exact aHx
 | pre d k c t b h ht ih=>rintro k' n' ks' ⟨⟩;obtain ⟨k1,n1,ks1⟩:=t;exact aJd h (ih k1 n1 ks1 rfl)
 | rnd d k c t u x y h ht hu i1 i2=>rintro k' n' ks' ⟨⟩;obtain ⟨k1,n1,ks1⟩:=t;obtain ⟨k2,n2,ks2⟩:=u;exact aLt h (i1 k1 n1 ks1 rfl) (i2 k2 n2 ks2 rfl)
 | lam d t u x y ht hu i1 i2=>rintro k' n' ks' ⟨⟩;obtain ⟨k1,n1,ks1⟩:=t;obtain ⟨k2,n2,ks2⟩:=u;exact aJh (i1 k1 n1 ks1 rfl) (i2 k2 n2 ks2 rfl)
 | blk d k m o c ts xs h hm hx ht ih=>rintro k' n' ks' ⟨⟩;exact aKw h ts xs hm hx fun j k n ks x h1 h2=>ih j (.mk k n ks) x h1 h2 k n ks rfl
theorem aI {k n:Int}{ks:List Tm}(h:aE (.mk k n ks)=true):aG ks≤400:=by
 simp only [aE,Bool.and_eq_true,decide_eq_true_eq] at h
 have:=h.2;rw [Tm.size] at this;omega
theorem aDp {t:Tm}{b:List UInt8}{d:Nat}(h:Tx d t b)(k n:Int)(ks:List Tm)(ht:t = .mk k n ks)(hv:aE t=true)(hb:b.length≤100000)(A:Option Addr)(c:Nat)(w:World)(hr:Rd w A 0 ks) :
  Calls prog 110 #[.agg (Ro k n A ks.length c)] w fun e w'=>e = .returned (.string (dU b))∧Bw w w':=by
 have htx:=aD (aKl h k n ks ht);subst ht;have hM:=aI hv;have hv':=aD hv;clear hv h;go_enter func110,ntmps110;go_wp2_with (first
  | (go_at_call 131;refine (htx.out A c _ hb ((hr.alloc _).below hb1)).mono ?_;rintro e w2 ⟨rfl,hb2⟩)
  | (go_at_call 46;refine (aN k n ks A c _ (by omega) (hr.alloc _)).mono ?_;rw [hv'.out];rintro e w1 ⟨rfl,hb1⟩;have hB:=(aC w 25 (Ro k n A ks.length c) rfl).keep hb1;have x0:=hB.at_ (i:=0) rfl;have x1:=hB.at_ (i:=1) rfl;have x2:=hB.at_ (i:=2) rfl))
 go_ret
 exact ⟨rfl,(bw1.trans (hb1.mono (by simp))).trans (hb2.mono (by have:=hb1.size;simp at this;omega))⟩
def eY (t:Tm)(b:List UInt8):Prop:=Tx 30 t b∧aE t=true∧b.length≤1000
def aTp (w:World)(k n:Int)(ks:List Tm)(e:Ending)(w':World):Prop:=
 ∃A c,e = .returned (.tuple #[.agg (Ro k n A ks.length c),.bool true])∧ks.length≤9223372036854775807∧Fresh w.heap.size w' A ks∧Bw w w'
theorem pB {k n:Int}{ks:List Tm}{b:List UInt8}(h:eY (.mk k n ks) b)(w:World):Calls prog 75 #[.string (dU b)] w (aTp w k n ks):=by
 obtain ⟨htx,hv,hb⟩:=h;have hs:(dU b).size=b.length:=by simp [dU,ByteArray.size]
 have hpar:=aD (fun w=>aGq htx k n ks rfl (dU b) 0 0 30 w (by rw [hs];omega) rfl (Has.all b) (Nd.out (by rw [hs];omega)) (by omega) (by omega));have hfm:=aD (fun A c w hr=>aDp htx k n ks rfl hv (by omega) A c w hr);have q1:((dU b).toList==[])=false:=by
  have:=htx.ne;cases b with
  | nil=>exact absurd rfl this
  | cons x xs=>simp [dU]
 have q2:(dU b).toList.isEmpty=false:=by
  have:=htx.ne;cases b with
  | nil=>exact absurd rfl this
  | cons x xs=>simp [dU]
 have q3:((dU b).toList==(dU b).toList)=true:=by simp
 have hpos:0<b.length:=List.length_pos_iff.2 htx.ne;clear htx hv;go_enter func75,ntmps75;go_wp2_with (first
  | (go_at_call 110;refine (hfm.out A1 c1 _ (hf1.rd.alloc _)).mono ?_;rintro e w2 ⟨rfl,hb2⟩;replace hX:=hX.keep hb2;replace hZ:=(hZ.alloc _).keep hb2;have x0:=hX.at_ (i:=0) rfl;have x1:=hX.at_ (i:=1) rfl;have x2:=hX.at_ (i:=2) rfl;have d0:=hZ.at_ (i:=0) rfl;have d1:=hZ.at_ (i:=1) rfl;have d2:=hZ.at_ (i:=2) rfl;obtain ⟨e0,e1,e2⟩:=kS hZ;have lx:=hX.lt;have lz:=hZ.lt)
  | (go_at_call 109;refine (hpar.out _).mono ?_;rintro e w1 ⟨m,A1,c1,hm,rfl,hl1,hf1,hb1⟩;rw [Nat.zero_add] at hm;subst hm;have hZ:=(aC w 25 Zr rfl).keep hb1;have g1:Bw w w1:=bW bw1 hb1;have s1:=g1.size;have hX:=aC w1 25 (Ro k n A1 ks.length c1) rfl;have lz1:=hZ.lt))
 have hf2:=(hf1.alloc (.cells (Ro k n A1 ks.length c1) 25)).below hb2;have g2:Bw w w2:=(g1.alloc (by omega) _).trans (hb2.mono (by simp;omega));refine bodyPost_ret (v:=.tuple #[.agg (Ro k n A1 ks.length c1),.bool true]) (by simp [results,results75,go_sem,d0,d1,d2]) rfl ⟨A1,c1,rfl,hl1,?_,(bV g2)⟩;exact (mW hf2).mono (by simp)
def qI (xs:List (List UInt8)):Array Value:=(xs.map fun x=>Value.string (dU x)).toArray
theorem aBm {xs:List (List UInt8)}{j:Nat}(h:j<xs.length):(qI xs)[j]?=some (.string (dU xs[j])):=by simp [qI,iG h]
theorem zY (ts:List Tm)(xs:List (List UInt8))(hl:xs.length=ts.length)(hl4:ts.length≤1000)(hg:∀(j:Nat) (t:Tm) (x:List UInt8),ts[j]?=some t→xs[j]?=some x→eY t x)(g:Nat)(w:World)(hB:Blk w g (qI xs)) :
  Calls prog 48 #[.slice (some ⟨g,0,none⟩) ts.length ts.length] w (aSr w ts):=by
 have hl':=aD hl;have hg':=aD hg;have hgl:=hB.lt;clear hl hg;go_enter func48,ntmps48;go_wp2_with fail
 go_loopw [3,4] (fun v jv wr=>∃j:Nat,j≤ts.length∧jv = .int .i64 j∧Part w.heap.size wr v (ts.take j)∧Bw w wr) (fun _ jv _=>ts.length - (intOf jv).toNat)
 case atStart=>exact ⟨0,Nat.zero_le _,rfl,Part.empty_ rfl (iD _),bw1⟩
 case round=>
  obtain ⟨j,hjl,rfl,hp,hb⟩:=hrel;by_cases hlt:j<ts.length
  ·have hlx:j<xs.length:=by have:=hl'.out;omega
   obtain ⟨k1,n1,ks1,hk1⟩:∃k n ks,ts[j] = .mk k n ks:=by cases h:ts[j];exact ⟨_,_,_,rfl⟩
   obtain ⟨x,hx⟩:∃x,xs[j]=x:=⟨_,rfl⟩;have hc:=(hB.below hb hgl).at_ (aBm hlx);rw [hx] at hc;have hgood:=aD (fun w=>pB (hg'.out j (.mk k1 n1 ks1) x (by rw [iG hlt,hk1]) (by rw [iG hlx,hx])) w);have hk1':=aD hk1;clear hk1 hx hlx;go_wp2_with (first
    | (at_builtin;refine bQ (B:=w.heap.size) (m:=j) (k:=k1) (n:=n1) (c:=c1) hp (hb1.alloc hb1.size _) (by have:=hb.size;omega) (hf1.alloc _) hl1 (by rw [List.length_take];omega) (by omega) rfl _ _ rfl rfl (by show Value.slice (some ⟨w1.heap.size+1,0,none⟩) 1 1=_;simp) ?_;intro A2 c2 w2 hp2 hb2 hg2)
    | (go_at_call 75;refine (hgood.out _).mono ?_;rintro e w1 ⟨A1,c1,rfl,hl1,hf1,hb1⟩))
   go_roundw
   case rel=>exact ⟨j+1,by omega,by go_num,by rw [oR hlt,hk1'.out];exact hp2,(hb.trans (hb1.mono hb.size)).trans (((dV _ _).alloc (by have:=hb.size;have:=hb1.size;omega) _).trans hb2)⟩
   case measure=>simp [intOf];omega
  ·have hje:j=ts.length:=by omega
   subst hje;rw [List.take_length] at hp;obtain ⟨Ar,cr,rfl,hfr⟩:=hp.fresh;go_wp2_with fail
   go_ret
   exact ⟨Ar,cr,rfl,hfr,hb⟩
inductive NT where
 | var (i:Nat)
 | zero
 | suc (a:NT)
 | app (b a:NT)
 | elim (z s n:NT)
 | part (q:Bool) (a b:NT)
 | mov (x z:NT)
def kN:Tm:=.mk 6 0 []
def NT.tm:NT→Tm
 | .var i=>.mk 1 i []
 | .zero=>.mk 7 0 []
 | .suc a=>.mk 8 0 [a.tm]
 | .app b a=>.mk 5 0 [.mk 4 0 [kN,b.tm],a.tm]
 | .elim z s n=>.mk 9 0 [.mk 4 0 [kN,kN],z.tm,.mk 4 0 [kN,.mk 4 0 [kN,s.tm]],n.tm]
 | .part q a b=>.mk (if q=true then 16 else 15) 0 [.mk 14 0 [.mk 13 0 [kN,kN],a.tm,b.tm]]
 | .mov x z=>.mk 12 0 [.mk 4 0 [kN,kN],.mk 11 0 [x.tm],z.tm]
def NT.ok:Nat→NT→Prop
 | n,.var i=>i<n
 | _,.zero=>True
 | n,.suc a=>a.ok n
 | n,.app b a=>b.ok (n+1)∧a.ok n
 | n,.elim z s m=>z.ok n∧s.ok (n+2)∧m.ok n
 | n,.part _ a b=>a.ok n∧b.ok n
 | n,.mov x z=>x.ok n∧z.ok n
def NT.dp:NT→Nat
 | .var _=>0
 | .zero=>0
 | .suc a=>a.dp
 | .app b a=>max (b.dp+1) a.dp
 | .elim z s n=>max (max z.dp (s.dp+2)) n.dp
 | .part _ a b=>max (max a.dp b.dp) 1
 | .mov x z=>max (max x.dp z.dp) 1
def tU (n q:Nat)(t:Tm):Prop:=∃x:NT,x.ok n∧x.dp≤q∧x.tm=t
theorem aMv {n:Int}(hn:0≤n){q:Nat}{b a:Tm}(hb:tU (n+1).toNat q b)(ha:tU n.toNat q a):tU n.toNat (q+2) (.mk 5 0 [.mk 4 0 [.mk 6 0 [],b],a]):=by
 obtain ⟨x,hx,hx2,rfl⟩:=hb;obtain ⟨y,hy,hy2,rfl⟩:=ha;rw [show (n+1).toNat=n.toNat+1 by omega] at hx;exact ⟨.app x y,⟨hx,hy⟩,by simp only [NT.dp];omega,rfl⟩
theorem aKe {n:Int}(hn:0≤n){q:Nat}{z s m:Tm}(hz:tU n.toNat q z)(hs:tU (n+2).toNat q s)(hm:tU n.toNat q m):tU n.toNat (q+2) (.mk 9 0 [.mk 4 0 [.mk 6 0 [],.mk 6 0 []],z,.mk 4 0 [.mk 6 0 [],.mk 4 0 [.mk 6 0 [],s]],m]):=by
 obtain ⟨x,hx,hx2,rfl⟩:=hz;obtain ⟨y,hy,hy2,rfl⟩:=hs;obtain ⟨v,hv,hv2,rfl⟩:=hm;rw [show (n+2).toNat=n.toNat+2 by omega] at hy;exact ⟨.elim x y v,⟨hx,hy,hv⟩,by simp only [NT.dp];omega,rfl⟩
theorem aIm {n:Int}(hn:0≤n){q:Nat}{k:Int}(hk:k∈([15,16]:List Int)){a b:Tm}(ha:tU n.toNat q a)(hb:tU n.toNat q b):tU n.toNat (q+2) (.mk k 0 [.mk 14 0 [.mk 13 0 [.mk 6 0 [],.mk 6 0 []],a,b]]):=by
 obtain ⟨x,hx,hx2,rfl⟩:=ha;obtain ⟨y,hy,hy2,rfl⟩:=hb;simp only [List.mem_cons,List.not_mem_nil,or_false] at hk
 rcases hk with rfl|rfl
 ·exact ⟨.part false x y,⟨hx,hy⟩,by simp only [NT.dp];omega,rfl⟩
 ·exact ⟨.part true x y,⟨hx,hy⟩,by simp only [NT.dp];omega,rfl⟩
theorem aNa {n:Int}(hn:0≤n){q:Nat}{x z:Tm}(hx:tU n.toNat q x)(hz:tU n.toNat q z):tU n.toNat (q+2) (.mk 12 0 [.mk 4 0 [.mk 6 0 [],.mk 6 0 []],.mk 11 0 [x],z]):=by
 obtain ⟨x,hx,hx2,rfl⟩:=hx;obtain ⟨y,hy,hy2,rfl⟩:=hz;exact ⟨.mov x y,⟨hx,hy⟩,by simp only [NT.dp];omega,rfl⟩
theorem aOu {n:Int}(hn:0≤n){q:Nat}{x:Tm}(hx:tU n.toNat q x):tU n.toNat (q+2) (.mk 8 0 [x]):=by
 obtain ⟨x,hx,hx2,rfl⟩:=hx;exact ⟨.suc x,hx,by simp only [NT.dp];omega,rfl⟩
theorem aLa {n q:Nat}{t:Tm}(h:tU n q t){q':Nat}(hq:q≤q'):tU n q' t:=by
 obtain ⟨x,h1,h2,h3⟩:=h;exact ⟨x,h1,by omega,h3⟩
theorem aOb {n:Int}(hn:0≤n){q:Nat}{m:Nat}(hm:(m:Int)<n):tU n.toNat q (.mk 1 m []):=⟨.var m,show m<n.toNat by omega,Nat.zero_le _,rfl⟩
theorem aAy (n:Nat){q:Nat}:tU n q (.mk 7 0 []):=⟨.zero,trivial,Nat.zero_le _,rfl⟩
inductive Rs (α:Type) where
 | ok (a:α)
 | no (b:Bool)
def gI (b:Bool):Int:=if b=true then 1 else 2
def Rs.cd {α:Type}:Rs α→Int
 | .ok _=>0
 | .no b=>gI b
theorem aJs (b:Bool):gI b≠0:=by cases b<;>decide
def bd {α β:Type}(o:Option (Rs α))(f:α→Option (Rs β)):Option (Rs β):=
 match o with
 | none=>none
 | some (.no b)=>some (.no b)
 | some (.ok a)=>f a
theorem aBi {α β:Type}(a:α)(f:α→Option (Rs β)):bd (some (.ok a)) f=f a:=rfl
theorem cB {α β:Type}{o:Option (Rs α)}{f:α→Option (Rs β)}{r:Rs β}(h:bd o f=some r):(∃b,o=some (.no b)∧r = .no b)∨∃a,o=some (.ok a)∧f a=some r:=by
 cases o with
 | none=>cases h
 | some x=>cases x with
  | no b=>injection h with h;exact .inl ⟨b,rfl,h.symm⟩
  | ok a=>exact .inr ⟨a,rfl,h⟩
def yL (s:Tm):Rs Tm:=if aE s=true then (match (redI bS 200 s).1 with|some o=>.ok o|none=>.no false) else .no false
def smR (a b:Tm):Rs Unit:=if aE a=true∧aE b=true then (if lU 200 a b=1 then .ok () else if lU 200 a b=2 then .no true else .no false) else .no false
abbrev aCp:=List Tm→Tm→Option (Rs Tm)
section
variable (rec_:aCp)(ctx:List Tm)
def aRb (h:Tm):Option (Rs Int):=if h.k=2 then some (.ok h.n) else some (.no true)
def pX (t:Tm):Option (Rs Int):=bd (rec_ ctx t) fun s=>bd (some (yL s)) aRb
def zW (kind:Int)(h:Tm):Option (Rs Tm):=if h.k=kind then some (.ok h) else some (.no true)
def uE (t:Tm)(kind:Int):Option (Rs Tm):=bd (rec_ ctx t) fun s=>bd (some (yL s)) (zW kind)
def jQ (t want:Tm):Option (Rs Unit):=bd (rec_ ctx t) fun s=>some (smR s want)
def aCl (a b:Tm):Option (Rs Tm):=bd (pX rec_ ctx a) fun i=>bd (pX rec_ (ctx++[a]) b) fun j=>some (.ok (.mk 2 (if j<i then i else j) []))
def aSx (a b:Tm):Option (Rs Tm):=bd (pX rec_ ctx a) fun _=>bd (rec_ (ctx++[a]) b) fun u=>bd (aCl rec_ ctx a u) fun _=>some (.ok (.mk 3 0 [a,u]))
def aSz (f u:Tm):Option (Rs Tm):=bd (uE rec_ ctx f 3) fun h=>bd (jQ rec_ ctx u (aL h.ks 0)) fun _=>some (.ok (jB u 0 0 (aL h.ks 1)))
def aQb (h:Tm):Option (Rs Unit):=if h.k=2 then some (.ok ()) else some (.no true)
def aBo (p from_:Tm):Option (Rs Unit):=bd (uE rec_ ctx p 3) fun f=>bd (some (smR (aL f.ks 0) from_)) fun _=>bd (some (yL (aL f.ks 1))) aQb
def nT:Tm:=.mk 6 0 []
def apT (a b:Tm):Tm:=.mk 5 0 [a,b]
def aIv (p:Tm):Tm:=.mk 3 0 [nT,.mk 3 0 [apT (jM 1 0 p) (.mk 1 0 []),apT (jM 2 0 p) (.mk 8 0 [.mk 1 1 []])]]
def aSy (p z s n:Tm):Option (Rs Tm):=bd (aBo rec_ ctx p nT) fun _=>bd (jQ rec_ ctx z (apT p (.mk 7 0 []))) fun _=>bd (jQ rec_ ctx s (aIv p)) fun _=>bd (jQ rec_ ctx n nT) fun _=>some (.ok (apT p n))
def aTe (a x y:Tm):Option (Rs Tm):=bd (pX rec_ ctx a) fun i=>bd (jQ rec_ ctx x a) fun _=>bd (jQ rec_ ctx y a) fun _=>some (.ok (.mk 2 i []))
def aTu (p e z:Tm):Option (Rs Tm):=bd (uE rec_ ctx e 10) fun h=>bd (aBo rec_ ctx p (aL h.ks 0)) fun _=>bd (jQ rec_ ctx z (apT p (aL h.ks 1))) fun _=>some (.ok (apT p (aL h.ks 2)))
def aTd (s a b:Tm):Option (Rs Tm):=bd (pX rec_ ctx s) fun _=>bd (some (yL s)) fun h=>bd (zW 13 h) fun h=>bd (jQ rec_ ctx a (aL h.ks 0)) fun _=>bd (jQ rec_ ctx b (jB a 0 0 (aL h.ks 1))) fun _=>some (.ok s)
def aRo (k:Int)(p:Tm):Option (Rs Tm):=bd (uE rec_ ctx p 13) fun h=>if k=15 then some (.ok (aL h.ks 0)) else some (.ok (jB (.mk 15 0 [p]) 0 0 (aL h.ks 1)))
def aSl (t:Tm):Option (Rs Tm):=bd (jQ rec_ ctx t nT) fun _=>some (.ok nT)
def aTm (a:Tm):Option (Rs Tm):=bd (rec_ ctx a) fun s=>bd (pX rec_ ctx s) fun _=>some (.ok (.mk 10 0 [s,a,a]))
def aFf (n:Int):Option (Rs Tm):=if (ctx.length:Int)≤n then some (.no true) else some (.ok (jM (n+1) 0 (ctx.getD (ctx.length - 1 - n.toNat) default)))
def fT:Tm→Option (Rs Tm)
 | .mk k n ks=>
  if k=3∨k=13 then aCl rec_ ctx (aL ks 0) (aL ks 1)
  else if k=4 then aSx rec_ ctx (aL ks 0) (aL ks 1)
  else if k=5 then aSz rec_ ctx (aL ks 0) (aL ks 1)
  else if k=9 then aSy rec_ ctx (aL ks 0) (aL ks 1) (aL ks 2) (aL ks 3)
  else if k=10 then aTe rec_ ctx (aL ks 0) (aL ks 1) (aL ks 2)
  else if k=12 then aTu rec_ ctx (aL ks 0) (aL ks 1) (aL ks 2)
  else if k=14 then aTd rec_ ctx (aL ks 0) (aL ks 1) (aL ks 2)
  else if k=1 then aFf ctx n
  else if k=2 then (if 3≤n then some (.no true) else some (.ok (.mk 2 (n+1) [])))
  else if k=6 then some (.ok (.mk 2 0 []))
  else if k=7 then some (.ok nT)
  else if k=8 then aSl rec_ ctx (aL ks 0)
  else if k=11 then aTm rec_ ctx (aL ks 0)
  else aRo rec_ ctx k (aL ks 0)
end
def aJm (o:Tm):Option (Rs Tm):=if aE o=true then some (.ok o) else some (.no false)
def bZ:Nat→List Tm→Tm→Option (Rs Tm)
 | 0,_,_=>none
 | N+1,ctx,t=>if aE t=true∧ctx.length≤20 then bd (fT (bZ N) ctx t) aJm else some (.no false)
theorem cO {N:Nat}{ctx:List Tm}{t s:Tm}(h:bZ N ctx t=some (.ok s)):aE s=true:=by
 cases N with
 | zero=>cases h
 | succ N=>
  rw [bZ] at h;split at h
  ·rcases cB h with ⟨b,_,hb⟩|⟨a,_,ha⟩
   ·cases hb
   ·unfold aJm at ha
    split at ha
    ·injection ha with ha;injection ha with ha;subst ha;assumption
    ·injection ha with ha;cases ha
  ·injection h with h;cases h
theorem eT {s o:Tm}(h:yL s = .ok o):aE s=true∧aE o=true∧redI bS 200 s=(some o,0):=by
 unfold yL at h
 split at h
 ·rename_i hv
  split at h
  ·rename_i o' he
   injection h with h;subst h;have h2:∀(f:Nat) (t:Tm),aE t=true→∀o,(redI bS f t).1=some o→aE o=true∧redI bS f t=(some o,0):=by
    intro f;induction f with
    | zero=>
     intro t ht o;rw [redI];cases bS t with
     | none=>intro h;injection h with h;subst h;exact ⟨ht,rfl⟩
     | some p=>intro h;cases h
    | succ f ih=>
     intro t ht o;rw [redI];cases bS t with
     | none=>intro h;injection h with h;subst h;exact ⟨ht,rfl⟩
     | some p=>
      simp only
      cases hc:lL t p with
      | none=>intro h;cases h
      | some t'=>
       refine ih t' ?_ o;unfold lL at hc
       split at hc
       ·cases hc
       ·split at hc
        ·cases hc
        ·unfold vO at hc
         split at hc
         ·injection hc with hc;subst hc;assumption
         ·cases hc
   have:=h2 200 s hv _ he;exact ⟨hv,this.1,this.2⟩
  ·cases h
 ·cases h
def KE (W:World)(z:Nat)(w':World):Prop:=W.heap.size≤w'.heap.size∧∀b,b<W.heap.size→b≠z→w'.heap[b]?=W.heap[b]?
theorem KE.of {W w':World}(z:Nat)(h:Below W.heap.size W w'):KE W z w':=⟨h.size,fun b hb _=>h.block b hb⟩
theorem KE.set {W w':World}{z:Nat}(h:KE W z w')(o:Nat)(v:Value):KE W z (w'.setCell ⟨z,o,none⟩ v):=⟨by simp;exact h.1,fun b hb hz=>(lR _ ⟨z,o,none⟩ _ b hz).trans (h.2 b hb hz)⟩
theorem dT {W:World}{z b o:Nat}{v:Value}(hc:W.cell? ⟨b,o,none⟩=some v)(hz:b≠z):∀w',KE W z w'→w'.cell? ⟨b,o,none⟩=some v:=fun w' h=>by
 have hb:=jN _ _ hc;rw [← hc];simp only [World.cell?,h.2 b hb hz]
theorem rk3 {v w:World}{z b p q r:Nat}{x y u:Value}(k:Below v.heap.size v w)(e:b≠z)(h1:v.cell? ⟨b,p,none⟩=some x)(h2:v.cell? ⟨b,q,none⟩=some y)(h3:v.cell? ⟨b,r,none⟩=some u):(∀t,KE w z t→t.cell? ⟨b,p,none⟩=some x)∧(∀t,KE w z t→t.cell? ⟨b,q,none⟩=some y)∧(∀t,KE w z t→t.cell? ⟨b,r,none⟩=some u):=by
 obtain ⟨a1,a2,a3⟩:=kb3 k h1 h2 h3;exact ⟨dT a1 e,dT a2 e,dT a3 e⟩
theorem rkB {w:World}{z b:Nat}{x y u:Value}(h:Blk w b #[x,y,u])(e:b≠z):(∀t,KE w z t→t.cell? ⟨b,0,none⟩=some x)∧(∀t,KE w z t→t.cell? ⟨b,1,none⟩=some y)∧(∀t,KE w z t→t.cell? ⟨b,2,none⟩=some u):=⟨dT h.three.1 e,dT h.three.2.1 e,dT h.three.2.2 e⟩
section
variable {P:Program}{ops:Array Oper}{Q:Exit→Act→World→Prop}
theorem gBk {id:Nat}{a:Act}(W:World)(z:Nat)(B T:List Nat)(n f:Nat){lT:List Oper}
  (h : ∀ q0, Below W.heap.size W q0 → KE W z q0 → cR P ops (KE W z) (fun a' => gC P ops Q (KE W z) B f (stp T (Array.replicate n false)) a' q0) lT a)
  (hm : P.follows .mixedOrders = true := by kernel_rfl) (hs : ops.size = n := by rfl) (hF : n = T.length + f := by rfl) (hsel : Region.noSelect ops = true := by kernel_rfl)
  (hl : nG ops T (Array.replicate n false) = some (stp T (Array.replicate n false)) := by kernel_rfl) (hpre : (B.all fun j => T.all fun i => pre ops ops.size j i) = true := by kernel_rfl) (hT : rN ops T = lT := by exact rfl)
  (hQ : ∀ c (a : Act) d v w, Q (.panic c) (a.put d v) w → Q (.panic c) a w := by exact fun _ _ d _ _ h => by cases d <;> exact h) : (Code.region id ops true).wp P Q a W :=
 gA _ B n hm hs (iH T (KE.of z (dV _ _).drew) hF hsel hl hpre hT hQ (h W.drew (dV _ _).drew (KE.of z (dV _ _).drew)))
theorem vU {K:Act→World→Prop}{W q0 q1:World}{a:Act}{z:Nat}(b:Below W.heap.size W q0)(hb:Below q0.heap.size q0 q1)(h:Below W.heap.size W q1→q0.heap.size≤q1.heap.size→KE W z q1→K a q1):nU (KE W z) K Q .normal a q1:=
 aH (KE.of z (b.trans (hb.mono b.size))) (h (b.trans (hb.mono b.size)) hb.size (KE.of z (b.trans (hb.mono b.size))))
end
def aCf (v:Tm)(m:Nat)(w:World)(e:Ending)(w':World):Prop:=∃k n ks,v = .mk k n ks∧aSb (fun _=>False) w k n ks e w'∧aG ks+1≤m
theorem vB (n:Int)(t0 t1 t2 t3:Tm)(A:Option Addr)(c:Nat)(w:World)(hM:aG [t0,t1,t2,t3]≤400)(hrd:cT 9 [t0,t1,t2,t3]=2)(hr:Rd w A 0 [t0,t1,t2,t3]) :
  Calls prog 159 #[.agg #[.int .i64 9,.int .i64 n,.slice A ([t0,t1,t2,t3]:List Tm).length c]] w (aCf t1 190000 w):=by
 have hrd:=aD hrd;obtain ⟨b,off,k1,n1,ks1,A1,c1,hA,hk1,p1,q1,r1,hl1,hr1⟩:=hr.at_ (j:=1) (by simp);have hk1:t1 = .mk k1 n1 ks1:=hk1;subst hk1 hA;simp only [Nat.reduceMul,Nat.zero_mul,Nat.add_zero] at p1 q1 r1
 have hsz:aG ks1≤400:=by simp only [aG,Tm.size] at hM;omega
 go_enter func159,ntmps159;go_wp2_with (first
  | (go_at_call 58;have _t:=tok;refine (dF _ k1 n1 ks1 A1 c1 _ (nH _) (by omega) (hr1.keeps K1)).mono ?_;rintro e w2 ⟨A2,c2,rfl,hl2,hf2,hb2⟩;replace hZ:=hZ.keep hb2;obtain ⟨d0,d1,d2,e0,e1,e2⟩:=cA hZ;replace g1:=g1.trans (hb2.mono g1.size))
  | (go_at_call 113;refine (dI 9 n [t0,.mk k1 n1 ks1,t2,t3] _ c _ (by simp) rfl ((hr.alloc _).alloc _)).mono ?_;rw [hrd.out];rintro e w1 ⟨rfl,hb1⟩;have hB:Blk w1 w.heap.size #[.int .i64 9,.int .i64 n,.slice (some ⟨b,off,none⟩) ([t0,.mk k1 n1 ks1,t2,t3]:List Tm).length c]:=((aC w 25 _ rfl).alloc _).keep hb1;have hZ:=bA hb1;have g1:Bw w w1:=bW bw2 hb1;have s1:=hZ.lt;have K1:=bR g1;have x2:=hB.at_ (i:=2) rfl;have tok:=trivial;replace p1:=K1 _ _ p1;replace q1:=K1 _ _ q1;replace r1:=K1 _ _ r1))
 refine bodyPost_ret (v:=.agg (Ro k1 n1 A2 ks1.length c2)) (by simp [results,results159,go_sem,d0,d1,d2]) rfl ⟨k1,n1,ks1,rfl,⟨A2,c2,rfl,hl2,?_,?_⟩,by omega⟩
 ·exact (Fresh.rdp (mW hf2)).mono (fun b hb=>.inr (by have h0:w1.drew.heap.size=w1.heap.size:=rfl;have:=hb.1;omega))
 ·exact bV g1
theorem vP (n:Int)(t0 t1 t2:Tm)(A:Option Addr)(c:Nat)(w:World)(hM:aG [t0,t1,t2]≤400)(hrd:cT 12 [t0,t1,t2]=4)(hr:Rd w A 0 [t0,t1,t2]) :
  Calls prog 159 #[.agg #[.int .i64 12,.int .i64 n,.slice A ([t0,t1,t2]:List Tm).length c]] w (aCf t2 190000 w):=by
 have hrd:=aD hrd;obtain ⟨b,off,k1,n1,ks1,A1,c1,hA,hk1,p1,q1,r1,hl1,hr1⟩:=hr.at_ (j:=2) (by simp);have hk1:t2 = .mk k1 n1 ks1:=hk1;subst hk1 hA;simp only [Nat.reduceMul,Nat.zero_mul,Nat.add_zero] at p1 q1 r1
 have hsz:aG ks1≤400:=by simp only [aG,Tm.size] at hM;omega
 go_enter func159,ntmps159;go_wp2_with (first
  | (go_at_call 58;have _t:=tok;refine (dF _ k1 n1 ks1 A1 c1 _ (nH _) (by omega) (hr1.keeps K1)).mono ?_;rintro e w2 ⟨A2,c2,rfl,hl2,hf2,hb2⟩;replace hZ:=hZ.keep hb2;obtain ⟨d0,d1,d2,e0,e1,e2⟩:=cA hZ;replace g1:=g1.trans (hb2.mono g1.size))
  | (go_at_call 113;refine (dI 12 n [t0,t1,.mk k1 n1 ks1] _ c _ (by simp) rfl ((hr.alloc _).alloc _)).mono ?_;rw [hrd.out];rintro e w1 ⟨rfl,hb1⟩;have hB:Blk w1 w.heap.size #[.int .i64 12,.int .i64 n,.slice (some ⟨b,off,none⟩) ([t0,t1,.mk k1 n1 ks1]:List Tm).length c]:=((aC w 25 _ rfl).alloc _).keep hb1;have hZ:=bA hb1;have g1:Bw w w1:=bW bw2 hb1;have s1:=hZ.lt;have K1:=bR g1;have x2:=hB.at_ (i:=2) rfl;have tok:=trivial;replace p1:=K1 _ _ p1;replace q1:=K1 _ _ q1;replace r1:=K1 _ _ r1))
 refine bodyPost_ret (v:=.agg (Ro k1 n1 A2 ks1.length c2)) (by simp [results,results159,go_sem,d0,d1,d2]) rfl ⟨k1,n1,ks1,rfl,⟨A2,c2,rfl,hl2,?_,?_⟩,by omega⟩
 ·exact (Fresh.rdp (mW hf2)).mono (fun b hb=>.inr (by have h0:w1.drew.heap.size=w1.heap.size:=rfl;have:=hb.1;omega))
 ·exact bV g1
theorem wH (n n0:Int)(s0 s1 s2:Tm)(A:Option Addr)(c:Nat)(w:World)(hM:aG [.mk 14 n0 [s0,s1,s2]]≤400)(hr:Rd w A 0 [.mk 14 n0 [s0,s1,s2]]) :
  Calls prog 159 #[.agg #[.int .i64 15,.int .i64 n,.slice A ([.mk 14 n0 [s0,s1,s2]]:List Tm).length c]] w (aCf s1 190000 w):=by
 have hrd:=aD (show cT 15 [.mk 14 n0 [s0,s1,s2]]=5 from rfl);obtain ⟨b,off,k0',n0',ks0,A0,c0,hA,hk0,p0,q0,r0,hl0,hr0⟩:=hr.at_ (j:=0) (by simp);injection hk0 with h1 h2 h3;subst h1 h2 h3;obtain ⟨b1,off1,k1,n1,ks1,A1,c1,hA0,hk1,p1,q1,r1,hl1,hr1⟩:=hr0.at_ (j:=1) (by simp);have hk1:s1 = .mk k1 n1 ks1:=hk1;subst hk1 hA hA0;simp only [Nat.reduceMul,Nat.zero_mul,Nat.add_zero] at p0 q0 r0 p1 q1 r1
 have hsz:aG ks1≤400:=by simp only [aG,Tm.size] at hM;omega
 go_enter func159,ntmps159;go_wp2_with (first
  | (go_at_call 58;have _t:=tok;refine (dF _ k1 n1 ks1 A1 c1 _ (nH _) (by omega) (hr1.keeps K1)).mono ?_;rintro e w2 ⟨A2,c2,rfl,hl2,hf2,hb2⟩;replace hZ:=hZ.keep hb2;obtain ⟨d0,d1,d2,e0,e1,e2⟩:=cA hZ;replace g1:=g1.trans (hb2.mono g1.size))
  | (go_at_call 113;refine (dI 15 n [.mk 14 n0 [s0,.mk k1 n1 ks1,s2]] _ c _ (by simp) rfl ((hr.alloc _).alloc _)).mono ?_;rw [hrd.out];rintro e w1 ⟨rfl,hb1⟩;have hB:Blk w1 w.heap.size #[.int .i64 15,.int .i64 n,.slice (some ⟨b,off,none⟩) ([.mk 14 n0 [s0,.mk k1 n1 ks1,s2]]:List Tm).length c]:=((aC w 25 _ rfl).alloc _).keep hb1;have hZ:=bA hb1;have g1:Bw w w1:=bW bw2 hb1;have s1:=hZ.lt;have K1:=bR g1;have x2:=hB.at_ (i:=2) rfl;have tok:=trivial;replace p0:=K1 _ _ p0;replace q0:=K1 _ _ q0;replace r0:=K1 _ _ r0;replace p1:=K1 _ _ p1;replace q1:=K1 _ _ q1;replace r1:=K1 _ _ r1))
 refine bodyPost_ret (v:=.agg (Ro k1 n1 A2 ks1.length c2)) (by simp [results,results159,go_sem,d0,d1,d2]) rfl ⟨k1,n1,ks1,rfl,⟨A2,c2,rfl,hl2,?_,?_⟩,by omega⟩
 ·exact (Fresh.rdp (mW hf2)).mono (fun b hb=>.inr (by have h0:w1.drew.heap.size=w1.heap.size:=rfl;have:=hb.1;omega))
 ·exact bV g1
theorem wF (n n0:Int)(s0 s1 s2:Tm)(A:Option Addr)(c:Nat)(w:World)(hM:aG [.mk 14 n0 [s0,s1,s2]]≤400)(hr:Rd w A 0 [.mk 14 n0 [s0,s1,s2]]) :
  Calls prog 159 #[.agg #[.int .i64 16,.int .i64 n,.slice A ([.mk 14 n0 [s0,s1,s2]]:List Tm).length c]] w (aCf s2 190000 w):=by
 have hrd:=aD (show cT 16 [.mk 14 n0 [s0,s1,s2]]=6 from rfl);obtain ⟨b,off,k0',n0',ks0,A0,c0,hA,hk0,p0,q0,r0,hl0,hr0⟩:=hr.at_ (j:=0) (by simp);injection hk0 with h1 h2 h3;subst h1 h2 h3;obtain ⟨b1,off1,k1,n1,ks1,A1,c1,hA0,hk1,p1,q1,r1,hl1,hr1⟩:=hr0.at_ (j:=2) (by simp);have hk1:s2 = .mk k1 n1 ks1:=hk1;subst hk1 hA hA0;simp only [Nat.reduceMul,Nat.zero_mul,Nat.add_zero] at p0 q0 r0 p1 q1 r1
 have hsz:aG ks1≤400:=by simp only [aG,Tm.size] at hM;omega
 go_enter func159,ntmps159;go_wp2_with (first
  | (go_at_call 58;have _t:=tok;refine (dF _ k1 n1 ks1 A1 c1 _ (nH _) (by omega) (hr1.keeps K1)).mono ?_;rintro e w2 ⟨A2,c2,rfl,hl2,hf2,hb2⟩;replace hZ:=hZ.keep hb2;obtain ⟨d0,d1,d2,e0,e1,e2⟩:=cA hZ;replace g1:=g1.trans (hb2.mono g1.size))
  | (go_at_call 113;refine (dI 16 n [.mk 14 n0 [s0,s1,.mk k1 n1 ks1]] _ c _ (by simp) rfl ((hr.alloc _).alloc _)).mono ?_;rw [hrd.out];rintro e w1 ⟨rfl,hb1⟩;have hB:Blk w1 w.heap.size #[.int .i64 16,.int .i64 n,.slice (some ⟨b,off,none⟩) ([.mk 14 n0 [s0,s1,.mk k1 n1 ks1]]:List Tm).length c]:=((aC w 25 _ rfl).alloc _).keep hb1;have hZ:=bA hb1;have g1:Bw w w1:=bW bw2 hb1;have s1:=hZ.lt;have K1:=bR g1;have x2:=hB.at_ (i:=2) rfl;have tok:=trivial;replace p0:=K1 _ _ p0;replace q0:=K1 _ _ q0;replace r0:=K1 _ _ r0;replace p1:=K1 _ _ p1;replace q1:=K1 _ _ q1;replace r1:=K1 _ _ r1))
 refine bodyPost_ret (v:=.agg (Ro k1 n1 A2 ks1.length c2)) (by simp [results,results159,go_sem,d0,d1,d2]) rfl ⟨k1,n1,ks1,rfl,⟨A2,c2,rfl,hl2,?_,?_⟩,by omega⟩
 ·exact (Fresh.rdp (mW hf2)).mono (fun b hb=>.inr (by have h0:w1.drew.heap.size=w1.heap.size:=rfl;have:=hb.1;omega))
 ·exact bV g1
theorem tI (n n0:Int)(s0 t:Tm)(k1 n1 ku nu:Int)(us:List Tm)(ks1:List Tm)(A:Option Addr)(c:Nat)(w:World)(ht:t = .mk k1 n1 ks1)(hM:aG [.mk 4 n0 [s0,t],.mk ku nu us]≤400)(hs:shape 30 t=true)(hsu:shape 30 (.mk ku nu us)=true)(hr:Rd w A 0 [.mk 4 n0 [s0,t],.mk ku nu us]) :
  Calls prog 159 #[.agg #[.int .i64 5,.int .i64 n,.slice A ([.mk 4 n0 [s0,t],.mk ku nu us]:List Tm).length c]] w (aCf (jB (.mk ku nu us) 0 0 t) 190000 w):=by
 subst ht;have hrd:=aD (show cT 5 [.mk 4 n0 [s0,.mk k1 n1 ks1],.mk ku nu us]=1 from rfl);obtain ⟨b,off,k0',n0',ks0,A0,c0,hA,hk0,p0,q0,r0,hl0,hr0⟩:=hr.at_ (j:=0) (by simp);injection hk0 with h1 h2 h3;subst h1 h2 h3;obtain ⟨b1,off1,k1',n1',ks1',A1,c1,hA0,hk1,p1,q1,r1,hl1,hr1⟩:=hr0.at_ (j:=1) (by simp);injection hk1 with h1 h2 h3;subst h1 h2 h3;obtain ⟨b',off',ku',nu',us',U,cu,hA',hk2,p2,q2,r2,hl2,hr2⟩:=hr.at_ (j:=1) (by simp);injection hk2 with h1 h2 h3;subst h1 h2 h3;subst hA hA0;injection hA' with hA';injection hA' with h1 h2;subst h1 h2;simp only [Nat.reduceMul,Nat.zero_mul,Nat.add_zero] at p0 q0 r0 p1 q1 r1 p2 q2 r2
 have hsz:aG ks1≤400∧aG us≤400∧(Tm.mk k1 n1 ks1).size+(Tm.mk ku nu us).size≤400:=by simp only [aG,Tm.size] at hM⊢;omega
 obtain ⟨k2,n2,ks2,h2⟩:=iF (jB (.mk ku nu us) 0 0 (.mk k1 n1 ks1));have hbig:aG ks2+1≤190000:=by
  have h3:=uF (.mk ku nu us) (m:=400) (by omega) (by omega) (.mk k1 n1 ks1) 0 0;rw [h2,Tm.size] at h3;have:(Tm.mk k1 n1 ks1).size*400≤400*400:=Nat.mul_le_mul_right _ (by omega);omega
 have h2':=aD h2;have hs':=aD hs;have hsu':=aD hsu;clear h2 hs hsu;go_enter func159,ntmps159;go_wp2_with (first
  | (go_at_call 113;refine (dI 5 n [.mk 4 n0 [s0,.mk k1 n1 ks1],.mk ku nu us] _ c _ (by simp) rfl ((hr.alloc _).alloc _)).mono ?_;rw [hrd.out];rintro e w1 ⟨rfl,hb1⟩;have hB:Blk w1 w.heap.size #[.int .i64 5,.int .i64 n,.slice (some ⟨b,off,none⟩) ([.mk 4 n0 [s0,.mk k1 n1 ks1],.mk ku nu us]:List Tm).length c]:=((aC w 25 _ rfl).alloc _).keep hb1;have hZ:=bA hb1;have g1:Bw w w1:=bW bw2 hb1;have s1:=hZ.lt;have K1:=bR g1;have x2:=hB.at_ (i:=2) rfl;have tok:=trivial;replace p0:=K1 _ _ p0;replace q0:=K1 _ _ q0;replace r0:=K1 _ _ r0;replace p1:=K1 _ _ p1;replace q1:=K1 _ _ q1;replace r1:=K1 _ _ r1;replace p2:=K1 _ _ p2;replace q2:=K1 _ _ q2;replace r2:=K1 _ _ r2;skip))
 obtain ⟨y2,y3,y4⟩:=pW x2 r0 p1;obtain ⟨y5,y6,y7⟩:=pW q1 r1 p2;have y8:=aF q2;have y9:=aF r2;refine aZ (fun w'=>Bw w1 w') [0,1,2,3,4,5,6,7,8,9,10] [11] [12] [_,_,_,_,_,_,_,_,_,_,_] [_] [_] (by kernel_rfl) (by kernel_rfl) rfl rfl rfl (fun _ _ d _ _ h=>by cases d<;>exact h) (dV _ _).drew ?_;refine cL (aD ?_);refine bF ?_;go_wp2_with (go_at_call 150;refine (vK ku nu us hsu'.out (by omega) _ k1 n1 ks1 _ _ _ _ 0 0 30 _ (nH _) (by omega) hs'.out (by omega) (by omega) (by omega) (by omega) (hr1.keeps K1).drew (hr2.keeps K1).drew k2 n2 ks2 h2'.out).mono ?_;rintro e w2 ⟨A2,c2,rfl,hl2,hf2,hb2⟩)
 have hx1:Bw w1 w2:=(dV _ _).drew.trans hb2;refine aH hx1 (cS ?_);replace hZ:=hZ.keep hx1;obtain ⟨d0,d1,d2,e0,e1,e2⟩:=cA hZ;replace g1:=g1.trans (hx1.mono g1.size);clear y2 y3 y4 y5 y6 y7 y8 y9;go_wp2_with fail
 refine bodyPost_ret (v:=.agg (Ro k2 n2 A2 ks2.length c2)) (by simp [results,results159,go_sem,d0,d1,d2]) rfl ⟨k2,n2,ks2,h2'.out,⟨A2,c2,rfl,hl2,?_,?_⟩,hbig⟩
 ·exact (Fresh.rdp (mW hf2)).mono (fun b hb=>.inr (by have h0:w1.drew.heap.size=w1.heap.size:=rfl;have:=hb.1;omega))
 ·exact bV g1
def mG:Prop:=∀(n n8:Int) (t0 t1 t2 m:Tm) (A:Option Addr) (c:Nat) (w:World),aG [t0,t1,t2,.mk 8 n8 [m]]≤400→Rd w A 0 [t0,t1,t2,.mk 8 n8 [m]]→
 Calls prog 159 #[.agg #[.int .i64 9,.int .i64 n,.slice A ([t0,t1,t2,.mk 8 n8 [m]]:List Tm).length c]] w (aCf (.mk 5 0 [.mk 5 0 [t2,m],.mk 9 0 [t0,t1,t2,m]]) 190000 w)
theorem aHi {ks:List Tm}(h:ks.length=1):∃a,ks=[a]:=List.length_eq_one_iff.1 h
theorem aGa {ks:List Tm}(h:ks.length=2):∃a b,ks=[a,b]:=by
 match ks,h with
 | [a,b],_=>exact ⟨a,b,rfl⟩
theorem aDd {ks:List Tm}(h:ks.length=3):∃a b c,ks=[a,b,c]:=by
 match ks,h with
 | [a,b,c],_=>exact ⟨a,b,c,rfl⟩
theorem aTw {ks:List Tm}(h:ks.length=4):∃a b c d,ks=[a,b,c,d]:=by
 match ks,h with
 | [a,b,c,d],_=>exact ⟨a,b,c,d,rfl⟩
theorem pC (hC:mG)(d:Nat)(hd:d≤30)(k n:Int)(ks:List Tm)(A:Option Addr)(c:Nat)(w:World)(hM:aG ks≤400)(hs:shape d (.mk k n ks)=true)(hx:cT k ks≠0)(hr:Rd w A 0 ks) :
  Calls prog 159 #[.agg (Ro k n A ks.length c)] w (aCf (jL (.mk k n ks)) 190000 w):=by
 obtain ⟨d,rfl,ha,_,_,hk⟩:=cG hs;by_cases h5:k=5
 ·subst h5;obtain ⟨a,b,rfl⟩:=aGa (ks:=ks) (by have h:aW 5=2:=rfl;omega);obtain ⟨k0,n0,ls⟩:=a;have h4:k0=4:=by
   rcases Classical.em (k0=4) with h|h
   ·exact h
   ·exact absurd (by simp [cT,lI,Tm.k,h]) hx
  subst h4;obtain ⟨d,rfl,ha0,_,_,hk0⟩:=cG (hk (.mk 4 n0 ls) (by simp));obtain ⟨s0,t,rfl⟩:=aGa (ks:=ls) (by have h:aW 4=2:=rfl;omega);obtain ⟨ku,nu,us⟩:=b;obtain ⟨k1,n1,ks1⟩:=t;rw [show jL _=jB (.mk ku nu us) 0 0 (.mk k1 n1 ks1) from by simp [jL,cT,lI,Tm.k,Tm.ks,aL]];exact tI n n0 s0 _ k1 n1 ku nu us ks1 A c w rfl hM (qV (by omega) _ (hk0 _ (by simp))) (qV (by omega) _ (hk _ (by simp))) hr
 ·by_cases h9:k=9
  ·subst h9;obtain ⟨a,b,e,f,rfl⟩:=aTw (ks:=ks) (by have h:aW 9=4:=rfl;omega);obtain ⟨k3,n3,ls⟩:=f;by_cases h7:k3=7
   ·subst h7;rw [show jL _=b from by simp [jL,cT,lI,Tm.k,Tm.ks,aL]];exact vB n a b e _ A c w hM (by simp [cT,lI,Tm.k]) hr
   ·have h8:k3=8:=by
     rcases Classical.em (k3=8) with h|h
     ·exact h
     ·exact absurd (by simp [cT,lI,Tm.k,h,h7]) hx
    subst h8;obtain ⟨d,rfl,ha0,_,_,hk0⟩:=cG (hk (.mk 8 n3 ls) (by simp));obtain ⟨m,rfl⟩:=aHi (ks:=ls) (by have h:aW 8=1:=rfl;omega);rw [show jL _=(.mk 5 0 [.mk 5 0 [e,m],.mk 9 0 [a,b,e,m]]) from by simp [jL,cT,lI,Tm.k,Tm.ks,aL]];exact hC n n3 a b e m A c w hM hr
  ·by_cases h12:k=12
   ·subst h12;obtain ⟨a,b,e,rfl⟩:=aDd (ks:=ks) (by have h:aW 12=3:=rfl;omega);obtain ⟨k3,n3,ls⟩:=b;have h8:k3=11:=by
     rcases Classical.em (k3=11) with h|h
     ·exact h
     ·exact absurd (by simp [cT,lI,Tm.k,h]) hx
    subst h8;rw [show jL _=e from by simp [jL,cT,lI,Tm.k,Tm.ks,aL]];exact vP n a _ e A c w hM (by simp [cT,lI,Tm.k]) hr
   ·by_cases h15:k=15
    ·subst h15;obtain ⟨a,rfl⟩:=aHi (ks:=ks) (by have h:aW 15=1:=rfl;omega);obtain ⟨k3,n3,ls⟩:=a;have h8:k3=14:=by
      rcases Classical.em (k3=14) with h|h
      ·exact h
      ·exact absurd (by simp [cT,lI,Tm.k,h]) hx
     subst h8;obtain ⟨d,rfl,ha0,_,_,hk0⟩:=cG (hk (.mk 14 n3 ls) (by simp));obtain ⟨s0,s1,s2,rfl⟩:=aDd (ks:=ls) (by have h:aW 14=3:=rfl;omega);rw [show jL _=s1 from by simp [jL,cT,lI,Tm.k,Tm.ks,aL]];exact wH n n3 s0 s1 s2 A c w hM hr
    ·by_cases h16:k=16
     ·subst h16;obtain ⟨a,rfl⟩:=aHi (ks:=ks) (by have h:aW 16=1:=rfl;omega);obtain ⟨k3,n3,ls⟩:=a;have h8:k3=14:=by
       rcases Classical.em (k3=14) with h|h
       ·exact h
       ·exact absurd (by simp [cT,lI,Tm.k,h]) hx
      subst h8;obtain ⟨d,rfl,ha0,_,_,hk0⟩:=cG (hk (.mk 14 n3 ls) (by simp));obtain ⟨s0,s1,s2,rfl⟩:=aDd (ks:=ls) (by have h:aW 14=3:=rfl;omega);rw [show jL _=s2 from by simp [jL,cT,lI,Tm.k,Tm.ks,aL]];exact wF n n3 s0 s1 s2 A c w hM hr
     ·exact absurd (yJ ks (by omega)) hx
theorem sC:∀(ks:List Tm) (j:Nat) (t:Tm),aG (ks.set j t)≤aG ks+t.size
 | [],j,t=>by simp [aG]
 | a::ks,0,t=>by simp only [List.set_cons_zero,aG];omega
 | a::ks,j+1,t=>by have:=sC ks j t;simp only [List.set_cons_succ,aG];omega
theorem rdp_lt {p:Nat→Prop}{w:World}:(∀t b off i,RdPC p w b off i t→RdPC (fun b=>p b∧b<w.heap.size) w b off i t)∧(∀ks A i,RdP p w A i ks→RdP (fun b=>p b∧b<w.heap.size) w A i ks):=by
 refine bM (fun k n ks ih b off i hh=>?_) (fun _ _ _=>RdP.nil) (fun t ts h1 h2 A i hh=>?_)
 ·rw [RdPC.iff] at hh⊢;obtain ⟨h0,h1,h2,A,c,h3,h4,h5⟩:=hh;exact ⟨⟨h0,jN _ _ h1⟩,h1,h2,A,c,h3,h4,ih _ _ h5⟩
 ·rw [RdP.cons_iff] at hh⊢;obtain ⟨⟨b,off,hA,hc⟩,hr⟩:=hh;exact ⟨⟨b,off,hA,h1 _ _ _ hc⟩,h2 _ _ hr⟩
theorem RdP.lt_ {p:Nat→Prop}{w:World}{A:Option Addr}{i:Nat}{ks:List Tm}(h:RdP p w A i ks):RdP (fun b=>p b∧b<w.heap.size) w A i ks:=rdp_lt.2 _ _ _ h
theorem aIl (ks:List Tm)(j:Nat)(v:Tm):∀(i:Nat) (t:Tm),ks[i]?=some t→(ks.set j v)[i]?=some (if i=j then v else t):=by
 intro i t h;have hl:i<ks.length:=(List.getElem?_eq_some_iff.1 h).1;rw [List.getElem?_set];by_cases e:j=i
 ·subst e;rw [if_pos rfl,if_pos hl,if_pos rfl]
 ·rw [if_neg e,if_neg (fun h=>e h.symm),h]
def aMs (t0:Tm)(m:Nat)(w:World)(e:Ending)(w':World):Prop:=
 ∃(k n:Int) (ks:List Tm) (A:Option Addr) (c:Nat) (b:Bool),.mk k n ks=(eL t0).getD t0∧b=(eL t0).isSome∧e = .returned (.tuple #[.agg (Ro k n A ks.length c),.bool b])∧ks.length≤9223372036854775807∧aG ks+1≤m∧RdP (fun x=>if b=true then w.heap.size≤x else x<w.heap.size) w' A 0 ks∧Bw w w'
theorem zU {o:Option Tm}{t u:Tm}(h:u=o.getD t){b:Bool}(hb:b=o.isSome)(hbt:b=true):o=some u:=by
 subst hbt;cases o with
 | none=>cases hb
 | some v=>rw [h];rfl
theorem aEg {o:Option Tm}{b:Bool}(hb:b=o.isSome)(hbt:b=false):o=none:=by
 subst hbt;cases o with
 | none=>rfl
 | some v=>cases hb
theorem sK:∀(ks:List Tm) (j:Nat) (h:j<ks.length) (u:Tm),(∀i,(hi:i<ks.length)→i<j→eL ks[i]=none)→eL ks[j]=some u→kI ks=some (ks.set j u)
 | t::ts,0,h,u,hn,hs=>by rw [kI];simp only [List.getElem_cons_zero] at hs;rw [hs];rfl
 | t::ts,j+1,h,u,hn,hs=>by
  have h0:eL t=none:=hn 0 (by simp) (by omega);rw [kI,h0,sK ts j (by simpa using h) u (fun i hi hij=>hn (i+1) (by simpa using hi) (by omega)) (by simpa using hs)];rfl
theorem rY:∀(ks:List Tm),(∀i,(hi:i<ks.length)→eL ks[i]=none)→kI ks=none
 | [],_=>rfl
 | t::ts,hn=>by
  have h0:eL t=none:=hn 0 (by simp);rw [kI,h0,rY ts (fun i hi=>hn (i+1) (by simpa using hi))];rfl
theorem aGr (hC:mG)(N:Nat):∀(d:Nat) (k n:Int) (ks:List Tm) (A:Option Addr) (c:Nat) (w:World),d≤30→aG ks<N→aG ks≤400→shape d (.mk k n ks)=true→Rd w A 0 ks→
  Calls prog 166 #[.agg (Ro k n A ks.length c),.bool false] w (aMs (.mk k n ks) (190000+401*d) w):=by
 induction N with
 | zero=>intro d k n ks A c w _ hN;exact absurd hN (Nat.not_lt_zero _)
 | succ N ih=>
 intro d k n ks A c w hd hN hM hs hr;have hlen:=aJ ks;obtain ⟨d,rfl,ha,_,_,hk⟩:=cG hs;have hk':=aD hk;have ha':=aD ha;have hs':=aD hs;clear hk ha hs;by_cases hx:cT k ks=0
 ·have hrd:=aD hx;clear hx;go_enter func166,ntmps166;go_wp2_with (go_at_call 113;refine (dI k n ks A c _ (by omega) ha'.out ((hr.alloc _).alloc _)).mono ?_;rw [hrd.out];rintro e w1 ⟨rfl,hb1⟩;have hB:=cM hb1;have hZ:=bA hb1;have g1:Bw w w1:=bW bw2 hb1)
  go_loopw [6] (fun jv wr=>∃j:Nat,j≤ks.length∧Hid (∀i,(hi:i<ks.length)→i<j→eL ks[i]=none)∧jv = .int .i64 j∧Blk wr (w.heap.size+1) Zr∧Blk wr w.heap.size (Ro k n A ks.length c)∧Bw w wr)
   (fun jv _=>ks.length - (intOf jv).toNat)
  case atStart=>exact ⟨0,Nat.zero_le _,aD (fun i hi h=>absurd h (by omega)),rfl,hZ,hB,g1⟩
  case round=>
   clear hZ hB g1;obtain ⟨j,hj,hnj,rfl,hZ,hB,g1⟩:=hrel;obtain ⟨x0,x1,x2⟩:=hB.three;have sr:=g1.size;have lz0:=hZ.lt;by_cases hlt:j<ks.length
   ·obtain ⟨b,off,k',n',ks',A',c',rfl,hkj,hc1,hc2,hc3,hl',hr'⟩:=(hr.below g1).at_ hlt;have hsz:=bY (fG hlt);have hsk:=hk'.out _ (fG hlt);rw [hkj] at hsz hsk;simp only [Tm.size] at hsz
    have H4:=aD hsk;have H5:=aD hkj;clear hkj hsk;have bl:b<wr.heap.size:=jN _ _ hc1;go_wp2_with (first
     | (go_at_call 166;refine (ih d k' n' ks' A' c' _ (by omega) (by omega) (by omega) H4.out hr').mono ?_;rintro e w2 ⟨k2,n2,ks2,A2,c2,bb,hv2,hv3,rfl,hl2,hs2,hr2,hb2⟩;replace hv2:=aD hv2;replace hv3:=aD hv3;have hrw:=((hr.below g1).below hb2).alloc (.cells (Ro k2 n2 A2 ks2.length c2) 25);replace hZ:=(hZ.keep hb2).alloc (.cells (Ro k2 n2 A2 ks2.length c2) 25);replace hB:=(hB.keep hb2).alloc (.cells (Ro k2 n2 A2 ks2.length c2) 25);replace g1:=(g1.trans (hb2.mono g1.size)).alloc (by have:=hb2.size;omega) (.cells (Ro k2 n2 A2 ks2.length c2) 25);have hr2':=hr2.alloc (.cells (Ro k2 n2 A2 ks2.length c2) 25);have s2:=hb2.size;have hK2:=aC w2 25 (Ro k2 n2 A2 ks2.length c2) rfl;obtain ⟨y0,y1,y2⟩:=hK2.three;clear x0 x1 x2;obtain ⟨x0,x1,x2⟩:=hB.three;have tok:=trivial))
    ·have hbb:bb=true:=by assumption
     have hrx:RdP (fun x=>wr.heap.size≤x∧x<w2.heap.size) w2 A2 0 ks2:=(hr2.lt_).mono (fun x hx=>⟨by have h1:=hx.1;rw [hbb] at h1;simpa using h1,hx.2⟩);refine (xE (p:=fun x=>wr.heap.size≤x∧x<w2.heap.size) k n ks _ c j k2 n2 ks2 A2 c2 (ks.set j (.mk k2 n2 ks2)) (by simp) (aIl ks j _) _ (by omega) hl2 hrw (hrx.alloc _) (fun x hx=>by have:=hx.2;simp;omega)).mono ?_;rintro e w3 ⟨A3,c3,rfl,hl3,hr3,hb3⟩;replace hZ:=hZ.keep hb3;obtain ⟨d0,d1,d2,e0,e1,e2⟩:=cA hZ;replace g1:=g1.trans (hb3.mono g1.size);go_wp2_with fail
     have hsz2:=sC ks j (.mk k2 n2 ks2);rw [Tm.size] at hsz2;refine bodyPost_ret (v:=.tuple #[.agg #[.int .i64 k,.int .i64 n,.slice A3 (ks.set j (.mk k2 n2 ks2)).length c3],.bool true]) (by simp [results,results166,go_sem,d0,d1,d2]) rfl ⟨k,n,ks.set j (.mk k2 n2 ks2),A3,c3,true,(by rw [eL,if_pos hrd.out,sK ks j hlt _ hnj.out (by rw [H5.out];exact zU hv2.out hv3.out hbb)];rfl),(by rw [eL,if_pos hrd.out,sK ks j hlt _ hnj.out (by rw [H5.out];exact zU hv2.out hv3.out hbb)];rfl),rfl,by simp;omega,by omega,?_,?_⟩
     ·have hr4:=hr3.mono (q:=fun x=>w.heap.size+2≤x) (fun x hx=>hx.elim (fun h=>by have:=h.1;omega) (fun h=>by simp at h;omega));exact (((hr4.setCell (by simp) _).setCell (by simp) _).setCell (by simp) _).mono (fun x hx=>by simp;omega)
     ·exact bV g1
    ·have hbb:bb=false:=by first|assumption|(cases bb with|false=>rfl|true=>simp_all)
     refine ⟨⟨j+1,by omega,aD (fun i hi hij=>?_),by go_num,hZ,hB,g1⟩,by simp [intOf];omega⟩;by_cases hij2:i=j
     ·subst hij2;rw [H5.out];exact aEg hv3.out hbb
     ·exact hnj.out i hi (by omega)
   ·have hje:j=ks.length:=by omega
    subst hje;obtain ⟨d0,d1,d2,e0,e1,e2⟩:=cA hZ;go_wp2_with fail
    refine bodyPost_ret (v:=.tuple #[.agg (Ro k n A ks.length c),.bool false]) (by simp [results,results166,go_sem,d0,d1,d2]) rfl ⟨k,n,ks,A,c,false,(by rw [eL,if_pos hrd.out,rY ks (fun i hi=>hnj.out i hi hi)];rfl),(by rw [eL,if_pos hrd.out,rY ks (fun i hi=>hnj.out i hi hi)];rfl),rfl,by omega,by omega,?_,?_⟩
    ·exact ((((hr.rdp.below g1).setCell (by simp) _).setCell (by simp) _).setCell (by simp) _).mono (fun x hx=>by simpa using hx)
    ·exact bV g1
 ·have hq:(cT k ks==0)=false:=by simpa using hx
  have hc:=aD (fun w A c hr=>pC hC (d+1) hd k n ks A c w hM hs'.out hx hr);obtain ⟨rr,hrr⟩:∃rr,cT k ks=rr:=⟨_,rfl⟩;rw [hrr] at hq;have hrd:=aD hrr;have hst:=aD (show eL (.mk k n ks)=some (jL (.mk k n ks)) from by rw [eL,if_neg hx]);clear hx hrr;go_enter func166,ntmps166;go_wp2_with (first
   | (go_at_call 159;have _t:=tok;refine (hc.out _ A c hr1).mono ?_;rintro e w2 ⟨k2,n2,ks2,hv2,⟨A2,c2,rfl,hl2,hr2,hb2⟩,hs2⟩;replace hv2:=aD hv2;replace hZ:=hZ.keep hb2;obtain ⟨d0,d1,d2,e0,e1,e2⟩:=cA hZ;replace g1:=g1.trans (hb2.mono g1.size))
   | (go_at_call 113;refine (dI k n ks A c _ (by omega) ha'.out ((hr.alloc _).alloc _)).mono ?_;rw [hrd.out];rintro e w1 ⟨rfl,hb1⟩;have hB:=cM hb1;have hZ:=bA hb1;have g1:Bw w w1:=bW bw2 hb1;have hr1:=hr.below g1;have s1:=hZ.lt;obtain ⟨x0,x1,x2⟩:=hB.three;have tok:=trivial))
  refine bodyPost_ret (v:=.tuple #[.agg (Ro k2 n2 A2 ks2.length c2),.bool true]) (by simp [results,results166,go_sem,d0,d1,d2]) rfl ⟨k2,n2,ks2,A2,c2,true,(by rw [hst.out,hv2.out];rfl),(by rw [hst.out];rfl),rfl,hl2,by omega,?_,?_⟩
  ·exact ((((hr2.mono (q:=fun x=>w.heap.size+2≤x) (fun x hx=>hx.elim (fun h=>h.elim) (fun h=>by omega))).setCell (by simp) _).setCell (by simp) _).setCell (by simp) _).mono (fun x hx=>by simp;omega)
  ·exact bV g1
theorem uS {b:Bool}(h:(!b)=false):b=true:=by cases b with|true=>rfl|false=>cases h
theorem uM {b:Bool}(h:(!b)=true):b=false:=by cases b with|false=>rfl|true=>cases h
def nA (t:Tm):Tm × Nat:=match eL t with|none=>(t,0)|some u=>if aE u=true then (u,1) else (.mk 0 0 [],2)
theorem aGm {t:Tm}(h:eL t=none):nA t=(t,0):=by rw [nA,h]
theorem xK {t u:Tm}(h:eL t=some u)(hv:aE u=true):nA t=(u,1):=by rw [nA,h];exact if_pos hv
theorem uG {t u:Tm}(h:eL t=some u)(hv:aE u=false):nA t=(.mk 0 0 [],2):=by rw [nA,h];exact if_neg (by simp [hv])
theorem aCk {t:Tm}{f:Nat}(h:(nA t).2=0):iO f t=(some (nA t).1,0):=by
 unfold nA at h⊢
 rw [iO];cases hs:eL t with
 | none=>rfl
 | some u=>rw [hs] at h;simp only at h;split at h<;>cases h
theorem aCn {t:Tm}(h:(nA t).2≠0):iO 0 t=(none,1):=by
 unfold nA at h
 rw [iO];cases hs:eL t with
 | none=>rw [hs] at h;exact absurd rfl h
 | some u=>rfl
theorem aBj {t:Tm}{f:Nat}(h:(nA t).2=2):iO (f+1) t=(none,2):=by
 unfold nA at h
 rw [iO];cases hs:eL t with
 | none=>rw [hs] at h;cases h
 | some u=>
  rw [hs] at h;simp only at h⊢
  split at h
  ·cases h
  ·rename_i hv;rw [if_neg hv]
theorem aDm {t:Tm}{f:Nat}(h0:(nA t).2≠0)(h2:(nA t).2≠2):iO (f+1) t=iO f (nA t).1:=by
 unfold nA at h0 h2⊢
 rw [iO];cases hs:eL t with
 | none=>rw [hs] at h0;exact absurd rfl h0
 | some u=>
  rw [hs] at h0 h2;simp only at h0 h2⊢
  split at h2
  ·rename_i hv;simp only [if_pos hv]
  ·exact absurd rfl h2
def aPc (R:Option Tm × Int)(w:World)(e:Ending)(w':World):Prop:=
 ∃(k n:Int) (ks:List Tm) (A:Option Addr) (c:Nat),R.1.getD (.mk 0 0 []) = .mk k n ks∧e = .returned (.tuple #[.agg (Ro k n A ks.length c),.int .i64 R.2])∧ks.length≤9223372036854775807∧RdP (fun x=>w.heap.size≤x) w' A 0 ks∧Bw w w'
def aUv (t0:Tm)(w:World)(e:Ending)(w':World):Prop:=
 ∃(k n:Int) (ks:List Tm) (A:Option Addr) (c code:Nat),.mk k n ks=(nA t0).1∧code=(nA t0).2∧e = .returned (.tuple #[.agg (Ro k n A ks.length c),.int .i64 code])∧code≤2∧ks.length≤9223372036854775807∧aG ks≤400∧(code≠2→aE (.mk k n ks)=true)∧RdP (fun x=>w.heap.size≤x) w' A 0 ks∧Bw w w'
theorem aLm (hC:mG)(k n:Int)(ks:List Tm)(A:Option Addr)(c:Nat)(w:World)(hv:aE (.mk k n ks)=true)(hl:ks.length≤9223372036854775807)(hr:Rd w A 0 ks) :
  Calls prog 165 #[.agg (Ro k n A ks.length c),.bool false] w (aUv (.mk k n ks) w):=by
 have hM:=aI hv;have hsh:=aD (aY hv);have hv':=aD hv;clear hv;go_enter func165,ntmps165;go_wp2_with (go_at_call 166;refine (aGr hC _ 30 k n ks A c _ (by omega) (nH _) hM hsh.out (((hr.alloc _).alloc _))).mono ?_;rintro e w1 ⟨k2,n2,ks2,A2,c2,bb,hx2,hx3,rfl,hl2,hs2,hr2,hb1⟩;replace hx2:=aD hx2;replace hx3:=aD hx3;have hB:=(((aC w 25 (Ro k n A ks.length c) rfl).alloc (.cells Zr 25)).keep hb1).alloc (.cells (Ro k2 n2 A2 ks2.length c2) 25);have hZ:Blk (w1.alloc (.cells (Ro k2 n2 A2 ks2.length c2) 25)) (w.heap.size+1) Zr:=((aC (w.alloc (.cells (Ro k n A ks.length c) 25)) 25 Zr (by simp)).keep hb1).alloc _;have g1:Bw w w1:=bW bw2 hb1;have s1:w.heap.size+2≤w1.heap.size:=(by have:=hb1.size;simpa using this);have g2:=g1.alloc g1.size (.cells (Ro k2 n2 A2 ks2.length c2) 25);have hK:=aC w1 25 (Ro k2 n2 A2 ks2.length c2) rfl;obtain ⟨x0,x1,x2⟩:=hB.three;obtain ⟨y0,y1,y2⟩:=hK.three)
 ·have hbf:bb=false:=uM (by assumption);have ho:=aD (aGm (aEg hx3.out hbf));refine (dF _ k n ks A c _ (nH _) (by omega) ((hr.below g1).alloc _)).mono ?_;rintro e w3 ⟨A3,c3,rfl,hl3,hf3,hb3⟩;replace hZ:=hZ.keep hb3;obtain ⟨d0,d1,d2,e0,e1,e2⟩:=cA hZ;replace g2:=g2.trans (hb3.mono g2.size);go_wp2_with fail
  refine bodyPost_ret (v:=.tuple #[.agg (Ro k n A3 ks.length c3),.int .i64 0]) (by simp [results,results165,go_sem,d0,d1,d2]) rfl ⟨k,n,ks,A3,c3,0,(by rw [ho.out]),(by rw [ho.out]),rfl,by omega,hl3,by omega,fun _=>hv'.out,?_,?_⟩
  ·exact (Fresh.rdp (mW hf3)).mono (fun b hb=>by have:=hb.1;simp at this;omega)
  ·exact bV g2
 ·have hbb:bb=true:=uS (by assumption);have hst:=aD (zU hx2.out hx3.out hbb);have hrx:RdP (fun x=>w.heap.size+2≤x) w1 A2 0 ks2:=hr2.mono (fun x hx=>by rw [hbb] at hx;simp at hx;omega);clear hr2;obtain ⟨vv,hvv0⟩:∃vv,aE (.mk k2 n2 ks2)=vv:=⟨_,rfl⟩;have hvv:=aD hvv0;refine (aN k2 n2 ks2 A2 c2 _ (by omega) (hrx.alloc _).rd).mono ?_;rw [hvv0];rintro e w3 ⟨rfl,hb3⟩;clear hvv0;replace hZ:=hZ.keep hb3;replace hK:=hK.keep hb3;clear y0 y1 y2;obtain ⟨y0,y1,y2⟩:=hK.three;obtain ⟨d0,d1,d2,e0,e1,e2⟩:=cA hZ;replace g2:=g2.trans (hb3.mono g2.size);have hrx3:=(hrx.alloc (.cells (Ro k2 n2 A2 ks2.length c2) 25)).below hb3;cases vv with
  | false=>
   go_wp2_with fail
   refine bodyPost_ret (v:=.tuple #[.agg Zr,.int .i64 2]) (by simp [results,results165,go_sem,d0,d1,d2]) rfl ⟨0,0,[],none,0,2,(by rw [uG hst.out hvv.out]),(by rw [uG hst.out hvv.out]),rfl,by omega,by simp,by simp [aG],fun h=>absurd rfl h,RdP.nil,?_⟩;exact bV g2
  | true=>
   have hs400:=aI hvv.out;go_wp2_with fail
   refine bodyPost_ret (v:=.tuple #[.agg (Ro k2 n2 A2 ks2.length c2),.int .i64 1]) (by simp [results,results165,go_sem,d0,d1,d2]) rfl ⟨k2,n2,ks2,A2,c2,1,(by rw [xK hst.out hvv.out]),(by rw [xK hst.out hvv.out]),rfl,by omega,hl2,hs400,fun _=>hvv.out,?_,?_⟩
   ·exact (((hrx3.setCell (by simp) _).setCell (by simp) _).setCell (by simp) _).mono (fun b hb=>by omega)
   ·exact bV g2
theorem gR (hC:mG)(k n:Int)(ks:List Tm)(A:Option Addr)(c:Nat)(F:Nat)(hF:F≤1000)(w:World)(hv:aE (.mk k n ks)=true)(hl:ks.length≤9223372036854775807)(hr:Rd w A 0 ks) :
  Calls prog 164 #[.agg (Ro k n A ks.length c),.int .i64 F,.bool false] w (aPc (iO F (.mk k n ks)) w):=by
 obtain ⟨R,hR⟩:∃R,iO F (.mk k n ks)=R:=⟨_,rfl⟩;rw [hR];replace hR:=aD hR;go_enter func164,ntmps164;go_wp2_with fail
 go_loopw [1,8,9] (fun fv _ _ wr=>∃(f:Nat) (k n:Int) (ks:List Tm) (A:Option Addr) (c:Nat),f≤F∧Hid (iO f (.mk k n ks)=R)∧fv = .int .i64 f∧aE (.mk k n ks)=true∧ks.length≤9223372036854775807∧Blk wr w.heap.size (Ro k n A ks.length c)∧Blk wr (w.heap.size+1) Zr∧RdP (fun b=>b<w.heap.size∨w.heap.size+2≤b) wr A 0 ks∧Bw w wr)
  (fun fv _ _ _ => (intOf fv).toNat)
 case atStart=>exact ⟨F,k,n,ks,A,c,iD _,hR,rfl,hv,hl,(aC _ _ _ rfl).alloc _,aC _ _ _ (by simp),((hr.rdp.alloc _).alloc _).mono (fun b hb=>.inl hb),bw2⟩
 case round=>
  clear hv hl hr hR;obtain ⟨f,k,n,ks,A,c,hf,hRf,rfl,hv,hl,hB,hZ,hrd,hb⟩:=hrel;have hv':=aD hv;clear hv;obtain ⟨x0,x1,x2⟩:=hB.three;have lz0:=hZ.lt;go_wp2_with (go_at_call 165;refine (aLm hC k n ks A c _ hv'.out hl hrd.rd).mono ?_;rintro e w1 ⟨k2,n2,ks2,A2,c2,code,hx2,hx3,rfl,hcd,hl2,hs2,hv2,hr2,hb1⟩;replace hB:=(hB.keep hb1).alloc (.cells (Ro k2 n2 A2 ks2.length c2) 25);replace hZ:=(hZ.keep hb1).alloc (.cells (Ro k2 n2 A2 ks2.length c2) 25);have s1:=hb1.size;have g1:=(hb.trans (hb1.mono hb.size)).alloc (by have:=hb.size;omega) (.cells (Ro k2 n2 A2 ks2.length c2) 25);have hK:=aC w1 25 (Ro k2 n2 A2 ks2.length c2) rfl;have hr3:=(hr2.alloc (.cells (Ro k2 n2 A2 ks2.length c2) 25)).mono (q:=fun b=>w.heap.size+2≤b) (fun b hb=>by omega);have hv3:=aD hv2;replace hx2:=aD hx2;replace hx3:=aD hx3;clear hv2 x0 x1 x2;obtain ⟨x0,x1,x2⟩:=hB.three;obtain ⟨y0,y1,y2⟩:=hK.three;obtain ⟨d0,d1,d2,e0,e1,e2⟩:=cA hZ;obtain ⟨z0,z1,z2⟩:=kS hB)
  ·have hc0:code=0:=by rename_i h0;have:=eq_of_beq h0;omega
   obtain rfl:R=(some (.mk k2 n2 ks2),0):=by rw [← hRf.out,aCk (by rw [← hx3.out];exact hc0),← hx2.out]
   refine bodyPost_ret (v:=.tuple #[.agg (Ro k2 n2 A2 ks2.length c2),.int .i64 0]) (by simp [results,results164,go_sem,d0,d1,d2]) rfl ⟨k2,n2,ks2,A2,c2,rfl,rfl,hl2,?_,?_⟩
   ·exact (((hr3.setCell (by simp) _).setCell (by simp) _).setCell (by simp) _).mono (fun b hb=>by omega)
   ·exact bV g1
  ·have hcb:((code:Int)==0)=false:=by assumption
   have hc0:¬(code:Int)=0:=ne_of_beq_false hcb;obtain rfl:f=0:=by omega
   obtain rfl:R=(none,1):=by rw [← hRf.out,aCn (by rw [← hx3.out];omega)]
   refine bodyPost_ret (v:=.tuple #[.agg Zr,.int .i64 1]) (by simp [results,results164,go_sem,d0,d1,d2]) rfl ⟨0,0,[],none,0,rfl,rfl,by simp,RdP.nil,?_⟩;exact bV g1
  ·have hc2:(code:Int)=2:=by rename_i h0;exact eq_of_beq h0
   obtain ⟨f,rfl⟩:∃g,f=g+1:=⟨f - 1,by omega⟩;obtain rfl:R=(none,2):=by rw [← hRf.out,aBj (by rw [← hx3.out];omega)]
   refine bodyPost_ret (v:=.tuple #[.agg Zr,.int .i64 2]) (by simp [results,results164,go_sem,d0,d1,d2]) rfl ⟨0,0,[],none,0,rfl,rfl,by simp,RdP.nil,?_⟩;exact bV g1
  ·have hc2:¬(code:Int)=2:=by rename_i h0;exact ne_of_beq_false h0
   have hcb:((code:Int)==0)=false:=by assumption
   have hc0:¬(code:Int)=0:=ne_of_beq_false hcb;have hf1:1≤f:=by omega
   have hRg:iO (f - 1) (.mk k2 n2 ks2)=R:=by rw [← hRf.out,show f=(f - 1)+1 from by omega,aDm (by rw [← hx3.out];omega) (by rw [← hx3.out];omega),← hx2.out];rfl
   refine ⟨⟨f - 1,k2,n2,ks2,A2,c2,by omega,aD hRg,by go_num,hv3.out (by omega),hl2,((hB.set_ 0 _).set_ 1 _).set_ 2 _,((hZ.far (by simp) _).far (by simp) _).far (by simp) _,(((hr3.setCell (by simp) _).setCell (by simp) _).setCell (by simp) _).mono (fun b hb=>.inr hb),(bV g1)⟩,by simp [intOf];omega⟩
theorem RdX.oneCell {p:Nat→Prop}{w:World}:∀{ts:List Tm} {xs:List Value},RdX p w ts xs→∀u,u∈xs→u.oneCell'=true
 | [],xs,h,u,hu=>by have h:xs=[]:=h;subst h;cases hu
 | .mk k n ks::ts,xs,h,u,hu=>by
  obtain ⟨A,c,ys,rfl,hl,hr,hx⟩:=h;simp only [List.mem_cons] at hu
  rcases hu with rfl|rfl|rfl|hu
  ·rfl
  ·rfl
  ·rfl
  ·exact hx.oneCell u hu
theorem rQ {w:World}{us:List Tm}{x1:List Value}{g:Nat}{lo:Nat→Prop}(hg:w.heap[g]?=some (.cells #[] 25 (0,0)))(hlo:∀b,lo b→b<g)(hgw:g<w.heap.size)
  (ht : RdX lo w us x1) (hlen : us.length ≤ 1099511627776) (ad : Addr) (c : Nat) (hc : ∀ j u, x1[j]? = some u → w.cell? (ad.add j) = some u) (ty : TypeId) :
  ∃A c' w',(Builtin.append_ #[23,23] ty #[.slice (some ⟨g,0,none⟩) 0 0,.slice (some ad) us.length c]).run prog w = .ok (.slice A us.length c') w'∧RdP (fun b=>lo b∨g≤b) w' A 0 us∧w.grownBy w' (some g):=by
 obtain ⟨i,hi,hz,hz1,hz2⟩:=info_parts jT;have k1:w.ownsRow g 25 3 (.slice (some ⟨g,0,none⟩) 0 0) 0 []:=⟨by simp,.inr ⟨g,0,#[],rfl,iD _,hg,iD _,by simp [maxLen],by simp,by simp⟩⟩;obtain ⟨v',w',hrun,hown,hgr,_,hat⟩:=run_append_own_at (P:=prog) w g 23 ty 25 i _ 3 40 Tryz.underlying23 hi hz hz1 hz2 rfl (by omega) _ 0 [] k1 ad us.length c x1 ht.length hc ht.oneCell
  (by simp only [maxLen]; omega) (by omega) (by omega)
 rw [Nat.zero_add,List.nil_append] at hown;obtain ⟨h2,h3⟩:=hown;rcases h3 with ⟨rfl,h0⟩|⟨g',cap,cur,rfl,hb',hg',_,_,_,htk⟩
 ·have:us=[]:=lEn h0;subst this;exact ⟨none,0,w',hrun,RdP.nil,hgr⟩
 ·refine ⟨_,_,w',hrun,RdX.rdp (.inr hb') (ht.keep (fun b hb=>.inl hb) fun b hb hl=>hgr.block b hl (fun e=>by injection e with e;have e:b=g:=e;have:=hlo b hb;omega)) fun j u hu=>?_,hgr⟩;rw [show 0+0*3+j=j by omega,cell_of_row w' g' j cur 25 (0,0) hg'];rw [← htk,List.getElem?_take] at hu;split at hu
  ·simpa using hu
  ·cases hu
theorem oS {w:World}{us:List Tm}{x1:List Value}{g:Nat}{lo:Nat→Prop}(hg:w.heap[g]?=some (.cells #[] 25 (0,0)))(hlo:∀b,lo b→b<g)(hgw:g<w.heap.size)
  (ht : RdX lo w us x1) (hlen : us.length ≤ 1099511627776) (ad : Addr) (c : Nat) (hc : ∀ j u, x1[j]? = some u → w.cell? (ad.add j) = some u)
  {ops:Array Oper} {rest:List Oper} {o:Oper} {a:Act} {Q:Exit→Act→World→Prop} (hgd:o.guard=none) (s x:Operand)
  (ho : o.op = .call { callee := .builtin .append, args := #[s, x], argTypes := #[23, 23] }) (hse : a.eval s = .slice (some ⟨g, 0, none⟩) 0 0) (hx : a.eval x = .slice (some ad) us.length c)
  (h : ∀ A' c' w', RdP (fun b => lo b ∨ g ≤ b) w' A' 0 us → w.grownBy w' (some g) → wpList prog ops Q rest (a.put o.dst (.slice A' us.length c')) w') :
  wpList prog ops Q (o::rest) a w:=by
 refine wpList_plain hgd fun K hK=>?_
 obtain ⟨A',c',w',hrun,h2,h3⟩:=rQ hg hlo hgw ht hlen ad c hc o.type;unfold Oper.wp execOp
 simp only [ho,resolve,invoke,builtin,Sem.run_bind,Sem.run_pure,Result.andThen_ok,List.map_toArray,List.map_cons,List.map_nil,hse,hx,hrun]
 exact hK _ _ (h A' c' w' h2 h3)
theorem fM {p:Nat→Prop}{w:World}{us:List Tm}{x1:List Value}(k:Int)(ht:RdX p w us x1)(hpw:∀b,p b→b<w.heap.size)(hlen:us.length≤1099511627776)(g c:Nat)(hb:Blk w g x1.toArray) :
  Calls prog 73 #[.int .i64 k,.slice (some ⟨g,0,none⟩) us.length c] w (aSb p w k 0 us):=by
 have hgl:=hb.lt;go_enter func73,ntmps73;have H1:=aD (show ((w.alloc (.cells Zr 25)).alloc (.cells #[] 25)).heap[w.heap.size+1]?=some (.cells #[] 25 (0,0)) by simpa using heap_alloc_new (w.alloc (.cells Zr 25)) (.cells #[] 25));have H2:=aD (show RdX p ((w.alloc (.cells Zr 25)).alloc (.cells #[] 25)) us x1 from ht.keep (fun _ h=>h) fun b hb _=>(Below.heap_alloc _ _ b (by have:=hpw b hb;simp;omega)).trans (Below.heap_alloc _ _ b (hpw b hb)));have H3:=aD (show ∀j u,x1[j]?=some u→((w.alloc (.cells Zr 25)).alloc (.cells #[] 25)).cell? (Addr.add ⟨g,0,none⟩ j)=some u from fun j u hj=>by
  have:=((hb.alloc (.cells Zr 25)).alloc (.cells #[] 25)).at_ (i:=j) (v:=u) (by simpa using hj);rw [xW];exact this)
 go_wp2_with (at_builtin;(refine oS (us:=us) (x1:=x1) (g:=w.heap.size+1) (lo:=p) H1.out (fun b hb=>by have:=hpw b hb;omega) (by simp) H2.out hlen ⟨g,0,none⟩ c H3.out rfl _ _ rfl rfl rfl ?_);intro A' c' w2 hfr hg2;have hT:Blk w2 w.heap.size Zr:=((aC w 25 Zr rfl).alloc _).grown hg2 (by simp);have d0:=hT.at_ (i:=0) rfl;have d1:=hT.at_ (i:=1) rfl;have d2:=hT.at_ (i:=2) rfl;obtain ⟨e0,e1,e2⟩:=kS hT;have hb2:Bw w w2:=bw2.trans ⟨hg2.os,hg2.tape,hg2.output,hg2.size,fun b hb=>hg2.block b (by simp;omega) (fun e=>by injection e with e;omega)⟩)
 have hzz:¬(p w.heap.size∨w.heap.size+1≤w.heap.size):=fun h=>h.elim (fun h=>by have:=hpw _ h;omega) (fun h=>by omega)
 refine bodyPost_ret (v:=.agg (Ro k 0 A' us.length c')) (by simp [results,results73,go_sem,d0,d1,d2]) rfl ⟨A',c',rfl,by omega,?_,(bV hb2)⟩;exact (((hfr.setCell hzz _).setCell hzz _).setCell hzz _).mono (fun b hb=>hb.imp id (fun h=>by omega))
section
variable {p:Nat→Prop}{w:World}{l:List Tm}{L:Option Addr}{cl g:Nat}
theorem cV (hg:w.heap[g]?=some (.cells #[] 25 (0,0)))(hl:RdP p w L 0 l)(hp:∀b,p b→b<w.heap.size∧b≠g){m:Nat}(hm:l.length=m)(hlen:m≤1099511627776)
  {ops:Array Oper} {rest:List Oper} {o:Oper} {a:Act} {Q:Exit→Act→World→Prop} (hgd:o.guard=none) (s x:Operand)
  (ho : o.op = .call { callee := .builtin .append, args := #[s, x], argTypes := #[23, 23] }) (hs : a.eval s = .slice (some ⟨g, 0, none⟩) 0 0) (hx : a.eval x = .slice L m cl)
  (h : ∀ A' c' w', PartR p g w' (.slice A' m c') l → w.grownBy w' (some g) → wpList prog ops Q rest (a.put o.dst (.slice A' m c')) w') :
  wpList prog ops Q (o::rest) a w:=by
 subst hm;refine wpList_plain hgd fun K hK=>?_
 obtain ⟨v',w',hrun,h2,h3⟩:=sM (cl:=cl) hg hl hp hlen o.type;unfold Oper.wp execOp
 simp only [ho,resolve,invoke,builtin,Sem.run_bind,Sem.run_pure,Result.andThen_ok,List.map_toArray,List.map_cons,List.map_nil,hs,hx,hrun]
 obtain ⟨A',c',rfl⟩:=h2.shape;exact hK _ _ (h A' c' w' h2 h3)
end
def aUw (p:Nat→Prop)(w:World)(ks:List Tm)(e:Ending)(w':World):Prop:=
 ∃A c,e = .returned (.slice A ks.length c)∧PartR p w.heap.size w' (.slice A ks.length c) ks∧Bw w w'
theorem mX (p:Nat→Prop)(ks:List Tm)(A:Option Addr)(c:Nat)(w:World)(hl:ks.length≤1099511627776)(hr:RdP p w A 0 ks)(hpw:∀b,p b→b<w.heap.size) :
  Calls prog 115 #[.slice A ks.length c] w (aUw p w ks):=by
 cases A with
 | none=>
  have hk:ks=[]:=by
   cases ks with
   | nil=>rfl
   | cons t ts=>obtain ⟨⟨b,off,h,_⟩,_⟩:=RdP.cons_iff.1 hr;cases h
  subst hk;have hq:∀w',(binOp .eql 23 (.slice none 0 c) (.slice none 0 0)).run prog w' = .ok (.bool true) w':=fun w'=>by rw [Go.Lib.run_eql_slice_nil (t:=23) (h:=Tryz.underlying23)];rfl
  go_enter func115,ntmps115;go_wp2_with fail
  go_ret
  exact ⟨none,0,rfl,PartR.nil,dV _ _⟩
 | some a=>
  have hq:∀w',(binOp .eql 23 (.slice (some a) ks.length c) (.slice none 0 0)).run prog w' = .ok (.bool false) w':=fun w'=>by rw [Go.Lib.run_eql_slice_nil (t:=23) (h:=Tryz.underlying23)];rfl
  go_enter func115,ntmps115;go_wp2_with (at_builtin;refine cV (p:=p) (g:=w.heap.size) (cl:=c) (heap_alloc_new w _) (hr.alloc _) (fun b hb=>⟨by have:=hpw b hb;simp;omega,by have:=hpw b hb;omega⟩) rfl hl rfl _ _ rfl rfl rfl ?_;intro A2 c2 w2 hp2 hg2)
  go_ret
  exact ⟨A2,c2,rfl,hp2,bw1.trans ⟨hg2.os,hg2.tape,hg2.output,hg2.size,fun k hk=>hg2.block k (by simp;omega) (fun e=>by injection e;omega)⟩⟩
def PathX (w:World)(A:Option Addr)(xs:List Int):Prop:=
 0<xs.length→∃b off,A=some ⟨b,off,none⟩∧∀(i:Nat) (u:Value),(xs.map (Value.int .i64))[i]?=some u→w.cell? ⟨b,off+i,none⟩=some u
theorem PathX.nil {w:World}{A:Option Addr}:PathX w A []:=fun h=>absurd h (Nat.lt_irrefl _)
theorem PathX.alloc {w:World}{A:Option Addr}{xs:List Int}(h:PathX w A xs)(o:Obj):PathX (w.alloc o) A xs:=by
 intro hm;obtain ⟨b,off,h3,h4⟩:=h hm;exact ⟨b,off,h3,fun i u hu=>Keeps.alloc w o _ _ (h4 i u hu)⟩
theorem PathX.rdi {w:World}{A:Option Addr}{xs:List Int}(h:PathX w A xs):RdI w A xs:=fun j hj=>by
 obtain ⟨b,off,h3,h4⟩:=h (by omega);exact ⟨b,off,h3,h4 j _ (by rw [List.getElem?_map,iG hj];rfl)⟩
theorem PathX.below {w w':World}{A:Option Addr}{xs:List Int}(h:PathX w A xs)(hb:Bw w w'):PathX w' A xs:=by
 intro hm;obtain ⟨b,off,h3,h4⟩:=h hm;exact ⟨b,off,h3,fun i u hu=>(bR hb) _ _ (h4 i u hu)⟩
theorem sL {w:World}{A:Option Addr}{xs:List Int}{m c:Nat}(h:PathX w A xs)(h1:xs.length=m)(hm:m≤1000)(x:Int)(ty:TypeId) :
  ∃A' c' w',(Builtin.append_ #[26,26] ty #[.slice (some ⟨w.heap.size,0,none⟩) 1 1,.slice A m c]).run prog (w.alloc (.cells #[.int .i64 x] 3)) = .ok (.slice A' (m+1) c') w'∧m+1≤c'∧PathX w' A' (x::xs)∧Bw w w':=by
 obtain ⟨i0,hi,hz0,hz1,hz2⟩:=info_parts aLd;have hown:(w.alloc (.cells #[.int .i64 x] 3)).ownsRow w.heap.size 3 1 (.slice (some ⟨w.heap.size,0,none⟩) 1 1) 1 [.int .i64 x]:=
  ⟨rfl,.inr ⟨w.heap.size,1,#[.int .i64 x],rfl,iD _,heap_alloc_new w _,iD _,by decide,rfl,rfl⟩⟩
 have h2:=h.alloc (.cells #[.int .i64 x] 3);have fin:∀(v':Value) (w':World),w'.ownsRow w.heap.size 3 1 v' (1+m) (.int .i64 x::xs.map (Value.int .i64))→(w.alloc (.cells #[.int .i64 x] 3)).grownBy w' (some w.heap.size)→
   ∃A' c',v' = .slice A' (m+1) c'∧m+1≤c'∧PathX w' A' (x::xs)∧Bw w w':=by
  intro v' w' ho hg;have hb:Bw w w':=bw1.grown hg (by simp) (fun k e=>by cases e;omega);rcases ho.2 with ⟨_,h0⟩|⟨g,cap,cur,rfl,hgb,hgc,hn,hmx,hcs,htk⟩
  ·omega
  ·refine ⟨some ⟨g,0,none⟩,cap,by rw [Nat.add_comm],by omega,fun _=>⟨g,0,rfl,fun i u hu=>?_⟩,hb⟩;rw [List.map_cons,← htk] at hu;have hu2:cur[i]?=some u:=by
    rw [List.getElem?_take] at hu;split at hu
    ·simpa using hu
    ·cases hu
   have hB:Blk w' g cur:=⟨3,hgc⟩;rw [Nat.zero_add];exact hB.at_ hu2
 have hcells:∀(ad:Addr),A=some ad→∀j u,(xs.map (Value.int .i64))[j]?=some u→(w.alloc (.cells #[.int .i64 x] 3)).cell? (ad.add j)=some u:=by
  intro ad e j u hu;have hj:j<xs.length:=by have:=(List.getElem?_eq_some_iff.1 hu).1;simpa using this
  obtain ⟨b,off,e2,hc⟩:=h2 (by omega);rw [e2] at e;cases e
  have:=hc j u hu;rwa [← Go.WideShapes.add_plain] at this
 rcases A with _|ad
 ·have hz:m=0:=by
   rcases Nat.eq_zero_or_pos m with h0|h0
   ·exact h0
   ·obtain ⟨b,off,e,_⟩:=h2 (by omega);cases e
  subst hz;have hx:xs=[]:=lEn h1;subst hx;obtain ⟨A',c',hv,hcc,hp,hb⟩:=fin _ _ hown (gG _ _);refine ⟨A',c',_,?_,hcc,hp,hb⟩;rw [← hv];have hgc:=heap_alloc_new w (.cells #[.int .i64 x] 3);simp [Builtin.append_,run_underlying Tryz.underlying26,sizeOf,typeInfo,hi,Builtin.lenOf,Builtin.firstCells,storeCells]
 ·obtain ⟨v',w',hrun,ho,hg,_,hat⟩:=run_append_own_at (P:=prog) (w.alloc (.cells #[.int .i64 x] 3)) w.heap.size 26 ty 3 i0 _ 1 8 Tryz.underlying26 hi hz0 hz1 hz2 rfl (by omega) _ 1 _ hown ad m c (xs.map (Value.int .i64)) (by simp [h1]) (hcells ad rfl) (by
   intro u hu;obtain ⟨z,_,rfl⟩:=List.mem_map.1 hu;rfl) (by simp only [maxLen];omega) (by omega) (by simp)
  obtain ⟨A',c',rfl,hcc,hp,hb⟩:=fin v' w' (by simpa using ho) hg;exact ⟨A',c',w',hrun,hcc,hp,hb⟩
theorem dM {w:World}{A:Option Addr}{xs:List Int}{m c:Nat}(h:PathX w A xs)(h1:xs.length=m)(hm:m≤1000)(x:Int)
  {ops:Array Oper} {rest:List Oper} {o:Oper} {a:Act} {Q:Exit→Act→World→Prop} (hgd:o.guard=none) (s t:Operand)
  (ho : o.op = .call { callee := .builtin .append, args := #[s, t], argTypes := #[26, 26] }) (hs : a.eval s = .slice (some ⟨w.heap.size, 0, none⟩) 1 1) (hx : a.eval t = .slice A m c)
  (hk : ∀ A' c' w', m + 1 ≤ c' → PathX w' A' (x :: xs) → Bw w w' → wpList prog ops Q rest (a.put o.dst (.slice A' (m + 1) c')) w') :
  wpList prog ops Q (o::rest) a (w.alloc (.cells #[.int .i64 x] 3)):=by
 refine wpList_plain hgd fun K hK=>?_
 obtain ⟨A',c',w',hrun,h0,h2,h3⟩:=sL (c:=c) h h1 hm x o.type;unfold Oper.wp execOp
 simp only [ho,resolve,invoke,builtin,Sem.run_bind,Sem.run_pure,Result.andThen_ok,List.map_toArray,List.map_cons,List.map_nil,hs,hx,hrun]
 exact hK _ _ (hk A' c' w' h0 h2 h3)
def WayPost (o:Option (List Int))(d:Nat)(w:World)(e:Ending)(w':World):Prop:=
 ∃A m c,e = .returned (.tuple #[.slice A m c,.bool o.isSome])∧m≤d∧m≤c∧(∀p,o=some p→m=p.length∧PathX w' A p)∧Bw w w'
theorem WayPost.some_ {p:List Int}{d:Nat}{w:World}{e:Ending}{w':World}(h:WayPost (some p) d w e w') :
  ∃A m c,e = .returned (.tuple #[.slice A m c,.bool true])∧m≤d∧m≤c∧m=p.length∧PathX w' A p∧Bw w w':=by
 obtain ⟨A,m,c,he,h1,h2,h3,h4⟩:=h;exact ⟨A,m,c,he,h1,h2,(h3 p rfl).1,(h3 p rfl).2,h4⟩
theorem WayPost.none_ {d:Nat}{w:World}{e:Ending}{w':World}(h:WayPost none d w e w') :
  ∃A m c,e = .returned (.tuple #[.slice A m c,.bool false])∧Bw w w':=by
 obtain ⟨A,m,c,he,h1,h2,h3,h4⟩:=h;exact ⟨A,m,c,he,h4⟩
theorem outP_no:(∀t,(eH t=none↔nrm t=true))∧(∀(ts:List Tm) (i:Int),(iN i ts=none↔aBl ts=true)):=by
 refine bM (fun k n ks ih=>?_) (fun i=>?_) (fun t ts h1 h2 i=>?_)
 ·rw [eH,nrm];split
  ·rename_i h
   rw [ih 0,h];simp
  ·rename_i h
   simp [h]
 ·simp [iN,aBl]
 ·rw [iN,aBl,Bool.and_eq_true,← h1,← h2 (i+1)];cases eH t<;>simp
theorem aAt {ks:List Tm}{p:List Int}:∀{j:Nat} {i:Int},(∀t,t∈ks.take j→nrm t=true)→(hj:j<ks.length)→eH ks[j]=some p→iN i ks=some ((i+j)::p):=by
 induction ks with
 | nil=>intro j i _ hj;exact absurd hj (Nat.not_lt_zero _)
 | cons t ts ih=>
  intro j i hall hj hp;cases j with
  | zero=>rw [iN];simp at hp;rw [hp];simp
  | succ j=>
   have h0:eH t=none:=(outP_no.1 t).2 (hall t (by simp));rw [iN,h0];have:=ih (j:=j) (i:=i+1) (fun u hu=>hall u (by simp [hu])) (by simpa using hj) (by simpa using hp);rw [this];simp;omega
theorem qL (N:Nat):∀(d:Nat) (k n:Int) (ks:List Tm) (A:Option Addr) (c:Nat) (w:World),d≤30→aG ks<N→shape d (.mk k n ks)=true→aG ks≤1099511627775→Rd w A 0 ks→
  Calls prog 72 #[.agg (Ro k n A ks.length c)] w (WayPost (eH (.mk k n ks)) d w):=by
 induction N with
 | zero=>intro d k n ks A c w _ hN;exact absurd hN (Nat.not_lt_zero _)
 | succ N ih=>
 intro d k n ks A c w hd hN hsh hM hr;have hlen:=aJ ks;obtain ⟨d,rfl⟩:∃d',d=d'+1:=by cases d with|zero=>simp [shape] at hsh|succ d=>exact ⟨d,rfl⟩
 obtain ⟨ha,hm1,hm2,hkids⟩:=(bD d k n ks).1 hsh;have hkids:=aD hkids;have ha':=aD ha;clear ha hm1 hm2 hsh;by_cases hrd:cT k ks=0
 ·have hz:eH (.mk k n ks)=iN 0 ks:=by rw [eH,if_pos hrd]
  rw [hz];have hrd':=aD hrd;clear hz;generalize hoo:iN 0 ks=oo
  have hoo':=aD hoo;clear hoo;go_enter func72,ntmps72;go_wp2_with (go_at_call 106;refine (cU k n ks A c _ (by omega) ha'.out (hr.alloc _)).mono ?_;rw [hrd];rintro e w1 ⟨rfl,hb1⟩;have hB1:=(aC w 25 (Ro k n A ks.length c) rfl).keep hb1;obtain ⟨p10,p11,p12⟩:=hB1.three;replace hb1:=bw1.trans (hb1.mono (by simp)))
  go_loopw [14] (fun i wr=>∃j:Nat,j≤ks.length∧i = .int .i64 j∧Hid (∀t,t∈ks.take j→nrm t=true)∧Bw w wr)
   (fun i _=>ks.length - (intOf i).toNat)
  case atStart=>exact ⟨0,Nat.zero_le _,rfl,aD (by simp),hb1⟩
  case round=>
   obtain ⟨j,hj,rfl,hall,hb⟩:=hrel;by_cases hlt:j<ks.length
   ·obtain ⟨b,off,k1,n1,ks1,A1,c1,rfl,hkj,hc1,hc2,hc3,hl1,hr1⟩:=(hr.below hb).at_ hlt;have hsz:=bY (fG hlt);have hs1:=hkids.out _ (fG hlt);rw [hkj] at hsz hs1;simp only [Tm.size] at hsz
    have H3:=aD hkj;have H4:=aD hs1;clear hkj hs1;cases ho1:eH (.mk k1 n1 ks1) with
    | none=>
     have hn1:nrm (.mk k1 n1 ks1)=true:=(outP_no.1 _).1 ho1;have hn1':=aD hn1;have ho1':=aD ho1;clear ho1 hn1;go_wp2_with (go_at_call 72;refine (ih d k1 n1 ks1 A1 c1 _ (by omega) (by omega) H4.out (by omega) (hr1.alloc _)).mono ?_;rw [ho1'.out];intro e w3 hp;obtain ⟨A3,m3,c3,rfl,hb3⟩:=hp.none_;replace hb3:=bw1.trans (hb3.mono (by simp)))
     go_roundw
     case rel=>exact ⟨j+1,hlt,by go_num,aD (aBe hlt hall.out (by rw [H3.out];exact hn1'.out)),hb.trans (hb3.mono hb.size)⟩
     case measure=>simp [intOf];omega
    | some p1=>
     have ho1':=aD ho1;clear ho1;go_wp2_with (first|(go_at_call 72;refine (ih d k1 n1 ks1 A1 c1 _ (by omega) (by omega) H4.out (by omega) (hr1.alloc _)).mono ?_;rw [ho1'.out];intro e w3 hp;obtain ⟨A3,m3,c3,rfl,hm3,hc3',hm3e,hp3,hb3⟩:=hp.some_;have hm3e':=aD hm3e.symm;clear hm3e;replace hb3:=bw1.trans (hb3.mono (by simp)))|(at_builtin;refine dM hp3 hm3e'.out (by omega) _ rfl _ _ rfl rfl rfl ?_;intro A4 c4 w4 hcc4 hp4 hb4))
     go_ret2
     have hfin:=aAt (i:=0) hall.out hlt (by rw [H3.out];exact ho1'.out);rw [hoo'.out] at hfin;refine ⟨A4,m3+1,c4,by rw [hfin];rfl,by omega,hcc4,?_,hb.trans ((hb3.trans (hb4.mono hb3.size)).mono hb.size)⟩;intro p hp;rw [hfin] at hp;injection hp with hp;subst hp;refine ⟨by rw [List.length_cons,hm3e'.out],by simpa using hp4⟩
   ·have hje:j=ks.length:=by omega
    go_wp2_with fail
    go_ret2
    have ha:=hall.out;rw [hje,List.take_length] at ha;have h2:oo=none:=by rw [← hoo'.out];exact (outP_no.2 ks 0).2 ((aBt ks).2 ha)
    refine ⟨none,0,0,by rw [h2];rfl,by omega,iD _,fun p hp=>(by rw [h2] at hp;cases hp),hb⟩
 ·have hne:(cT k ks != 0)=true:=by simpa using hrd
  have hz:eH (.mk k n ks)=some []:=by rw [eH,if_neg hrd]
  rw [hz];have H:=aD hrd;clear hrd hz;go_enter func72,ntmps72;go_wp2_with (go_at_call 106;refine (cU k n ks A c _ (by omega) ha'.out (hr.alloc _)).mono ?_;rintro e w1 ⟨rfl,hb1⟩;replace hb1:=bw1.trans (hb1.mono (by simp)))
  go_ret2
  exact ⟨none,0,0,rfl,by omega,iD _,fun p hp=>(by injection hp with hp;subst hp;exact ⟨rfl,PathX.nil⟩),hb1⟩
def pZ:Tm:=.mk 6 0 []
def oU (s:Tm)(kind:Int):Option Tm:=
 if aE s=true then (match redI bS 200 s with|(some o,c)=>if c=0∧o.k=kind then some o else none|(none,_)=>none) else none
def vZ (a b:Tm):Bool:=aE a && aE b && (lU 200 a b==1)
def jX (o:Option Tm):Option Int:=match o with|none=>none|some s=>(oU s 2).map (fun h=>h.n)
def fW (o:Option Tm)(want:Tm):Bool:=match o with|some s=>vZ s want|none=>false
def oT (o want:Option Tm):Bool:=match want with|some x=>fW o x|none=>false
def qD (o:Option Tm)(kind:Int):Option Tm:=match o with|none=>none|some s=>oU s kind
def pL (o:Option Tm)(t:Tm):Bool:=match qD o 3 with|some s=>vZ (aL s.ks 0) t && (oU (aL s.ks 1) 2).isSome|none=>false
def tN (a b:Tm):Tm:=.mk 5 0 [a,b]
def aHs (p:Tm):Option Tm:=
 match cP 1 0 p with
 | none=>none
 | some one=>match cP 2 0 p with
  | none=>none
  | some two=>vO (.mk 3 0 [pZ,.mk 3 0 [tN one (.mk 1 0 []),tN two (.mk 8 0 [.mk 1 1 []])]])
def jH (rec_:Tm→Option Tm)(ctx:List Tm)(t:Tm)(ty:Nat→Option Tm):Option Tm:=
 if t.k=1 then (if 0≤t.n∧t.n<ctx.length then cP (t.n+1) 0 (ctx.getD (ctx.length - 1 - t.n.toNat) default) else none)
 else if t.k=2 then (if t.n=3 then none else some (.mk 2 (t.n+1) []))
 else if t.k=6 then some (.mk 2 0 [])
 else if t.k=7 then some pZ
 else if t.k=8 then (if fW (ty 0) pZ=true then some pZ else none)
 else if t.k=3 then (match jX (ty 0) with|none=>none|some i=>match jX (ty 1) with|none=>none|some j=>some (.mk 2 (if i<j then j else i) []))
 else if t.k=4 then (match jX (ty 0) with|none=>none|some _=>match ty 1 with|none=>none|some b=>match vO (.mk 3 0 [aL t.ks 0,b]) with|none=>none|some o=>if (rec_ o).isSome=true then some o else none)
 else if t.k=5 then (match qD (ty 0) 3 with|none=>none|some s=>if fW (ty 1) (aL s.ks 0)=true then eC 0 (aL t.ks 1) (aL s.ks 1) else none)
 else if t.k=9 then (if pL (ty 0) pZ=true∧oT (ty 1) (vO (tN (aL t.ks 0) (.mk 7 0 [])))=true∧oT (ty 2) (aHs (aL t.ks 0))=true∧fW (ty 3) pZ=true then vO (tN (aL t.ks 0) (aL t.ks 3)) else none)
 else if t.k=10 then (match jX (ty 0) with|none=>none|some i=>if fW (ty 1) (aL t.ks 0)=true∧fW (ty 2) (aL t.ks 0)=true then some (.mk 2 i []) else none)
 else if t.k=11 then (match ty 0 with|none=>none|some s=>if (jX (rec_ s)).isSome=true then vO (.mk 10 0 [s,aL t.ks 0,aL t.ks 0]) else none)
 else if t.k=12 then (match qD (ty 1) 10 with|none=>none|some e=>if pL (ty 0) (aL e.ks 0)=true∧oT (ty 2) (vO (tN (aL t.ks 0) (aL e.ks 1)))=true then vO (tN (aL t.ks 0) (aL e.ks 2)) else none)
 else if t.k=13 then (match jX (ty 0) with|none=>none|some i=>match jX (ty 1) with|none=>none|some j=>some (.mk 2 (if i<j then j else i) []))
 else if t.k=14 then (match jX (ty 0) with|none=>none|some _=>match oU (aL t.ks 0) 13 with|none=>none|some s=>if fW (ty 1) (aL s.ks 0)=true∧oT (ty 2) (eC 0 (aL t.ks 1) (aL s.ks 1))=true then some (aL t.ks 0) else none)
 else if t.k=15 then (match qD (ty 0) 13 with|none=>none|some s=>some (aL s.ks 0))
 else if t.k=16 then (match qD (ty 0) 13 with|none=>none|some s=>eC 0 (.mk 15 0 [aL t.ks 0]) (aL s.ks 1))
 else none
def tT (rec_:List Tm→Tm→Option Tm)(ctx:List Tm)(t:Tm)(i:Nat):Option Tm:=
 if aO t.k i=0 then rec_ ctx (aL t.ks i) else if 20≤ctx.length then none else rec_ (ctx++[aL t.ks 0]) (aL t.ks i)
def eG:Nat→List Tm→Tm→Option Tm
 | 0,_,_=>none
 | N+1,ctx,t=>jH (eG N ctx) ctx t (tT (eG N) ctx t)
def aSs (w:World)(u:Tm)(e:Ending)(w':World):Prop:=
 ∃k n ks A c,u = .mk k n ks∧e = .returned (.agg (Ro k n A ks.length c))∧ks.length≤9223372036854775807∧Rd w A 0 ks∧Bw w w'
theorem yP (k n:Int)(ks:List Tm)(A:Option Addr)(c:Nat)(xs:List Int)(P:Option Addr)(cp:Nat)(w:World)(hM:aG ks≤1000000000)(hx:xs.length≤9223372036854775807)(hr:Rd w A 0 ks)(hi:RdI w P xs){u:Tm}(hu:eP (.mk k n ks) xs=some u) :
  Calls prog 125 #[.agg (Ro k n A ks.length c),.slice P xs.length cp] w (aSs w u):=by
 have hlen:=aJ ks;have hu':=aD hu;clear hu;go_enter func125,ntmps125;go_wp2_with fail
 go_loopw [9] (fun i wr=>∃(j:Nat) (k1 n1:Int) (ks1:List Tm) (A1:Option Addr) (c1:Nat),j≤xs.length∧i = .int .i64 j∧Hid (eP (.mk k n ks) (xs.take j)=some (.mk k1 n1 ks1))∧ks1.length≤9223372036854775807∧Rd w A1 0 ks1∧Blk wr w.heap.size (Ro k1 n1 A1 ks1.length c1)∧Blk wr (w.heap.size+1) Zr∧Bw w wr)
  (fun i _ => xs.length - (intOf i).toNat)
 case atStart=>exact ⟨0,k,n,ks,A,c,Nat.zero_le _,rfl,aD rfl,by omega,hr,(aC _ _ _ rfl).alloc _,aC _ _ _ (by simp),bw2⟩
 case round=>
  obtain ⟨j,k1,n1,ks1,A1,c1,hj,rfl,hat,hl1,hr1,hB1,hB2,hb⟩:=hrel;have lB2:=hB2.lt;by_cases hlt:j<xs.length
  ·obtain ⟨b,off,rfl,hc⟩:=hi.below hb j hlt;have hnx:=rH hlt hat.out;have hne:eP (.mk k n ks) (xs.take (j+1))≠none:=fun h=>by have:=pY h;rw [hu'.out] at this;cases this
   generalize hxj:xs[j]=x at hc hnx
   have hxj':=aD hxj;clear hxj;by_cases hin:0≤x∧x<ks1.length
   ·obtain ⟨i,rfl⟩:∃i:Nat,x=(i:Int):=⟨x.toNat,by omega⟩;have hik:i<ks1.length:=by omega
    obtain ⟨b3,off3,k3,n3,ks3,A3,c3,rfl,hkj3,hd1,hd2,hd3,hl3,hr3⟩:=hr1.at_ hik;have hst:eP (.mk k n ks) (xs.take (j+1))=some (.mk k3 n3 ks3):=by
     rw [hnx,if_pos (show 0≤(i:Int)∧(i:Int)<(Tm.mk k1 n1 ks1).kids.length from hin),Int.toNat_natCast,show (Tm.mk k1 n1 ks1).kids=ks1 from rfl,List.getD_eq_getElem?_getD,iG hik,Option.getD_some,hkj3]
    have hst':=aD hst;clear hkj3 hst hnx hne;have z2:=(bR hb) _ _ hd1;have z3:=(bR hb) _ _ hd2;have z4:=(bR hb) _ _ hd3;have cc2:wr.cell? ⟨w.heap.size,2,none⟩=some (.slice (some ⟨b3,off3,none⟩) ks1.length c1):=hB1.at_ rfl;have cc0:wr.cell? ⟨w.heap.size,0,none⟩=some (.int .i64 k1):=hB1.at_ rfl;have cc1:wr.cell? ⟨w.heap.size,1,none⟩=some (.int .i64 n1):=hB1.at_ rfl;obtain ⟨f0,f1,f2⟩:=kS hB1;go_wp2_with fail
    go_roundw
    case rel=>exact ⟨j+1,k3,n3,ks3,A3,c3,by omega,by go_num,hst',hl3,hr3,((hB1.set_ 0 _).set_ 1 _).set_ 2 _,((hB2.far (by simp) _).far (by simp) _).far (by simp) _,(bV hb)⟩
    case measure=>simp [intOf];omega
   ·exact absurd (by rw [hnx,if_neg (show ¬(0≤x∧x<(Tm.mk k1 n1 ks1).kids.length) from hin)]) hne
  ·have hjl:j=xs.length:=by omega
   subst hjl;have hut:u = .mk k1 n1 ks1:=by have:=hat.out;rw [List.take_length,hu'.out] at this;exact Option.some.inj this
   subst hut;have cc0:wr.cell? ⟨w.heap.size,0,none⟩=some (.int .i64 k1):=hB1.at_ rfl;have cc1:wr.cell? ⟨w.heap.size,1,none⟩=some (.int .i64 n1):=hB1.at_ rfl;have cc2:wr.cell? ⟨w.heap.size,2,none⟩=some (.slice A1 ks1.length c1):=hB1.at_ rfl;have d0:wr.cell? ⟨w.heap.size+1,0,none⟩=some (.int .i64 0):=hB2.at_ rfl;have d1:wr.cell? ⟨w.heap.size+1,1,none⟩=some (.int .i64 0):=hB2.at_ rfl;have d2:wr.cell? ⟨w.heap.size+1,2,none⟩=some (.slice none 0 0):=hB2.at_ rfl;obtain ⟨e0,e1,e2⟩:=kS hB2;go_wp2_with fail
   refine bodyPost_ret (v:=.agg (Ro k1 n1 A1 ks1.length c1)) (by simp [results,results125,go_sem,d0,d1,d2]) rfl ⟨_,_,_,A1,c1,rfl,rfl,hl1,hr1,?_⟩;exact bV hb
end Go.Proofs.YtddkehjdjfmhmaaGreat
