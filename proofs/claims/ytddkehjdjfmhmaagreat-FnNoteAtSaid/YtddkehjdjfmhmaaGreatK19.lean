/- Parts of the proof. No condition. -/
import Derived.Test.YtddkehjdjfmhmaaGreatK17
import Derived.Test.YtddkehjdjfmhmaaGreatK18
import Derived.Test.YtddkehjdjfmhmaaGreatChecked
import Derived.ChangeSlices
import Derived.ProofKit
import Derived.OpenShut
import Derived.JoinedCond
import Derived.Carry
import Derived.Below
import Derived.ChangeSame
open Go.Proofs.Tryz
namespace Go.Proofs.YtddkehjdjfmhmaaGreat
open Go.RowKit
set_option maxHeartbeats 8000000
set_option maxRecDepth 100000
set_option linter.unusedSimpArgs false
set_option linter.unusedVariables false
theorem xX:(prog.info? 3).map (fun i=>(i.zero,i.size,i.bytes))=some (some (.int .i64 0),1,8):=by kernel_rfl
def RowI (B:Nat)(w:World)(v:Value)(xs:List Int):Prop:=w.ownsRow B 3 1 v xs.length (xs.map (Value.int .i64))
theorem RowI.keep {B:Nat}{w w':World}{v:Value}{xs:List Int}(h:RowI B w v xs)(hk:∀b,B≤b→b<w.heap.size→w'.heap[b]?=w.heap[b]?):RowI B w' v xs:=by
 refine ⟨h.1,?_⟩;rcases h.2 with hn|⟨g,cap,cur,rfl,hb,hg,r⟩
 ·exact .inl hn
 ·exact .inr ⟨g,cap,cur,rfl,hb,(hk g hb (Array.getElem?_eq_some_iff.1 hg).1).trans hg,r⟩
theorem RowI.below {B:Nat}{w w':World}{v:Value}{xs:List Int}(h:RowI B w v xs)(hb:Bw w w'):RowI B w' v xs:=h.keep fun b _ hl=>hb.block b hl
theorem RowI.form {B:Nat}{w:World}{v:Value}{xs:List Int}(h:RowI B w v xs):∃A c,v = .slice A xs.length c∧RdI w A xs:=by
 rcases h.2 with ⟨rfl,h0⟩|⟨g,cap,cur,rfl,hb,hg,hn,hm,hs,htk⟩
 ·have:xs=[]:=lEn h0;subst this;exact ⟨none,0,rfl,fun j hj=>absurd hj (Nat.not_lt_zero _)⟩
 ·refine ⟨some ⟨g,0,none⟩,cap,rfl,fun j hj=>⟨g,0,rfl,?_⟩⟩;rw [Nat.zero_add,cell_of_row w g j cur 3 (0,0) hg];have h1:(cur.toList.take (xs.length*1))[j]?=(xs.map (Value.int .i64))[j]?:=by rw [htk]
  rw [Nat.mul_one,List.getElem?_take,if_pos hj,List.getElem?_map,iG hj] at h1;simpa using h1
theorem aV {B:Nat}{w:World}{v:Value}{xs ys:List Int}{ad:Addr}{c:Nat}(hp:RowI B w v xs)(hB:B≤w.heap.size)(hm:xs.length+ys.length≤1099511627776)
  (hc : ∀ j (hj : j < ys.length), w.cell? (ad.add j) = some (.int .i64 ys[j]))
  {ops:Array Oper} {rest:List Oper} {o:Oper} {a:Act} {Q:Exit→Act→World→Prop} (hgd:o.guard=none) (s x:Operand)
  (ho : o.op = .call { callee := .builtin .append, args := #[s, x], argTypes := #[26, 26] }) (hs : a.eval s = v) (hx : a.eval x = .slice (some ad) ys.length c)
  (h : ∀ v' w', RowI B w' v' (xs ++ ys) → Below B w w' → w.grownBy w' v.ownBlock → wpList prog ops Q rest (a.put o.dst v') w') :
  wpList prog ops Q (o::rest) a w:=by
 refine wpList_plain hgd fun K hK=>?_
 obtain ⟨i,hi,hz,hz1,hz2⟩:=info_parts xX;have hge:∀g,v.ownBlock=some g→B≤g:=fun g hg=>(hp.lt g hg).1
 obtain ⟨v',w',hrun,hown,hg,_,hat⟩:=run_append_own_at (P:=prog) w B 26 o.type 3 i _ 1 8 Tryz.underlying26 hi hz hz1 hz2 rfl (by omega) v xs.length _ hp ad ys.length c (ys.map (Value.int .i64)) (by simp) (by
  intro j u hj;rw [List.getElem?_map] at hj;cases hy:ys[j]? with
  | none=>rw [hy] at hj;cases hj
  | some y=>
   rw [hy] at hj;obtain ⟨hjl,rfl⟩:=List.getElem?_eq_some_iff.1 hy;injection hj with hj;rw [← hj];exact hc j hjl) (by
  intro u hu;obtain ⟨y,_,rfl⟩:=List.mem_map.1 hu;rfl) (by simp only [maxLen];omega) (by omega) (by omega)
 unfold Oper.wp execOp
 simp only [ho,resolve,invoke,builtin,Sem.run_bind,Sem.run_pure,Result.andThen_ok,List.map_toArray,List.map_cons,List.map_nil,hs,hx,hrun]
 refine hK _ _ (h v' w' ?_ ?_ hg)
 ·unfold RowI;rw [List.length_append,List.map_append];exact hown
 ·exact ⟨hg.os,hg.tape,hg.output,hg.size,fun k hk=>hg.block k (by omega) (fun e=>by have:=hge k e.symm;omega)⟩
theorem RowI.empty (w:World){B:Nat}(hB:B≤w.heap.size):RowI B (w.alloc (.cells #[] 3)) (.slice (some ⟨w.heap.size,0,none⟩) 0 0) []:=
 ⟨rfl,.inr ⟨w.heap.size,0,#[],rfl,hB,heap_alloc_new w _,iD _,by simp [maxLen],rfl,rfl⟩⟩
def RdPs (w:World)(A:Option Addr)(ps:List (List Int)):Prop:=∀j (hj:j<ps.length),∃b off B c,A=some ⟨b,off,none⟩∧w.cell? ⟨b,off+j,none⟩=some (.slice B ps[j].length c)∧RdI w B ps[j]∧ps[j].length≤c
theorem RdPs.keeps {w w':World}{A:Option Addr}{ps:List (List Int)}(h:RdPs w A ps)(hk:Keeps w w'):RdPs w' A ps:=fun j hj=>by
 obtain ⟨b,off,B,c,hA,hc,hi,hcl⟩:=h j hj;exact ⟨b,off,B,c,hA,hk _ _ hc,hi.keeps hk,hcl⟩
theorem RdPs.below {w w':World}{A:Option Addr}{ps:List (List Int)}(h:RdPs w A ps)(hb:Bw w w'):RdPs w' A ps:=h.keeps (.of_below hb)
def RowP (B:Nat)(w:World)(v:Value)(ps:List (List Int)):Prop:=
 ∃vs:List Value,w.ownsRow B 26 1 v ps.length vs∧∀j (hj:j<ps.length),∃A c,vs[j]?=some (.slice A ps[j].length c)∧RdI w A ps[j]∧ps[j].length≤c∧∀a,A=some a→B≤a.block∧v.ownBlock≠some a.block∧a.block<w.heap.size
theorem RowP.nil {B:Nat}{w:World}:RowP B w (.slice none 0 0) []:=⟨[],World.ownsRow_nil _ _ _ _,fun j hj=>absurd hj (Nat.not_lt_zero _)⟩
theorem RowP.below {B:Nat}{w w':World}{v:Value}{ps:List (List Int)}(h:RowP B w v ps)(hb:Bw w w'):RowP B w' v ps:=by
 obtain ⟨vs,h1,h2⟩:=h;refine ⟨vs,⟨h1.1,?_⟩,fun j hj=>?_⟩
 ·rcases h1.2 with hn|⟨g,cap,cur,rfl,hB,hg,r⟩
  ·exact .inl hn
  ·exact .inr ⟨g,cap,cur,rfl,hB,(hb.block g (Array.getElem?_eq_some_iff.1 hg).1).trans hg,r⟩
 ·obtain ⟨A,c,e,hi,hcl,hne⟩:=h2 j hj;exact ⟨A,c,e,hi.below hb,hcl,fun a ha=>⟨(hne a ha).1,(hne a ha).2.1,kT (hne a ha).2.2 hb.size⟩⟩
theorem RowP.form {B:Nat}{w:World}{v:Value}{ps:List (List Int)}(h:RowP B w v ps):∃A c,v = .slice A ps.length c∧RdPs w A ps:=by
 obtain ⟨vs,h1,h2⟩:=h;rcases h1.2 with ⟨rfl,h0⟩|⟨g,cap,cur,rfl,hb,hg,hn,hm,hs,htk⟩
 ·have:ps=[]:=lEn h0;subst this;exact ⟨none,0,rfl,fun j hj=>absurd hj (Nat.not_lt_zero _)⟩
 ·refine ⟨some ⟨g,0,none⟩,cap,rfl,fun j hj=>?_⟩;obtain ⟨A,c,e,hi,hcl,_⟩:=h2 j hj;refine ⟨g,0,A,c,rfl,?_,hi,hcl⟩;rw [Nat.zero_add,cell_of_row w g j cur 26 (0,0) hg];rw [← htk,Nat.mul_one,List.getElem?_take,if_pos hj] at e;simpa using e
theorem RdI.grown {w w':World}{A:Option Addr}{xs:List Int}{row:Option Nat}(h:RdI w A xs)(hg:w.grownBy w' row)(hne:∀a,A=some a→row≠some a.block):RdI w' A xs:=fun j hj=>by
 obtain ⟨b,off,hA,hc⟩:=h j hj;refine ⟨b,off,hA,?_⟩;have hl:=jN _ _ hc;have hb:=hg.block b hl (fun e=>hne _ hA e.symm);have:w'.cell? ⟨b,off+j,none⟩=w.cell? ⟨b,off+j,none⟩:=by simp only [World.cell?,hb]
 rw [this];exact hc
theorem xY:(prog.info? 26).map (fun i=>(i.zero,i.size,i.bytes))=some (some (.slice none 0 0),1,24):=by kernel_rfl
theorem iS {B:Nat}{w:World}{v:Value}{ps qs:List (List Int)}{ad:Addr}{c:Nat}(ty:TypeId)(hp:RowP B w v ps)(hB:B≤w.heap.size)(hm:ps.length+qs.length≤1099511627776)
  (hc : ∀ j (hj : j < qs.length), ∃ A c, w.cell? (ad.add j) = some (.slice A qs[j].length c) ∧ RdI w A qs[j] ∧ qs[j].length ≤ c ∧ ∀ a, A = some a → B ≤ a.block ∧ v.ownBlock ≠ some a.block ∧ a.block < w.heap.size) :
  ∃v' w',(Builtin.append_ #[53,53] ty #[v,.slice (some ad) qs.length c]).run prog w = .ok v' w'∧RowP B w' v' (ps++qs)∧Below B w w'∧w.grownBy w' v.ownBlock∧(v'.ownBlock=v.ownBlock∨v'.ownBlock=some w.heap.size):=by
 obtain ⟨i,hi,hz,hz1,hz2⟩:=info_parts xY;obtain ⟨vs,h1,h2⟩:=hp;have hge:∀g,v.ownBlock=some g→B≤g:=fun g hg=>(h1.lt g hg).1
 let news:List Value:=(List.range qs.length).map fun j=>(w.cell? (ad.add j)).getD (.slice none 0 0)
 have hnl:news.length=qs.length:=by simp [news]
 have hnj:∀j (hj:j<qs.length),∃A c,news[j]?=some (.slice A qs[j].length c)∧RdI w A qs[j]∧qs[j].length≤c∧∀a,A=some a→B≤a.block∧v.ownBlock≠some a.block∧a.block<w.heap.size:=fun j hj=>by
  obtain ⟨A,c,e,r⟩:=hc j hj;exact ⟨A,c,by simp [news,List.getElem?_map,hj,e],r⟩
 obtain ⟨v',w',hrun,hown,hg,_,hat⟩:=run_append_own_at (P:=prog) w B 53 ty 26 i _ 1 24 Tryz.underlying53 hi hz hz1 hz2 rfl (by omega) v ps.length vs h1 ad qs.length c news (by rw [hnl,Nat.mul_one]) (by
  intro j u hj;have hjl:j<qs.length:=by have:=(List.getElem?_eq_some_iff.1 hj).1;omega
  obtain ⟨A,c,e,_⟩:=hc j hjl;have:news[j]?=some (.slice A qs[j].length c):=by simp [news,List.getElem?_map,hjl,e]
  rw [this] at hj;injection hj with hj;rw [← hj];exact e) (by
  intro u hu;obtain ⟨j,hj,rfl⟩:=List.getElem_of_mem hu;obtain ⟨A,c,e,_⟩:=hnj j (by omega);rw [iG hj] at e;injection e with e;rw [e];rfl) (by simp only [maxLen];omega) (by omega) hB
 have hsz:=hg.size;refine ⟨v',w',hrun,⟨vs++news,by rw [List.length_append];exact hown,fun j hj=>?_⟩,⟨hg.os,hg.tape,hg.output,hg.size,fun k hk=>hg.block k (by omega) (fun e=>by have:=hge k e.symm;omega)⟩,hg,hat⟩;have hvl:vs.length=ps.length:=by have:=h1.1;omega
 have new:∀a:Addr,B≤a.block∧v.ownBlock≠some a.block∧a.block<w.heap.size→B≤a.block∧v'.ownBlock≠some a.block∧a.block<w'.heap.size:=fun a ha=>⟨ha.1,by
  rcases hat with e|e
  ·rw [e];exact ha.2.1
  ·rw [e];intro h;injection h with h;omega,by omega⟩
 by_cases hjp:j<ps.length
 ·obtain ⟨A,c,e,r,hcl,hne⟩:=h2 j hjp;rw [List.getElem?_append_left (by omega),List.getElem_append_left hjp];exact ⟨A,c,e,r.grown hg fun a ha=>(hne a ha).2.1,hcl,fun a ha=>new a (hne a ha)⟩
 ·rw [List.length_append] at hj;obtain ⟨A,c,e,r,hcl,hne⟩:=hnj (j - ps.length) (by omega);rw [List.getElem?_append_right (by omega),List.getElem_append_right (by omega),hvl];exact ⟨A,c,e,r.grown hg fun a ha=>(hne a ha).2.1,hcl,fun a ha=>new a (hne a ha)⟩
theorem RowP.mono {B B':Nat}{w:World}{v:Value}{ps:List (List Int)}(h:RowP B w v ps)(hB:B'≤B):RowP B' w v ps:=by
 obtain ⟨vs,h1,h2⟩:=h;refine ⟨vs,⟨h1.1,?_⟩,fun j hj=>?_⟩
 ·rcases h1.2 with hn|⟨g,cap,cur,rfl,hb,hg,r⟩
  ·exact .inl hn
  ·exact .inr ⟨g,cap,cur,rfl,by omega,hg,r⟩
 ·obtain ⟨A,c,e,r,hcl,hne⟩:=h2 j hj;exact ⟨A,c,e,r,hcl,fun a ha=>⟨by have:=(hne a ha).1;omega,(hne a ha).2⟩⟩
theorem RowI.mono {B B':Nat}{w:World}{v:Value}{xs:List Int}(h:RowI B w v xs)(hB:B'≤B):RowI B' w v xs:=by
 refine ⟨h.1,?_⟩;rcases h.2 with hn|⟨g,cap,cur,rfl,hb,hg,r⟩
 ·exact .inl hn
 ·exact .inr ⟨g,cap,cur,rfl,by omega,hg,r⟩
theorem RowI.alloc {B:Nat}{w:World}{v:Value}{xs:List Int}(h:RowI B w v xs)(o:Obj):RowI B (w.alloc o) v xs:=h.keep fun b _ hl=>Below.heap_alloc w o b hl
theorem RowP.alloc {B:Nat}{w:World}{v:Value}{ps:List (List Int)}(h:RowP B w v ps)(o:Obj):RowP B (w.alloc o) v ps:=h.below (bw1)
theorem RdI.alloc' {w:World}{A:Option Addr}{xs:List Int}(h:RdI w A xs)(o:Obj):RdI (w.alloc o) A xs:=h.keeps (.alloc w o)
theorem RowI.form2 {B:Nat}{w:World}{v:Value}{xs:List Int}(h:RowI B w v xs):∃A c,v = .slice A xs.length c∧RdI w A xs∧∀a,A=some a→B≤a.block∧a.block<w.heap.size:=by
 obtain ⟨A,c,rfl,hi⟩:=h.form;refine ⟨A,c,rfl,hi,fun a ha=>?_⟩;subst ha;have h3:=h.lt a.block rfl;exact h3
mutual
def jP (f:Tm→Bool):List Int→Tm→List (List Int)|p,.mk k n ks=>(if f (.mk k n ks)=true then [p] else [])++jC f p 0 ks
def jC (f:Tm→Bool):List Int→Nat→List Tm→List (List Int)|_,_,[]=>[]|p,i,t::ts=>jP f (p++[(i:Int)]) t++jC f p (i+1) ts
end
theorem aBc (f:Tm→Bool)(t:Tm):∀p x,x∈jP f p t→∃q,x=p++q:=by
 refine Tm.rec (motive_1:=fun t=>∀p x,x∈jP f p t→∃q,x=p++q)
  (motive_2 := fun ts => ∀ p i x, x ∈ jC f p i ts → ∃ (j : Nat) (q : List Int), i ≤ j ∧ x = p ++ (j : Int) :: q) ?_ ?_ ?_ t
 ·intro k n ks ih p x hx;rw [jP] at hx;rcases List.mem_append.1 hx with hx|hx
  ·split at hx
   ·rw [List.mem_singleton] at hx;exact ⟨[],by rw [hx,List.append_nil]⟩
   ·cases hx
  ·obtain ⟨j,q,_,rfl⟩:=ih p 0 x hx;exact ⟨_,rfl⟩
 ·intro p i x hx;rw [jC] at hx;cases hx
 ·intro t ts h1 h2 p i x hx;rw [jC] at hx;rcases List.mem_append.1 hx with hx|hx
  ·obtain ⟨q,rfl⟩:=h1 _ x hx;exact ⟨i,q,iD _,by rw [List.append_assoc];rfl⟩
  ·obtain ⟨j,q,hj,rfl⟩:=h2 p (i+1) x hx;exact ⟨j,q,by omega,rfl⟩
theorem sH (f:Tm→Bool):∀(ts:List Tm) p i x,x∈jC f p i ts→∃(j:Nat) (q:List Int),i≤j∧x=p++(j:Int)::q
 | [],p,i,x,hx=>by rw [jC] at hx;cases hx
 | t::ts,p,i,x,hx=>by
  rw [jC] at hx;rcases List.mem_append.1 hx with hx|hx
  ·obtain ⟨q,rfl⟩:=aBc f t _ x hx;exact ⟨i,q,iD _,by rw [List.append_assoc];rfl⟩
  ·obtain ⟨j,q,hj,rfl⟩:=sH f ts p (i+1) x hx;exact ⟨j,q,by omega,rfl⟩
def eU:Tm→Bool:=fun _=>true
theorem sG (t:Tm):∀p,(jP eU p t).length=t.size:=by
 refine Tm.rec (motive_1:=fun t=>∀p,(jP eU p t).length=t.size) (motive_2:=fun ts=>∀p i,(jC eU p i ts).length=aG ts) ?_ ?_ ?_ t
 ·intro k n ks ih p;rw [jP,if_pos (show eU (.mk k n ks)=true from rfl),List.length_append,ih,Tm.size,List.length_singleton];omega
 ·intro p i;rfl
 ·intro t ts h1 h2 p i;rw [jC,List.length_append,h1,h2,aG]
theorem sZ {p:List Int}{i j:Nat}{q r:List Int}(h:p++(i:Int)::q=p++(j:Int)::r):i=j:=by
 have:=List.append_cancel_left h;injection this with h1 h2;omega
theorem vS (f:Tm→Bool)(p:List Int)(us:List Tm):∀(ts:List Tm) (i:Nat),jC f p i (ts++us)=jC f p i ts++jC f p (i+ts.length) us
 | [],i=>by simp [jC]
 | t::ts,i=>by rw [List.cons_append,jC,jC,vS f p us ts (i+1),List.append_assoc,List.length_cons,show i+1+ts.length=i+(ts.length+1) from by omega]
theorem nZ (f:Tm→Bool)(p:List Int){ks:List Tm}{j:Nat}(hj:j<ks.length):jC f p 0 (ks.take (j+1))=jC f p 0 (ks.take j)++jP f (p++[(j:Int)]) ks[j]:=by
 rw [oR hj,vS,List.length_take,Nat.min_eq_left (Nat.le_of_lt hj),Nat.zero_add,jC,jC,List.append_nil]
theorem uR (f:Tm→Bool)(t:Tm):∀p,(jP f p t).length≤t.size:=by
 refine Tm.rec (motive_1:=fun t=>∀p,(jP f p t).length≤t.size) (motive_2:=fun ts=>∀p i,(jC f p i ts).length≤aG ts) ?_ ?_ ?_ t
 ·intro k n ks ih p;rw [jP,List.length_append,Tm.size];have:=ih p 0;split<;>simp<;>omega
 ·intro p i;simp [jC]
 ·intro t ts h1 h2 p i;rw [jC,List.length_append,aG];have:=h1 (p++[(i:Int)]);have:=h2 p (i+1);omega
theorem mZ (f:Tm→Bool):∀(ts:List Tm) p i,(jC f p i ts).length≤aG ts
 | [],p,i=>by simp [jC]
 | t::ts,p,i=>by rw [jC,List.length_append,aG];have:=uR f t (p++[(i:Int)]);have:=mZ f ts p (i+1);omega
section
variable {gf:Nat}{w w1 w2:World}{v v1 v2 v1' v2':Value}
theorem OwnTo.ne {b:Nat}(h:OwnTo w v v1)(hb:b<w.heap.size)(hv:v.ownBlock≠some b):v1.ownBlock≠some b:=by
 rcases h with h|⟨g,hg,h⟩
 ·rw [h];exact hv
 ·rw [h];exact fun e=>by injection e with e;omega
theorem OwnTo.trans (h:OwnTo w v v1)(k:OwnTo w1 v1 v2)(hs:w.heap.size≤w1.heap.size):OwnTo w v v2:=by
 rcases k with k|⟨g,hg,k⟩
 ·exact h.imp (fun h=>k.trans h) fun ⟨g,hg,h⟩=>⟨g,hg,k.trans h⟩
 ·exact .inr ⟨g,by omega,k⟩
theorem Chg.trans (h:Chg gf v1 v2 w w1)(o1:OwnTo w v1 v1')(o2:OwnTo w v2 v2')(k:Chg gf v1' v2' w1 w2):Chg gf v1 v2 w w2:=
 ⟨k.os.trans h.os,k.tape.trans h.tape,k.output.trans h.output,Nat.le_trans h.size k.size,fun b hb h1 h2 h3=>
  (k.block b (kT hb h.size) h1 (o1.ne hb h2) (o2.ne hb h3)).trans (h.block b hb h1 h2 h3)⟩
theorem Chg.below (h:Chg gf v1 v2 w w1)(hb:Bw w1 w2):Chg gf v1 v2 w w2:=
 ⟨hb.os.trans h.os,hb.tape.trans h.tape,hb.output.trans h.output,Nat.le_trans h.size hb.size,fun b hl h1 h2 h3=>(hb.block b (kT hl h.size)).trans (h.block b hl h1 h2 h3)⟩
theorem Chg.blk {g:Nat}{cs:Array Value}(h:Chg gf v1 v2 w w1)(hb:Blk w g cs)(h0:g≠gf)(h1:v1.ownBlock≠some g)(h2:v2.ownBlock≠some g):Blk w1 g cs:=by
 have hl:=hb.lt;obtain ⟨t,hb⟩:=hb;exact ⟨t,(h.block g hl h0 h1 h2).trans hb⟩
theorem Chg.cell {b o:Nat}{x:Value}(h:Chg gf v1 v2 w w1)(hx:w.cell? ⟨b,o,none⟩=some x)(h0:b≠gf)(h1:v1.ownBlock≠some b)(h2:v2.ownBlock≠some b):w1.cell? ⟨b,o,none⟩=some x:=
 (World.cell?_of_block (w:=w) (a:=⟨b,o,none⟩) (h.block b (jN w _ hx) h0 h1 h2)).trans hx
end
def PO (L:Nat)(X:Nat→Prop)(w:World)(v v1 v2:Value)(b:Nat):Prop:=L≤b∧b<w.heap.size∧v.ownBlock≠some b∧v1.ownBlock≠some b∧v2.ownBlock≠some b∧¬X b
def OutR (L:Nat)(X:Nat→Prop)(w:World)(v v1 v2:Value)(os:List Tm):Prop:=∃xs,w.ownsRow L 25 3 v os.length xs∧RdX (PO L X w v v1 v2) w os xs
section
variable {L gf:Nat}{X X':Nat→Prop}{w w':World}{v v1 v2 v1' v2':Value}{os:List Tm}
theorem OutR.nil:OutR L X w (.slice none 0 0) v1 v2 []:=⟨[],World.ownsRow_nil _ _ _ _,rfl⟩
theorem OutR.own (h:OutR L X w v v1 v2 os):∀g,v.ownBlock=some g→L≤g∧g<w.heap.size:=by
 obtain ⟨xs,h1,_⟩:=h;exact fun g hg=>h1.lt g hg
theorem OutR.mono (h:OutR L X w v v1 v2 os)(hX:∀b,b<w.heap.size→X' b→X b):OutR L X' w v v1 v2 os:=by
 obtain ⟨xs,h1,h2⟩:=h;exact ⟨xs,h1,h2.keep (fun b hb=>⟨hb.1,hb.2.1,hb.2.2.1,hb.2.2.2.1,hb.2.2.2.2.1,fun e=>hb.2.2.2.2.2 (hX b hb.2.1 e)⟩) fun _ _ _=>rfl⟩
theorem OutR.frame (h:OutR L X w v v1 v2 os)(hs:w.heap.size≤w'.heap.size)(o1:OwnTo w v1 v1')(o2:OwnTo w v2 v2')(hv:∀g,v.ownBlock=some g→w'.heap[g]?=w.heap[g]?)(hk:∀b,L≤b→b<w.heap.size→v.ownBlock≠some b→v1.ownBlock≠some b→v2.ownBlock≠some b→¬X b→w'.heap[b]?=w.heap[b]?):OutR L X w' v v1' v2' os:=by
 obtain ⟨xs,h1,h2⟩:=h;exact ⟨xs,lE h1 hv,h2.keep (fun b hb=>⟨hb.1,kT hb.2.1 hs,hb.2.2.1,o1.ne hb.2.1 hb.2.2.2.1,o2.ne hb.2.1 hb.2.2.2.2.1,hb.2.2.2.2.2⟩) fun b hb hl=>hk b hb.1 hl hb.2.2.1 hb.2.2.2.1 hb.2.2.2.2.1 hb.2.2.2.2.2⟩
theorem OutR.rd (h:OutR L X w v v1 v2 os)(hv:∀g,v.ownBlock=some g→v1.ownBlock≠some g∧v2.ownBlock≠some g):∃A c,v = .slice A os.length c∧RdP (fun b=>L≤b∧v1.ownBlock≠some b∧v2.ownBlock≠some b) w A 0 os:=by
 obtain ⟨xs,h1,h2⟩:=h;rcases h1.2 with ⟨rfl,h0⟩|⟨g,cap,cur,rfl,hb,hg,_,_,_,htk⟩
 ·have:os=[]:=lEn h0;subst this;exact ⟨none,0,rfl,RdP.nil⟩
 ·refine ⟨_,_,rfl,RdX.rdp ⟨hb,hv g rfl⟩ (h2.keep (fun b hb=>⟨hb.1,hb.2.2.2.1,hb.2.2.2.2.1⟩) fun _ _ _=>rfl) fun j u hu=>?_⟩;rw [show 0+0*3+j=j by omega,cell_of_row w g j cur 25 (0,0) hg];have h3:=htk;rw [← h3,List.getElem?_take] at hu;split at hu
  ·simpa using hu
  ·cases hu
theorem OutR.shape (h:OutR L X w v v1 v2 os):∃A c,v = .slice A os.length c:=by
 obtain ⟨xs,h1,h2⟩:=h;rcases h1.2 with ⟨rfl,h0⟩|⟨g,cap,cur,rfl,hb,hg,_,_,_,htk⟩
 ·exact ⟨none,0,by rw [h0]⟩
 ·exact ⟨_,_,rfl⟩
end
def FE (E:Nat→Prop)(W:Nat)(v:Value)(X:Nat→Prop)(b:Nat):Prop:=E b∨(W≤b∧b<W+4)∨v.ownBlock=some b∨X b
structure Com (B gf:Nat) (E:Nat→Prop) (v1 v2:Value) (w:World) (c0 c1:Array Value) (k n:Int) (X:Nat→Prop) (v1' v2' v:Value) (l r os:List Tm) (wr:World):Prop where
 chg:Chg gf v1 v2 w wr
 o1:OwnTo w v1 v1'
 o2:OwnTo w v2 v2'
 fin:Blk wr gf #[v1',v2']
 rows:Rows2 B (FE E w.heap.size v X) wr v1' v2' l r
 out:OutR (w.heap.size+4) X wr v v1' v2' os
 b0:Blk wr w.heap.size c0
 b1:Blk wr (w.heap.size+1) c1
 b2:Blk wr (w.heap.size+1+1) Zr
 b3:Blk wr (w.heap.size+1+1+1) #[.int .i64 k,.int .i64 n,v]
section
variable {B gf:Nat}{E X X':Nat→Prop}{v1 v2 v1' v2' v v':Value}{w wr wy w1:World}{c0 c1:Array Value}{k n:Int}{l r os l2 r2 os':List Tm}
theorem Com.size (h:Com B gf E v1 v2 w c0 c1 k n X v1' v2' v l r os wr):w.heap.size+1+1+1<wr.heap.size:=h.b3.lt
theorem Com.free (h:Com B gf E v1 v2 w c0 c1 k n X v1' v2' v l r os wr){b:Nat}(hb:w.heap.size≤b∧b<w.heap.size+4):v1'.ownBlock≠some b∧v2'.ownBlock≠some b:=
 ⟨fun e=>h.rows.e1 b e (.inr (.inl hb)),fun e=>h.rows.e2 b e (.inr (.inl hb))⟩
theorem Com.below (h:Com B gf E v1 v2 w c0 c1 k n X v1' v2' v l r os wr)(hb:Bw wr w1):Com B gf E v1 v2 w c0 c1 k n X v1' v2' v l r os w1:=
 ⟨h.chg.below hb,h.o1,h.o2,h.fin.keep hb,h.rows.below hb,h.out.frame hb.size (.refl _ _) (.refl _ _) (fun g hg=>hb.block g (h.out.own g hg).2) (fun b _ hl _ _ _ _=>hb.block b hl),h.b0.keep hb,h.b1.keep hb,h.b2.keep hb,h.b3.keep hb⟩
theorem Com.alloc (h:Com B gf E v1 v2 w c0 c1 k n X v1' v2' v l r os wr)(o:Obj):Com B gf E v1 v2 w c0 c1 k n X v1' v2' v l r os (wr.alloc o):=h.below (bw1)
theorem Com.drew (h:Com B gf E v1 v2 w c0 c1 k n X v1' v2' v l r os wr):Com B gf E v1 v2 w c0 c1 k n X v1' v2' v l r os wr.drew:=h.below (dV _ _).drew
theorem aPg (hgf:gf<B)(hB:B≤w.heap.size)(hE:∀b,E b→b<w.heap.size)(hf:Blk w gf #[v1,v2])(hR:Rows2 B E w v1 v2 l r)(hb:Bw w wr)(h0:Blk wr w.heap.size c0)(h1:Blk wr (w.heap.size+1) c1)(h2:Blk wr (w.heap.size+1+1) Zr)(h3:Blk wr (w.heap.size+1+1+1) (Ro k n none 0 0)) :
  Com B gf E v1 v2 w c0 c1 k n (fun _=>False) v1 v2 (.slice none 0 0) l r [] wr:=
 ⟨.of_below hb,.refl _ _,.refl _ _,hf.keep hb,(hR.mono (fun b hb e=>by
  rcases e with e|e|e|e
  ·exact e
  ·omega
  ·cases e
  ·exact e.elim)).below hb,OutR.nil,h0,h1,h2,h3⟩
end
theorem aOx {B:Nat}{E:Nat→Prop}{w:World}{A1 A2:Option Addr}{n1 n2 c1 c2:Nat}{l r:List Tm}(h:Rows2 B E w (.slice A1 n1 c1) (.slice A2 n2 c2) l r):((A1=none∨∃g,A1=some ⟨g,0,none⟩)∧l.length≤c1)∧((A2=none∨∃g,A2=some ⟨g,0,none⟩)∧r.length≤c2):=by
 obtain ⟨⟨xs,ys,h1,h2,_⟩,_⟩:=h;refine ⟨?_,?_⟩
 ·rcases h1.2 with ⟨e,h0⟩|⟨g,cap,cur,e,hb,hg,k1,_⟩
  ·injection e with e1 e2 e3;subst e1 e3;exact ⟨.inl rfl,by omega⟩
  ·injection e with e1 e2 e3;subst e1 e3;exact ⟨.inr ⟨g,rfl⟩,k1⟩
 ·rcases h2.2 with ⟨e,h0⟩|⟨g,cap,cur,e,hb,hg,k1,_⟩
  ·injection e with e1 e2 e3;subst e1 e3;exact ⟨.inl rfl,by omega⟩
  ·injection e with e1 e2 e3;subst e1 e3;exact ⟨.inr ⟨g,rfl⟩,k1⟩
section
variable {B gf z:Nat}{E E':Nat→Prop}{v1 v2 v1' v2':Value}{w w4:World}{l r l2 r2 kso:List Tm}{ko no:Int}{st:Prs}{Ao:Option Addr}{co:Nat}
end
theorem RdP.atp {p:Nat→Prop}{w:World}{A:Option Addr}{ks:List Tm}(hr:RdP p w A 0 ks){j:Nat}(hj:j<ks.length) :
  ∃b off k n ks' A' c,A=some ⟨b,off,none⟩∧ks[j] = .mk k n ks'∧p b∧w.cell? ⟨b,off+j*3,none⟩=some (.int .i64 k)∧w.cell? ⟨b,off+j*3+1,none⟩=some (.int .i64 n)∧
   w.cell? ⟨b,off+j*3+2,none⟩=some (.slice A' ks'.length c)∧ks'.length≤9223372036854775807∧RdP p w A' 0 ks':=by
 obtain ⟨b,off,hA,hc⟩:=hr.get hj;rw [Nat.zero_add] at hc;generalize ks[j]=t at hc⊢
 obtain ⟨k,n,ks'⟩:=t;obtain ⟨hp,h1,h2,A',c,h3,h4,h5⟩:=RdPC.iff.1 hc;exact ⟨b,off,k,n,ks',A',c,hA,rfl,hp,h1,h2,h3,h4,h5⟩
structure KS (W:Nat) (c0 c1:Array Value) (b o:Nat) (x0 x1 x2:Value) (b' o':Nat) (y0 y1 y2:Value) (w:World):Prop where
 h0:Blk w W c0
 h1:Blk w (W+1) c1
 p0:w.cell? ⟨b,o,none⟩=some x0
 p1:w.cell? ⟨b,o+1,none⟩=some x1
 p2:w.cell? ⟨b,o+2,none⟩=some x2
 q0:w.cell? ⟨b',o',none⟩=some y0
 q1:w.cell? ⟨b',o'+1,none⟩=some y1
 q2:w.cell? ⟨b',o'+2,none⟩=some y2
section
variable {W gf:Nat}{c0 c1:Array Value}{b o b' o':Nat}{x0 x1 x2 y0 y1 y2 v1 v2:Value}{w w':World}
theorem KS.below (h:KS W c0 c1 b o x0 x1 x2 b' o' y0 y1 y2 w)(hb:Bw w w'):KS W c0 c1 b o x0 x1 x2 b' o' y0 y1 y2 w':=
 ⟨h.h0.keep hb,h.h1.keep hb,bR hb _ _ h.p0,bR hb _ _ h.p1,bR hb _ _ h.p2,bR hb _ _ h.q0,bR hb _ _ h.q1,bR hb _ _ h.q2⟩
theorem KS.alloc (h:KS W c0 c1 b o x0 x1 x2 b' o' y0 y1 y2 w)(ob:Obj):KS W c0 c1 b o x0 x1 x2 b' o' y0 y1 y2 (w.alloc ob):=h.below (bw1)
theorem KS.chg (h:KS W c0 c1 b o x0 x1 x2 b' o' y0 y1 y2 w)(hc:Chg gf v1 v2 w w')(f0:W≠gf∧v1.ownBlock≠some W∧v2.ownBlock≠some W)(f1:W+1≠gf∧v1.ownBlock≠some (W+1)∧v2.ownBlock≠some (W+1))
  (f2 : b ≠ gf ∧ v1.ownBlock ≠ some b ∧ v2.ownBlock ≠ some b) (f3 : b' ≠ gf ∧ v1.ownBlock ≠ some b' ∧ v2.ownBlock ≠ some b') : KS W c0 c1 b o x0 x1 x2 b' o' y0 y1 y2 w' :=
 ⟨hc.blk h.h0 f0.1 f0.2.1 f0.2.2,hc.blk h.h1 f1.1 f1.2.1 f1.2.2,hc.cell h.p0 f2.1 f2.2.1 f2.2.2,hc.cell h.p1 f2.1 f2.2.1 f2.2.2,hc.cell h.p2 f2.1 f2.2.1 f2.2.2,hc.cell h.q0 f3.1 f3.2.1 f3.2.2,hc.cell h.q1 f3.1 f3.2.1 f3.2.2,hc.cell h.q2 f3.1 f3.2.1 f3.2.2⟩
end
theorem Com.lt {B gf:Nat}{E X:Nat→Prop}{v1 v2 v1' v2' v:Value}{w wr:World}{c0 c1:Array Value}{k n:Int}{l r os:List Tm}(h:Com B gf E v1 v2 w c0 c1 k n X v1' v2' v l r os wr)(hE:∀b,E b→b<w.heap.size)(hX:∀b,X b→b<wr.heap.size):∀b,FE E w.heap.size v X b→b<wr.heap.size:=by
 have hs:=h.size;intro b e;rcases e with e|e|e|e
 ·have:=hE b e;omega
 ·omega
 ·exact (h.out.own b e).2
 ·exact hX b e
theorem nV {ks:List Tm}{j:Nat}(hj:j<ks.length):aG (ks.take (j+1))=aG (ks.take j)+ks[j].size:=by
 rw [oR hj,jS];simp [aG]
theorem eS (ks:List Tm)(j:Nat):aG (ks.take j)≤aG ks:=by
 have:=jS (ks.take j) (ks.drop j);rw [List.take_append_drop] at this;omega
theorem lM {P:Program}{ops:Array Oper}{Q:Exit→Act→World→Prop}{l:List Oper}{a:Act}{w:World}(h:∀wx,wx=w→wpList P ops Q l a wx):wpList P ops Q l a w:=h w rfl
theorem RdP.set3 {p:Nat→Prop}{w:World}{A:Option Addr}{ks:List Tm}(h:RdP p w A 0 ks){g:Nat}(hg:¬p g)(x y z:Value):RdP p (((w.setCell ⟨g,0,none⟩ x).setCell ⟨g,1,none⟩ y).setCell ⟨g,2,none⟩ z) A 0 ks:=((h.setCell hg _).setCell hg _).setCell hg _
theorem Tx.cast {d:Nat}{t:Tm}{b b':List UInt8}(h:Tx d t b)(e:b=b'):Tx d t b':=e▸h
def GoodL:List Tm→List (List UInt8)→Prop
 | [],[]=>True
 | t::ts,x::xs=>eY t x∧GoodL ts xs
 | _,_=>False
theorem GoodL.at_:∀{ts:List Tm} {xs:List (List UInt8)},GoodL ts xs→∀(j:Nat) (t:Tm) (x:List UInt8),ts[j]?=some t→xs[j]?=some x→eY t x
 | [],_,_,j,t,x,h1,_=>by simp at h1
 | _::_,[],h,_,_,_,_,_=>h.elim
 | a::ts,b::xs,h,0,t,x,h1,h2=>by
  simp only [List.getElem?_cons_zero,Option.some.injEq] at h1 h2
  subst h1 h2;exact h.1
 | a::ts,b::xs,h,j+1,t,x,h1,h2=>by
  simp only [List.getElem?_cons_succ] at h1 h2
  exact h.2.at_ j t x h1 h2
def prs0:List Tm:=[(.mk 4 0 [(.mk 2 0 []),(.mk 4 0 [(.mk 1 0 []),(.mk 1 0 [])])]),(.mk 4 0 [(.mk 6 0 []),(.mk 11 0 [(.mk 1 0 [])])]),(.mk 4 0 [(.mk 6 0 []),(.mk 4 0 [(.mk 6 0 []),(.mk 9 0 [(.mk 4 0 [(.mk 6 0 []),(.mk 6 0 [])]),(.mk 1 1 []),(.mk 4 0 [(.mk 6 0 []),(.mk 4 0 [(.mk 6 0 []),(.mk 8 0 [(.mk 1 0 [])])])]),(.mk 1 0 [])])])]),(.mk 3 0 [(.mk 6 0 []),(.mk 2 0 [])]),(.mk 5 0 [(.mk 4 0 [(.mk 2 0 []),(.mk 4 0 [(.mk 1 0 []),(.mk 1 0 [])])]),(.mk 6 0 [])]),(.mk 4 0 [(.mk 13 0 [(.mk 6 0 []),(.mk 6 0 [])]),(.mk 14 0 [(.mk 13 0 [(.mk 6 0 []),(.mk 6 0 [])]),(.mk 16 0 [(.mk 1 0 [])]),(.mk 15 0 [(.mk 1 0 [])])])]),(.mk 4 0 [(.mk 6 0 []),(.mk 14 0 [(.mk 13 0 [(.mk 6 0 []),(.mk 10 0 [(.mk 6 0 []),(.mk 1 0 []),(.mk 1 1 [])])]),(.mk 1 0 []),(.mk 11 0 [(.mk 1 0 [])])])]),(.mk 4 0 [(.mk 6 0 []),(.mk 4 0 [(.mk 6 0 []),(.mk 4 0 [(.mk 10 0 [(.mk 6 0 []),(.mk 1 1 []),(.mk 1 0 [])]),(.mk 12 0 [(.mk 4 0 [(.mk 6 0 []),(.mk 10 0 [(.mk 6 0 []),(.mk 1 0 []),(.mk 1 3 [])])]),(.mk 1 0 []),(.mk 11 0 [(.mk 1 2 [])])])])])]),(.mk 9 0 [(.mk 4 0 [(.mk 6 0 []),(.mk 2 0 [])]),(.mk 6 0 []),(.mk 4 0 [(.mk 6 0 []),(.mk 4 0 [(.mk 2 0 []),(.mk 3 0 [(.mk 6 0 []),(.mk 1 1 [])])])]),(.mk 8 0 [(.mk 8 0 [(.mk 7 0 [])])])]),(.mk 3 0 [(.mk 2 0 []),(.mk 3 0 [(.mk 1 0 []),(.mk 1 1 [])])]),(.mk 4 0 [(.mk 2 0 []),(.mk 4 0 [(.mk 3 0 [(.mk 1 0 []),(.mk 1 1 [])]),(.mk 1 0 [])])]),(.mk 2 2 [])]
def aLe:List (List UInt8):=[[91,42,48,93,91,35,48,93,35,48],[91,78,93,33,35,48],[91,78,93,91,78,93,60,91,78,93,78,44,35,49,44,91,78,93,91,78,93,43,35,48,44,35,48,62],[40,78,62,42,48,41],[40,91,42,48,93,91,35,48,93,35,48,32,78,41],[91,40,78,42,78,41,93,124,40,78,42,78,41,44,95,35,48,44,94,35,48,124],[91,78,93,124,40,78,42,123,78,44,35,48,44,35,49,125,41,44,35,48,44,33,35,48,124],[91,78,93,91,78,93,91,123,78,44,35,49,44,35,48,125,93,64,60,91,78,93,123,78,44,35,48,44,35,51,125,44,35,48,44,33,35,50,62],[60,91,78,93,42,48,44,78,44,91,78,93,91,42,48,93,40,78,62,35,49,41,44,43,43,48,62],[40,42,48,62,40,35,48,62,35,49,41,41],[91,42,48,93,91,40,35,48,62,35,49,41,93,35,48],[42,50]]
theorem aPr:eY (.mk 4 0 [(.mk 2 0 []),(.mk 4 0 [(.mk 1 0 []),(.mk 1 0 [])])]) [91,42,48,93,91,35,48,93,35,48]:=⟨Tx.cast (.lam 29 _ _ _ _ (.sort 28 0 48 (by decide)) (.lam 28 _ _ _ _ (.var 27 0 48 (by decide)) (.var 27 0 48 (by decide)))) (by simp [gY]),by decide +kernel,by decide⟩
theorem aRx:eY (.mk 4 0 [(.mk 6 0 []),(.mk 11 0 [(.mk 1 0 [])])]) [91,78,93,33,35,48]:=⟨Tx.cast (.lam 29 _ _ _ _ (.nat 28) (.pre 28 11 33 _ _ (.inr (.inl ⟨rfl,rfl⟩)) (.var 27 0 48 (by decide)))) (by simp [gY]),by decide +kernel,by decide⟩
theorem aRp:eY (.mk 4 0 [(.mk 6 0 []),(.mk 4 0 [(.mk 6 0 []),(.mk 9 0 [(.mk 4 0 [(.mk 6 0 []),(.mk 6 0 [])]),(.mk 1 1 []),(.mk 4 0 [(.mk 6 0 []),(.mk 4 0 [(.mk 6 0 []),(.mk 8 0 [(.mk 1 0 [])])])]),(.mk 1 0 [])])])]) [91,78,93,91,78,93,60,91,78,93,78,44,35,49,44,91,78,93,91,78,93,43,35,48,44,35,48,62]:=⟨Tx.cast (.lam 29 _ _ _ _ (.nat 28) (.lam 28 _ _ _ _ (.nat 27) (tx4 (.inl ⟨rfl,rfl,rfl,rfl⟩) (.lam 26 _ _ _ _ (.nat 25) (.nat 25)) (.var 26 1 49 (by decide)) (.lam 26 _ _ _ _ (.nat 25) (.lam 25 _ _ _ _ (.nat 24) (.pre 24 8 43 _ _ (.inl ⟨rfl,rfl⟩) (.var 23 0 48 (by decide))))) (.var 26 0 48 (by decide))))) (by simp [gY]),by decide +kernel,by decide⟩
theorem aRf:eY (.mk 3 0 [(.mk 6 0 []),(.mk 2 0 [])]) [40,78,62,42,48,41]:=⟨Tx.cast (.rnd 29 3 62 _ _ _ _ (.inl ⟨rfl,rfl⟩) (.nat 28) (.sort 28 0 48 (by decide))) (by simp [gY]),by decide +kernel,by decide⟩
theorem aQl:eY (.mk 5 0 [(.mk 4 0 [(.mk 2 0 []),(.mk 4 0 [(.mk 1 0 []),(.mk 1 0 [])])]),(.mk 6 0 [])]) [40,91,42,48,93,91,35,48,93,35,48,32,78,41]:=⟨Tx.cast (.rnd 29 5 32 _ _ _ _ (.inr (.inr ⟨rfl,rfl⟩)) (.lam 28 _ _ _ _ (.sort 27 0 48 (by decide)) (.lam 27 _ _ _ _ (.var 26 0 48 (by decide)) (.var 26 0 48 (by decide)))) (.nat 28)) (by simp [gY]),by decide +kernel,by decide⟩
theorem aQq:eY (.mk 4 0 [(.mk 13 0 [(.mk 6 0 []),(.mk 6 0 [])]),(.mk 14 0 [(.mk 13 0 [(.mk 6 0 []),(.mk 6 0 [])]),(.mk 16 0 [(.mk 1 0 [])]),(.mk 15 0 [(.mk 1 0 [])])])]) [91,40,78,42,78,41,93,124,40,78,42,78,41,44,95,35,48,44,94,35,48,124]:=⟨Tx.cast (.lam 29 _ _ _ _ (.rnd 28 13 42 _ _ _ _ (.inr (.inl ⟨rfl,rfl⟩)) (.nat 27) (.nat 27)) (tx3 (.inr (.inr (.inl ⟨rfl,rfl,rfl,rfl⟩))) (.rnd 27 13 42 _ _ _ _ (.inr (.inl ⟨rfl,rfl⟩)) (.nat 26) (.nat 26)) (.pre 27 16 95 _ _ (.inr (.inr (.inr ⟨rfl,rfl⟩))) (.var 26 0 48 (by decide))) (.pre 27 15 94 _ _ (.inr (.inr (.inl ⟨rfl,rfl⟩))) (.var 26 0 48 (by decide))))) (by simp [gY]),by decide +kernel,by decide⟩
theorem aQs:eY (.mk 4 0 [(.mk 6 0 []),(.mk 14 0 [(.mk 13 0 [(.mk 6 0 []),(.mk 10 0 [(.mk 6 0 []),(.mk 1 0 []),(.mk 1 1 [])])]),(.mk 1 0 []),(.mk 11 0 [(.mk 1 0 [])])])]) [91,78,93,124,40,78,42,123,78,44,35,48,44,35,49,125,41,44,35,48,44,33,35,48,124]:=⟨Tx.cast (.lam 29 _ _ _ _ (.nat 28) (tx3 (.inr (.inr (.inl ⟨rfl,rfl,rfl,rfl⟩))) (.rnd 27 13 42 _ _ _ _ (.inr (.inl ⟨rfl,rfl⟩)) (.nat 26) (tx3 (.inr (.inl ⟨rfl,rfl,rfl,rfl⟩)) (.nat 25) (.var 25 0 48 (by decide)) (.var 25 1 49 (by decide)))) (.var 27 0 48 (by decide)) (.pre 27 11 33 _ _ (.inr (.inl ⟨rfl,rfl⟩)) (.var 26 0 48 (by decide))))) (by simp [gY]),by decide +kernel,by decide⟩
theorem aQd:eY (.mk 4 0 [(.mk 6 0 []),(.mk 4 0 [(.mk 6 0 []),(.mk 4 0 [(.mk 10 0 [(.mk 6 0 []),(.mk 1 1 []),(.mk 1 0 [])]),(.mk 12 0 [(.mk 4 0 [(.mk 6 0 []),(.mk 10 0 [(.mk 6 0 []),(.mk 1 0 []),(.mk 1 3 [])])]),(.mk 1 0 []),(.mk 11 0 [(.mk 1 2 [])])])])])]) [91,78,93,91,78,93,91,123,78,44,35,49,44,35,48,125,93,64,60,91,78,93,123,78,44,35,48,44,35,51,125,44,35,48,44,33,35,50,62]:=⟨Tx.cast (.lam 29 _ _ _ _ (.nat 28) (.lam 28 _ _ _ _ (.nat 27) (.lam 27 _ _ _ _ (tx3 (.inr (.inl ⟨rfl,rfl,rfl,rfl⟩)) (.nat 25) (.var 25 1 49 (by decide)) (.var 25 0 48 (by decide))) (tx3 (.inr (.inr (.inr ⟨rfl,rfl,rfl,rfl⟩))) (.lam 25 _ _ _ _ (.nat 24) (tx3 (.inr (.inl ⟨rfl,rfl,rfl,rfl⟩)) (.nat 23) (.var 23 0 48 (by decide)) (.var 23 3 51 (by decide)))) (.var 25 0 48 (by decide)) (.pre 25 11 33 _ _ (.inr (.inl ⟨rfl,rfl⟩)) (.var 24 2 50 (by decide))))))) (by simp [gY]),by decide +kernel,by decide⟩
theorem aRa:eY (.mk 9 0 [(.mk 4 0 [(.mk 6 0 []),(.mk 2 0 [])]),(.mk 6 0 []),(.mk 4 0 [(.mk 6 0 []),(.mk 4 0 [(.mk 2 0 []),(.mk 3 0 [(.mk 6 0 []),(.mk 1 1 [])])])]),(.mk 8 0 [(.mk 8 0 [(.mk 7 0 [])])])]) [60,91,78,93,42,48,44,78,44,91,78,93,91,42,48,93,40,78,62,35,49,41,44,43,43,48,62]:=⟨Tx.cast (tx4 (.inl ⟨rfl,rfl,rfl,rfl⟩) (.lam 28 _ _ _ _ (.nat 27) (.sort 27 0 48 (by decide))) (.nat 28) (.lam 28 _ _ _ _ (.nat 27) (.lam 27 _ _ _ _ (.sort 26 0 48 (by decide)) (.rnd 26 3 62 _ _ _ _ (.inl ⟨rfl,rfl⟩) (.nat 25) (.var 25 1 49 (by decide))))) (.pre 28 8 43 _ _ (.inl ⟨rfl,rfl⟩) (.pre 27 8 43 _ _ (.inl ⟨rfl,rfl⟩) (.zero 26)))) (by simp [gY]),by decide +kernel,by decide⟩
theorem aPv:eY (.mk 3 0 [(.mk 2 0 []),(.mk 3 0 [(.mk 1 0 []),(.mk 1 1 [])])]) [40,42,48,62,40,35,48,62,35,49,41,41]:=⟨Tx.cast (.rnd 29 3 62 _ _ _ _ (.inl ⟨rfl,rfl⟩) (.sort 28 0 48 (by decide)) (.rnd 28 3 62 _ _ _ _ (.inl ⟨rfl,rfl⟩) (.var 27 0 48 (by decide)) (.var 27 1 49 (by decide)))) (by simp [gY]),by decide +kernel,by decide⟩
theorem aNb:eY (.mk 4 0 [(.mk 2 0 []),(.mk 4 0 [(.mk 3 0 [(.mk 1 0 []),(.mk 1 1 [])]),(.mk 1 0 [])])]) [91,42,48,93,91,40,35,48,62,35,49,41,93,35,48]:=⟨Tx.cast (.lam 29 _ _ _ _ (.sort 28 0 48 (by decide)) (.lam 28 _ _ _ _ (.rnd 27 3 62 _ _ _ _ (.inl ⟨rfl,rfl⟩) (.var 26 0 48 (by decide)) (.var 26 1 49 (by decide))) (.var 27 0 48 (by decide)))) (by simp [gY]),by decide +kernel,by decide⟩
theorem aNm:eY (.mk 2 2 []) [42,50]:=⟨Tx.cast (.sort 29 2 50 (by decide)) (by simp [gY]),by decide +kernel,by decide⟩
theorem aGk:GoodL prs0 aLe:=⟨aPr,aRx,aRp,aRf,aQl,aQq,aQs,aQd,aRa,aPv,aNb,aNm,trivial⟩
def aNd:List Tm:=[(.mk 2 0 []),(.mk 1 0 []),(.mk 3 0 [(.mk 1 1 []),(.mk 1 2 [])])]
def aJk:List (List UInt8):=[[42,48],[35,48],[40,35,49,62,35,50,41]]
theorem aQz:eY (.mk 2 0 []) [42,48]:=⟨Tx.cast (.sort 29 0 48 (by decide)) (by simp [gY]),by decide +kernel,by decide⟩
theorem aRl:eY (.mk 1 0 []) [35,48]:=⟨Tx.cast (.var 29 0 48 (by decide)) (by simp [gY]),by decide +kernel,by decide⟩
theorem aQe:eY (.mk 3 0 [(.mk 1 1 []),(.mk 1 2 [])]) [40,35,49,62,35,50,41]:=⟨Tx.cast (.rnd 29 3 62 _ _ _ _ (.inl ⟨rfl,rfl⟩) (.var 28 1 49 (by decide)) (.var 28 2 50 (by decide))) (by simp [gY]),by decide +kernel,by decide⟩
theorem aFz:GoodL aNd aJk:=⟨aQz,aRl,aQe,trivial⟩
def prs1:List Tm:=[(.mk 5 0 [(.mk 1 0 []),(.mk 1 1 [])]),(.mk 11 0 [(.mk 1 1 [])]),(.mk 10 0 [(.mk 1 2 []),(.mk 1 1 []),(.mk 5 0 [(.mk 1 0 []),(.mk 1 1 [])])]),(.mk 4 0 [(.mk 1 2 []),(.mk 1 1 [])]),(.mk 14 0 [(.mk 13 0 [(.mk 1 2 []),(.mk 1 3 [])]),(.mk 1 1 []),(.mk 5 0 [(.mk 1 0 []),(.mk 1 1 [])])]),(.mk 4 0 [(.mk 10 0 [(.mk 1 2 []),(.mk 1 1 []),(.mk 5 0 [(.mk 1 0 []),(.mk 1 1 [])])]),(.mk 12 0 [(.mk 4 0 [(.mk 1 3 []),(.mk 1 4 [])]),(.mk 1 0 []),(.mk 1 2 [])])])]
def aKj:List (List UInt8):=[[40,35,48,32,35,49,41],[33,35,49],[123,35,50,44,35,49,44,40,35,48,32,35,49,41,125],[91,35,50,93,35,49],[124,40,35,50,42,35,51,41,44,35,49,44,40,35,48,32,35,49,41,124],[91,123,35,50,44,35,49,44,40,35,48,32,35,49,41,125,93,64,60,91,35,51,93,35,52,44,35,48,44,35,50,62]]
theorem aPy:eY (.mk 5 0 [(.mk 1 0 []),(.mk 1 1 [])]) [40,35,48,32,35,49,41]:=⟨Tx.cast (.rnd 29 5 32 _ _ _ _ (.inr (.inr ⟨rfl,rfl⟩)) (.var 28 0 48 (by decide)) (.var 28 1 49 (by decide))) (by simp [gY]),by decide +kernel,by decide⟩
theorem aRh:eY (.mk 11 0 [(.mk 1 1 [])]) [33,35,49]:=⟨Tx.cast (.pre 29 11 33 _ _ (.inr (.inl ⟨rfl,rfl⟩)) (.var 28 1 49 (by decide))) (by simp [gY]),by decide +kernel,by decide⟩
theorem aRq:eY (.mk 10 0 [(.mk 1 2 []),(.mk 1 1 []),(.mk 5 0 [(.mk 1 0 []),(.mk 1 1 [])])]) [123,35,50,44,35,49,44,40,35,48,32,35,49,41,125]:=⟨Tx.cast (tx3 (.inr (.inl ⟨rfl,rfl,rfl,rfl⟩)) (.var 28 2 50 (by decide)) (.var 28 1 49 (by decide)) (.rnd 28 5 32 _ _ _ _ (.inr (.inr ⟨rfl,rfl⟩)) (.var 27 0 48 (by decide)) (.var 27 1 49 (by decide)))) (by simp [gY]),by decide +kernel,by decide⟩
theorem aQw:eY (.mk 4 0 [(.mk 1 2 []),(.mk 1 1 [])]) [91,35,50,93,35,49]:=⟨Tx.cast (.lam 29 _ _ _ _ (.var 28 2 50 (by decide)) (.var 28 1 49 (by decide))) (by simp [gY]),by decide +kernel,by decide⟩
theorem aQr:eY (.mk 14 0 [(.mk 13 0 [(.mk 1 2 []),(.mk 1 3 [])]),(.mk 1 1 []),(.mk 5 0 [(.mk 1 0 []),(.mk 1 1 [])])]) [124,40,35,50,42,35,51,41,44,35,49,44,40,35,48,32,35,49,41,124]:=⟨Tx.cast (tx3 (.inr (.inr (.inl ⟨rfl,rfl,rfl,rfl⟩))) (.rnd 28 13 42 _ _ _ _ (.inr (.inl ⟨rfl,rfl⟩)) (.var 27 2 50 (by decide)) (.var 27 3 51 (by decide))) (.var 28 1 49 (by decide)) (.rnd 28 5 32 _ _ _ _ (.inr (.inr ⟨rfl,rfl⟩)) (.var 27 0 48 (by decide)) (.var 27 1 49 (by decide)))) (by simp [gY]),by decide +kernel,by decide⟩
theorem aRr:eY (.mk 4 0 [(.mk 10 0 [(.mk 1 2 []),(.mk 1 1 []),(.mk 5 0 [(.mk 1 0 []),(.mk 1 1 [])])]),(.mk 12 0 [(.mk 4 0 [(.mk 1 3 []),(.mk 1 4 [])]),(.mk 1 0 []),(.mk 1 2 [])])]) [91,123,35,50,44,35,49,44,40,35,48,32,35,49,41,125,93,64,60,91,35,51,93,35,52,44,35,48,44,35,50,62]:=⟨Tx.cast (.lam 29 _ _ _ _ (tx3 (.inr (.inl ⟨rfl,rfl,rfl,rfl⟩)) (.var 27 2 50 (by decide)) (.var 27 1 49 (by decide)) (.rnd 27 5 32 _ _ _ _ (.inr (.inr ⟨rfl,rfl⟩)) (.var 26 0 48 (by decide)) (.var 26 1 49 (by decide)))) (tx3 (.inr (.inr (.inr ⟨rfl,rfl,rfl,rfl⟩))) (.lam 27 _ _ _ _ (.var 26 3 51 (by decide)) (.var 26 4 52 (by decide))) (.var 27 0 48 (by decide)) (.var 27 2 50 (by decide)))) (by simp [gY]),by decide +kernel,by decide⟩
theorem aGc:GoodL prs1 aKj:=⟨aPy,aRh,aRq,aQw,aQr,aRr,trivial⟩
def aOq:List Tm:=[(.mk 6 0 []),(.mk 10 0 [(.mk 6 0 []),(.mk 1 0 []),(.mk 8 0 [(.mk 7 0 [])])])]
def aIc:List (List UInt8):=[[78],[123,78,44,35,48,44,43,48,125]]
theorem aSd:eY (.mk 6 0 []) [78]:=⟨Tx.cast (.nat 29) (by simp [gY]),by decide +kernel,by decide⟩
theorem aQy:eY (.mk 10 0 [(.mk 6 0 []),(.mk 1 0 []),(.mk 8 0 [(.mk 7 0 [])])]) [123,78,44,35,48,44,43,48,125]:=⟨Tx.cast (tx3 (.inr (.inl ⟨rfl,rfl,rfl,rfl⟩)) (.nat 28) (.var 28 0 48 (by decide)) (.pre 28 8 43 _ _ (.inl ⟨rfl,rfl⟩) (.zero 27))) (by simp [gY]),by decide +kernel,by decide⟩
theorem aFb:GoodL aOq aIc:=⟨aSd,aQy,trivial⟩
def prs2:List Tm:=[(.mk 1 0 []),(.mk 12 0 [(.mk 4 0 [(.mk 6 0 []),(.mk 10 0 [(.mk 6 0 []),(.mk 8 0 [(.mk 1 2 [])]),(.mk 8 0 [(.mk 1 0 [])])])]),(.mk 1 0 []),(.mk 11 0 [(.mk 8 0 [(.mk 1 1 [])])])]),(.mk 8 0 [(.mk 1 1 [])]),(.mk 12 0 [(.mk 4 0 [(.mk 6 0 []),(.mk 6 0 [])]),(.mk 1 0 []),(.mk 1 1 [])]),(.mk 9 0 [(.mk 4 0 [(.mk 6 0 []),(.mk 6 0 [])]),(.mk 7 0 []),(.mk 4 0 [(.mk 6 0 []),(.mk 4 0 [(.mk 6 0 []),(.mk 1 1 [])])]),(.mk 1 1 [])])]
def aIo:List (List UInt8):=[[35,48],[64,60,91,78,93,123,78,44,43,35,50,44,43,35,48,125,44,35,48,44,33,43,35,49,62],[43,35,49],[64,60,91,78,93,78,44,35,48,44,35,49,62],[60,91,78,93,78,44,48,44,91,78,93,91,78,93,35,49,44,35,49,62]]
theorem aQk:eY (.mk 1 0 []) [35,48]:=⟨Tx.cast (.var 29 0 48 (by decide)) (by simp [gY]),by decide +kernel,by decide⟩
theorem aPp:eY (.mk 12 0 [(.mk 4 0 [(.mk 6 0 []),(.mk 10 0 [(.mk 6 0 []),(.mk 8 0 [(.mk 1 2 [])]),(.mk 8 0 [(.mk 1 0 [])])])]),(.mk 1 0 []),(.mk 11 0 [(.mk 8 0 [(.mk 1 1 [])])])]) [64,60,91,78,93,123,78,44,43,35,50,44,43,35,48,125,44,35,48,44,33,43,35,49,62]:=⟨Tx.cast (tx3 (.inr (.inr (.inr ⟨rfl,rfl,rfl,rfl⟩))) (.lam 28 _ _ _ _ (.nat 27) (tx3 (.inr (.inl ⟨rfl,rfl,rfl,rfl⟩)) (.nat 26) (.pre 26 8 43 _ _ (.inl ⟨rfl,rfl⟩) (.var 25 2 50 (by decide))) (.pre 26 8 43 _ _ (.inl ⟨rfl,rfl⟩) (.var 25 0 48 (by decide))))) (.var 28 0 48 (by decide)) (.pre 28 11 33 _ _ (.inr (.inl ⟨rfl,rfl⟩)) (.pre 27 8 43 _ _ (.inl ⟨rfl,rfl⟩) (.var 26 1 49 (by decide))))) (by simp [gY]),by decide +kernel,by decide⟩
theorem aPu:eY (.mk 8 0 [(.mk 1 1 [])]) [43,35,49]:=⟨Tx.cast (.pre 29 8 43 _ _ (.inl ⟨rfl,rfl⟩) (.var 28 1 49 (by decide))) (by simp [gY]),by decide +kernel,by decide⟩
theorem aQh:eY (.mk 12 0 [(.mk 4 0 [(.mk 6 0 []),(.mk 6 0 [])]),(.mk 1 0 []),(.mk 1 1 [])]) [64,60,91,78,93,78,44,35,48,44,35,49,62]:=⟨Tx.cast (tx3 (.inr (.inr (.inr ⟨rfl,rfl,rfl,rfl⟩))) (.lam 28 _ _ _ _ (.nat 27) (.nat 27)) (.var 28 0 48 (by decide)) (.var 28 1 49 (by decide))) (by simp [gY]),by decide +kernel,by decide⟩
theorem aRw:eY (.mk 9 0 [(.mk 4 0 [(.mk 6 0 []),(.mk 6 0 [])]),(.mk 7 0 []),(.mk 4 0 [(.mk 6 0 []),(.mk 4 0 [(.mk 6 0 []),(.mk 1 1 [])])]),(.mk 1 1 [])]) [60,91,78,93,78,44,48,44,91,78,93,91,78,93,35,49,44,35,49,62]:=⟨Tx.cast (tx4 (.inl ⟨rfl,rfl,rfl,rfl⟩) (.lam 28 _ _ _ _ (.nat 27) (.nat 27)) (.zero 28) (.lam 28 _ _ _ _ (.nat 27) (.lam 27 _ _ _ _ (.nat 26) (.var 26 1 49 (by decide)))) (.var 28 1 49 (by decide))) (by simp [gY]),by decide +kernel,by decide⟩
theorem aGz:GoodL prs2 aIo:=⟨aQk,aPp,aPu,aQh,aRw,trivial⟩
def aNc:List Tm:=[(.mk 3 0 [(.mk 6 0 []),(.mk 2 0 [])]),(.mk 3 0 [(.mk 6 0 []),(.mk 5 0 [(.mk 1 1 []),(.mk 1 0 [])])])]
def aIn:List (List UInt8):=[[40,78,62,42,48,41],[40,78,62,40,35,49,32,35,48,41,41]]
theorem aRt:eY (.mk 3 0 [(.mk 6 0 []),(.mk 2 0 [])]) [40,78,62,42,48,41]:=⟨Tx.cast (.rnd 29 3 62 _ _ _ _ (.inl ⟨rfl,rfl⟩) (.nat 28) (.sort 28 0 48 (by decide))) (by simp [gY]),by decide +kernel,by decide⟩
theorem aRd:eY (.mk 3 0 [(.mk 6 0 []),(.mk 5 0 [(.mk 1 1 []),(.mk 1 0 [])])]) [40,78,62,40,35,49,32,35,48,41,41]:=⟨Tx.cast (.rnd 29 3 62 _ _ _ _ (.inl ⟨rfl,rfl⟩) (.nat 28) (.rnd 28 5 32 _ _ _ _ (.inr (.inr ⟨rfl,rfl⟩)) (.var 27 1 49 (by decide)) (.var 27 0 48 (by decide)))) (by simp [gY]),by decide +kernel,by decide⟩
theorem aGv:GoodL aNc aIn:=⟨aRt,aRd,trivial⟩
def prs3:List Tm:=[(.mk 5 0 [(.mk 1 0 []),(.mk 7 0 [])]),(.mk 4 0 [(.mk 6 0 []),(.mk 5 0 [(.mk 1 1 []),(.mk 1 0 [])])]),(.mk 5 0 [(.mk 1 1 []),(.mk 8 0 [(.mk 8 0 [(.mk 7 0 [])])])]),(.mk 4 0 [(.mk 6 0 []),(.mk 4 0 [(.mk 10 0 [(.mk 6 0 []),(.mk 1 0 []),(.mk 7 0 [])]),(.mk 12 0 [(.mk 1 3 []),(.mk 1 0 []),(.mk 5 0 [(.mk 1 2 []),(.mk 1 1 [])])])])])]
def aKo:List (List UInt8):=[[40,35,48,32,48,41],[91,78,93,40,35,49,32,35,48,41],[40,35,49,32,43,43,48,41],[91,78,93,91,123,78,44,35,48,44,48,125,93,64,60,35,51,44,35,48,44,40,35,50,32,35,49,41,62]]
theorem aSc:eY (.mk 5 0 [(.mk 1 0 []),(.mk 7 0 [])]) [40,35,48,32,48,41]:=⟨Tx.cast (.rnd 29 5 32 _ _ _ _ (.inr (.inr ⟨rfl,rfl⟩)) (.var 28 0 48 (by decide)) (.zero 28)) (by simp [gY]),by decide +kernel,by decide⟩
theorem aSe:eY (.mk 4 0 [(.mk 6 0 []),(.mk 5 0 [(.mk 1 1 []),(.mk 1 0 [])])]) [91,78,93,40,35,49,32,35,48,41]:=⟨Tx.cast (.lam 29 _ _ _ _ (.nat 28) (.rnd 28 5 32 _ _ _ _ (.inr (.inr ⟨rfl,rfl⟩)) (.var 27 1 49 (by decide)) (.var 27 0 48 (by decide)))) (by simp [gY]),by decide +kernel,by decide⟩
theorem aRi:eY (.mk 5 0 [(.mk 1 1 []),(.mk 8 0 [(.mk 8 0 [(.mk 7 0 [])])])]) [40,35,49,32,43,43,48,41]:=⟨Tx.cast (.rnd 29 5 32 _ _ _ _ (.inr (.inr ⟨rfl,rfl⟩)) (.var 28 1 49 (by decide)) (.pre 28 8 43 _ _ (.inl ⟨rfl,rfl⟩) (.pre 27 8 43 _ _ (.inl ⟨rfl,rfl⟩) (.zero 26)))) (by simp [gY]),by decide +kernel,by decide⟩
theorem aRe:eY (.mk 4 0 [(.mk 6 0 []),(.mk 4 0 [(.mk 10 0 [(.mk 6 0 []),(.mk 1 0 []),(.mk 7 0 [])]),(.mk 12 0 [(.mk 1 3 []),(.mk 1 0 []),(.mk 5 0 [(.mk 1 2 []),(.mk 1 1 [])])])])]) [91,78,93,91,123,78,44,35,48,44,48,125,93,64,60,35,51,44,35,48,44,40,35,50,32,35,49,41,62]:=⟨Tx.cast (.lam 29 _ _ _ _ (.nat 28) (.lam 28 _ _ _ _ (tx3 (.inr (.inl ⟨rfl,rfl,rfl,rfl⟩)) (.nat 26) (.var 26 0 48 (by decide)) (.zero 26)) (tx3 (.inr (.inr (.inr ⟨rfl,rfl,rfl,rfl⟩))) (.var 26 3 51 (by decide)) (.var 26 0 48 (by decide)) (.rnd 26 5 32 _ _ _ _ (.inr (.inr ⟨rfl,rfl⟩)) (.var 25 2 50 (by decide)) (.var 25 1 49 (by decide)))))) (by simp [gY]),by decide +kernel,by decide⟩
theorem aHg:GoodL prs3 aKo:=⟨aSc,aSe,aRi,aRe,trivial⟩
def aMd (ts us:List Tm):Prop:=(ts=[]∧us=prs0)∨(ts=aNd∧us=prs1)∨(ts=aOq∧us=prs2)∨(ts=aNc∧us=prs3)
def aRs (w:World)(e:Ending)(w':World):Prop:=
 ∃(ts:List Tm) (xs:List (List UInt8)) (us:List Tm) (ys:List (List UInt8)) (g g':Nat),e = .returned (.tuple #[.slice (some ⟨g,0,none⟩) ts.length ts.length,.slice (some ⟨g',0,none⟩) us.length us.length])∧
  xs.length=ts.length∧ys.length=us.length∧GoodL ts xs∧GoodL us ys∧Blk w' g (qI xs)∧Blk w' g' (qI ys)∧ts.length≤67∧us.length≤67∧0<us.length∧aMd ts us∧Bw w w'
theorem yA (m:Nat)(hm:m<4)(w:World):Calls prog 47 #[.int .i64 m] w (aRs w):=by
 have hB:∀o o':Obj,Bw w ((w.alloc o).alloc o'):=fun o o'=>bw2
 have:m=0∨m=1∨m=2∨m=3:=by omega
 rcases this with rfl|rfl|rfl|rfl
 ·go_enter func47,ntmps47;go_wp2_with fail
  go_ret2
  exact ⟨[],[],prs0,aLe,w.heap.size,w.heap.size+1,rfl,rfl,rfl,trivial,aGk,(aC _ _ (qI []) rfl).alloc _,aC _ _ (qI aLe) (by simp),by decide,by decide,by decide,.inl ⟨rfl,rfl⟩,hB _ _⟩
 ·go_enter func47,ntmps47;go_wp2_with fail
  go_ret2
  exact ⟨aNd,aJk,prs1,aKj,w.heap.size,w.heap.size+1,rfl,rfl,rfl,aFz,aGc,(aC _ _ (qI aJk) rfl).alloc _,aC _ _ (qI aKj) (by simp),by decide,by decide,by decide,.inr (.inl ⟨rfl,rfl⟩),hB _ _⟩
 ·go_enter func47,ntmps47;go_wp2_with fail
  go_ret2
  exact ⟨aOq,aIc,prs2,aIo,w.heap.size,w.heap.size+1,rfl,rfl,rfl,aFb,aGz,(aC _ _ (qI aIc) rfl).alloc _,aC _ _ (qI aIo) (by simp),by decide,by decide,by decide,.inr (.inr (.inl ⟨rfl,rfl⟩)),hB _ _⟩
 ·go_enter func47,ntmps47;go_wp2_with fail
  go_ret2
  exact ⟨aNc,aIn,prs3,aKo,w.heap.size,w.heap.size+1,rfl,rfl,rfl,aGv,aHg,(aC _ _ (qI aIn) rfl).alloc _,aC _ _ (qI aKo) (by simp),by decide,by decide,by decide,.inr (.inr (.inr ⟨rfl,rfl⟩)),hB _ _⟩
theorem aAn {B:Nat}{w:World}{A:Option Addr}{n c:Nat}{ts:List Tm}(h:Part B w (.slice A n c) ts):ts.length≤c:=by
 obtain ⟨xs,f,h1,_⟩:=h;rcases h1.2 with ⟨e,h0⟩|⟨g,cap,cur,e,hb,hg,hn,_⟩
 ·omega
 ·injection e with e1 e2 e3;omega
def aTs (w:World)(ts:List Tm)(e:Ending)(w':World):Prop:=
 ∃A c,e = .returned (.slice A ts.length c)∧ts.length≤c∧Fresh w.heap.size w' A ts∧Bw w w'
theorem yD (ts:List Tm)(xs:List (List UInt8))(hl:xs.length=ts.length)(hl4:ts.length≤1000)(hg:∀(j:Nat) (t:Tm) (x:List UInt8),ts[j]?=some t→xs[j]?=some x→eY t x)(g:Nat)(w:World)(hB:Blk w g (qI xs)) :
  Calls prog 48 #[.slice (some ⟨g,0,none⟩) ts.length ts.length] w (aTs w ts):=by
 have hl':=aD hl;have hg':=aD hg;have hgl:=hB.lt;clear hl hg;go_enter func48,ntmps48;go_wp2_with fail
 go_loopw [3,4] (fun v jv wr=>∃j:Nat,j≤ts.length∧jv = .int .i64 j∧Part w.heap.size wr v (ts.take j)∧Bw w wr) (fun _ jv _=>ts.length - (intOf jv).toNat)
 case atStart=>exact ⟨0,Nat.zero_le _,rfl,Part.empty_ rfl (iD _),bw1⟩
 case round=>
  obtain ⟨j,hjl,rfl,hp,hb⟩:=hrel;by_cases hlt:j<ts.length
  ·have hlx:j<xs.length:=by have:=hl'.out;omega
   obtain ⟨k1,n1,ks1,hk1⟩:∃k n ks,ts[j] = .mk k n ks:=by cases h:ts[j];exact ⟨_,_,_,rfl⟩
   obtain ⟨x,hx⟩:∃x,xs[j]=x:=⟨_,rfl⟩;have hc:=(hB.below hb hgl).at_ (aBm hlx);rw [hx] at hc;have hgood:=aD (fun w=>pB (hg'.out j (.mk k1 n1 ks1) x (by rw [iG hlt,hk1]) (by rw [iG hlx,hx])) w);have hk1':=aD hk1;clear hk1 hx hlx;go_wp2_with (first
    | (at_builtin;refine bQ (B:=w.heap.size) (m:=j) (k:=k1) (n:=n1) (c:=c1) hp (hb1.alloc hb1.size _) (by have:=hb.size;omega) (hf1.alloc _) hl1 (by rw [List.length_take];omega) (by omega) rfl _ _ rfl rfl (by show Value.slice (some ⟨w1.heap.size+1,0,none⟩) 1 1=_;simp) ?_;intro A2 c2 w2 hp2 hb2 hg2)
    | (go_at_call 75;refine (hgood.out _).mono ?_;rintro e w1 ⟨A1,c1,rfl,hl1,hf1,hb1⟩))
   go_roundw
   case rel=>exact ⟨j+1,by omega,by go_num,by rw [oR hlt,hk1'.out];exact hp2,(hb.trans (hb1.mono hb.size)).trans (((dV _ _).alloc (by have:=hb.size;have:=hb1.size;omega) _).trans hb2)⟩
   case measure=>simp [intOf];omega
  ·have hje:j=ts.length:=by omega
   subst hje;rw [List.take_length] at hp;obtain ⟨Ar,cr,rfl,hfr⟩:=hp.fresh;have hcp:=aAn hp;go_wp2_with fail
   go_ret
   exact ⟨Ar,cr,rfl,hcp,hfr,hb⟩
theorem aCb {w:World}{e:Ending}{w':World}(h:aKt w none e w'):e = .returned (.tuple #[.agg Zr,.bool false])∧Bw w w':=⟨h.2,h.1⟩
theorem aDe {w:World}{k n:Int}{ks:List Tm}{e:Ending}{w':World}(h:aKt w (some (.mk k n ks)) e w') :
  ∃A c,e = .returned (.tuple #[.agg (Ro k n A ks.length c),.bool true])∧ks.length≤9223372036854775807∧Rd w A 0 ks∧Bw w w':=by
 obtain ⟨hb,A,c,h1,h2,h3⟩:=h;exact ⟨A,c,h1,h2,h3,hb⟩
def gK (t:Tm)(xs:List Int):Option Tm:=if aE t=true then eP t xs else none
theorem nK (k n:Int)(ks:List Tm)(A:Option Addr)(c:Nat)(xs:List Int)(P:Option Addr)(cp:Nat)(w:World)(hM:aG ks≤1048576)(hx:xs.length≤9223372036854775807)(hr:Rd w A 0 ks)(hi:RdI w P xs) :
  Calls prog 27 #[.agg (Ro k n A ks.length c),.slice P xs.length cp] w (oX w (gK (.mk k n ks) xs)):=by
 have hlen:=aJ ks;cases hv:aE (.mk k n ks) with
 | false=>
  have hz:gK (.mk k n ks) xs=none:=by rw [gK,if_neg];rw [hv];exact Bool.false_ne_true
  rw [hz];clear hz;go_enter func27,ntmps27;go_wp2_with (go_at_call 46;refine (aN k n ks A c _ (by omega) ((hr.alloc _).alloc _)).mono ?_;rw [hv];rintro e w1 ⟨rfl,hb1⟩;have hB1:=cM hb1;obtain ⟨p0,p1,p2⟩:=hB1.three;have hT1:=bA hb1;obtain ⟨d0,d1,d2,e0,e1,e2⟩:=cA hT1;replace hb1:Bw w w1:=bw2.trans (hb1.mono (by simp;omega)))
  refine bodyPost_ret (v:=.tuple #[dC,.bool false]) (by simp [results,results27,go_sem,d0,d1,d2,dC]) rfl ⟨rfl,?_⟩;exact bV hb1
 | true=>
  cases hat:eP (.mk k n ks) xs with
  | none=>
   have hz:gK (.mk k n ks) xs=none:=by rw [gK,if_pos hv,hat]
   rw [hz];have hat':=aD hat
   clear hz hat
   go_enter func27,ntmps27;go_wp2_with (first
    | (go_at_call 57;refine (aEe k n ks A c xs P cp _ (by omega) hx (hr.below hb1) (hi.below hb1)).mono ?_;rw [hat'.out];intro e w2 hgo;obtain ⟨he,hb2⟩:=aCb hgo;subst he;clear hgo;have hT2:=hT1.keep hb2;clear d0 d1 d2 p0 p1 p2;obtain ⟨d0,d1,d2,f0,f1,f2,lT⟩:=cZ hT2;replace hb2:Bw w w2:=hb1.trans (hb2.mono hb1.size))
    | (go_at_call 46;refine (aN k n ks A c _ (by omega) ((hr.alloc _).alloc _)).mono ?_;rw [hv];rintro e w1 ⟨rfl,hb1⟩;have hB1:=cM hb1;obtain ⟨p0,p1,p2⟩:=hB1.three;have hT1:=bA hb1;obtain ⟨d0,d1,d2,e0,e1,e2⟩:=cA hT1;replace hb1:Bw w w1:=bw2.trans (hb1.mono (by simp;omega))))
   have y:=fun (o:Obj)=>(((((hT2.set_ 0 (.int .i64 0)).set_ 1 (.int .i64 0)).set_ 2 (.slice none 0 0)).alloc o:Blk _ _ Zr)).three
   refine bodyPost_ret (v:=.tuple #[dC,.bool false]) (by simp [results,results27,go_sem,d0,d1,d2,dC,y]) rfl ⟨rfl,?_⟩;first
    | exact (bV hb2).alloc (by have:=hb2.size;simp;omega) _
    | exact ((((hb2.alloc hb2.size _)).setCell (by simp) _).setCell (by simp) _).setCell (by simp) _
  | some u=>
   obtain ⟨k2,n2,ks2⟩:=u;have hvu:=cF (gU hat hv);rw [Tm.size] at hvu;have hz:gK (.mk k n ks) xs=some (.mk k2 n2 ks2):=by rw [gK,if_pos hv,hat]
   rw [hz];have hat':=aD hat
   clear hz hat
   go_enter func27,ntmps27;go_wp2_with (first
    | (go_at_call 58;refine (dF (aG ks2+1) k2 n2 ks2 A2 c2 _ (by omega) (by omega) ((hr2.below hb12).alloc _)).mono ?_;rintro e w3 ⟨A3,c3,rfl,hl3,hf3,hb3⟩;have hT3:=(hT2.alloc _).keep hb3;clear d0 d1 d2;obtain ⟨d0,d1,d2,f0,f1,f2⟩:=cA hT3;replace hf3:=hf3.mono (B':=w.heap.size+2) (by have:=hT2.lt;simp;omega);replace hb3:Bw w w3:=(hb2.alloc hb2.size _).trans (hb3.mono (by have:=hb2.size;simp;omega)))
    | (go_at_call 57;refine (aEe k n ks A c xs P cp _ (by omega) hx (hr.below hb1) (hi.below hb1)).mono ?_;rw [hat'.out];intro e w2 hgo;obtain ⟨A2,c2,rfl,hl2,hr2,hb2⟩:=aDe hgo;clear hgo;have hb12:=hb2;have hT2:=hT1.keep hb2;clear d0 d1 d2 p0 p1 p2;obtain ⟨d0,d1,d2⟩:=hT2.three;replace hb2:Bw w w2:=hb1.trans (hb2.mono hb1.size))
    | (go_at_call 46;refine (aN k n ks A c _ (by omega) ((hr.alloc _).alloc _)).mono ?_;rw [hv];rintro e w1 ⟨rfl,hb1⟩;have hB1:=cM hb1;obtain ⟨p0,p1,p2⟩:=hB1.three;have hT1:=bA hb1;obtain ⟨d0,d1,d2,e0,e1,e2⟩:=cA hT1;replace hb1:Bw w w1:=bw2.trans (hb1.mono (by simp;omega))))
   refine bodyPost_ret (v:=.tuple #[.agg (Ro k2 n2 A3 ks2.length c3),.bool true]) (by simp [results,results27,go_sem,d0,d1,d2]) rfl ⟨A3,c3,rfl,hl3,?_,?_⟩
   ·exact (mW hf3).mono (by omega)
   ·exact bV hb3
theorem pH (k n:Int)(ks:List Tm)(A:Option Addr)(c:Nat)(w:World)(hM:aG ks+1≤400)(hr:Rd w A 0 ks) :
  Calls prog 28 #[.agg (Ro k n A ks.length c)] w fun e w'=>e = .returned (.int .i64 (aG ks+1:Nat))∧Bw w w':=by
 go_enter func28,ntmps28;go_wp2_with (go_at_call 59;refine (sQ (aG ks+1) k n ks A c 400 _ (nH _) (by omega) (by omega) (by omega) (hr.alloc _)).mono ?_;rintro e w1 ⟨r,rfl,hc,hb1⟩;have hr1:r=((aG ks+1:Nat):Int):=(by obtain ⟨h1,h2,h3⟩:=hc;omega);clear hc;subst hr1)
 go_ret
 exact ⟨rfl,bw1.trans (hb1.mono (by simp))⟩
theorem kD (N:Nat):∀(k n:Int) (ks:List Tm) (A:Option Addr) (c:Nat) (w:World),aG ks<N→aG ks≤1000000000→Rd w A 0 ks→
  Calls prog 20 #[.agg (Ro k n A ks.length c)] w fun e w'=>e = .returned (.int .i64 (aG ks+1:Nat))∧Bw w w':=by
 induction N with
 | zero=>intro k n ks A c w hN;exact absurd hN (Nat.not_lt_zero _)
 | succ N ih=>
 intro k n ks A c w hN hM hr;have hlen:=aJ ks;go_enter func20,ntmps20;go_wp2_with fail
 go_loopw [3,9] (fun a i wr=>∃(j:Nat),j≤ks.length∧i = .int .i64 j∧a = .int .i64 (1+aG (ks.take j))∧Bw w wr) (fun _ i _=>ks.length - (intOf i).toNat)
 case atStart=>exact ⟨0,Nat.zero_le _,rfl,by simp [aG],bw1⟩
 case round=>
  obtain ⟨j,hj,rfl,rfl,hb⟩:=hrel;by_cases hlt:j<ks.length
  ·obtain ⟨b,off,k',n',ks',A',c',rfl,hkj,hc1,hc2,hc3,hl',hr'⟩:=(hr.below hb).at_ hlt;have hsz:=bY (fG hlt);have hst:=gN ks j hlt;have hst2:=dB ks (j+1);rw [hkj] at hsz hst;simp only [Tm.size] at hsz hst
   have H3:=aD hkj;have H4:=aD hst;clear hkj;go_wp2_with (go_at_call 20;refine (ih k' n' ks' A' c' _ (by omega) (by omega) (hr'.alloc _)).mono ?_;rintro e w1 ⟨rfl,hb1⟩;replace hb1:Bw wr w1:=bw1.trans (hb1.mono (by simp)))
   go_roundw
   case rel=>exact ⟨j+1,by omega,by go_num,by first|(go_num;done)|(go_num;have:=H4.out;omega),hb.trans (hb1.mono hb.size)⟩
   case measure=>simp [intOf];omega
  ·have hjl:j=ks.length:=by omega
   subst hjl;rw [List.take_length];go_wp2_with fail
   go_ret
   exact ⟨by simp;omega,hb⟩
theorem xL (k n:Int)(ks:List Tm)(A:Option Addr)(c:Nat)(w:World)(hM:aG ks≤1048576)(hr:Rd w A 0 ks){k2 n2:Int}{ks2:List Tm}(hd:(if aE (.mk k n ks)=true then Tm.mk k n ks else .mk 0 0 []) = .mk k2 n2 ks2) :
  Calls prog 30 #[.agg (Ro k n A ks.length c)] w (tL w k2 n2 ks2):=by
 cases hv:aE (.mk k n ks) with
 | false=>
  rw [if_neg (by rw [hv];exact Bool.false_ne_true)] at hd;injection hd with h1 h2 h3;subst h1 h2 h3;go_enter func30,ntmps30;go_wp2_with (go_at_call 46;refine (aN k n ks A c _ (by omega) ((hr.alloc _).alloc _)).mono ?_;rw [hv];rintro e w1 ⟨rfl,hb1⟩;have hB1:=cM hb1;obtain ⟨p0,p1,p2⟩:=hB1.three;have hT1:=bA hb1;obtain ⟨d0,d1,d2,e0,e1,e2⟩:=cA hT1;replace hb1:Bw w w1:=bw2.trans (hb1.mono (by simp;omega)))
  refine bodyPost_ret (v:=.agg Zr) (by simp [results,results30,go_sem,d0,d1,d2]) rfl ⟨none,0,rfl,by simp,Fresh.nil,?_⟩;exact bV hb1
 | true=>
  rw [if_pos hv] at hd;injection hd with h1 h2 h3;subst h1 h2 h3;go_enter func30,ntmps30;go_wp2_with (first
   | (go_at_call 58;refine (dF (aG ks+1) k n ks A c _ (by omega) (by omega) (hr.below hb1)).mono ?_;rintro e w3 ⟨A3,c3,rfl,hl3,hf3,hb3⟩;have hT3:=hT1.keep hb3;clear d0 d1 d2;obtain ⟨d0,d1,d2,f0,f1,f2⟩:=cA hT3;replace hf3:=hf3.mono (B':=w.heap.size+2) (by have:=hT1.lt;omega);replace hb3:Bw w w3:=hb1.trans (hb3.mono hb1.size))
   | (go_at_call 46;refine (aN k n ks A c _ (by omega) ((hr.alloc _).alloc _)).mono ?_;rw [hv];rintro e w1 ⟨rfl,hb1⟩;have hB1:=cM hb1;obtain ⟨p0,p1,p2⟩:=hB1.three;have hT1:=bA hb1;obtain ⟨d0,d1,d2,e0,e1,e2⟩:=cA hT1;replace hb1:Bw w w1:=bw2.trans (hb1.mono (by simp;omega))))
  refine bodyPost_ret (v:=.agg (Ro k n A3 ks.length c3)) (by simp [results,results30,go_sem,d0,d1,d2]) rfl ⟨A3,c3,rfl,hl3,?_,?_⟩
  ·exact (mW hf3).mono (by omega)
  ·exact bV hb3
theorem aMi (N:Nat):∀(k n:Int) (ks:List Tm) (A:Option Addr) (c:Nat) (w:World),aG ks<N→aG ks≤1099511627776→Rd w A 0 ks→
  Calls prog 26 #[.agg (Ro k n A ks.length c)] w (tL w k n ks):=by
 induction N with
 | zero=>intro k n ks A c w hN;exact absurd hN (Nat.not_lt_zero _)
 | succ N ih=>
 intro k n ks A c w hN hM hr;have hlen:=aJ ks;go_enter func26,ntmps26;go_wp2_with fail
 go_loopw [14] (fun i wr=>∃(j:Nat) (v:Value),j≤ks.length∧i = .int .i64 j∧Part (w.heap.size+3) wr v (ks.take j)∧Blk wr (w.heap.size+1+1) #[.int .i64 k,.int .i64 n,v]∧Blk wr (w.heap.size+1) Zr∧Bw w wr)
  (fun i _ => ks.length - (intOf i).toNat)
 case atStart=>exact ⟨0,_,Nat.zero_le _,rfl,Part.nil,aC _ _ _ (by simp),(aC _ _ _ (by simp)).alloc _,bw3⟩
 case round=>
  obtain ⟨j,v,hj,rfl,hp,hB3,hB2,hb⟩:=hrel;by_cases hlt:j<ks.length
  ·obtain ⟨b,off,k',n',ks',A',c',rfl,hkj,hc1,hc2,hc3,hl',hr'⟩:=(hr.below hb).at_ hlt;have hbl:=jN _ _ hc1;have hsz:=bY (fG hlt);rw [hkj] at hsz;simp only [Tm.size] at hsz
   have H3:=aD hkj;clear hkj;have hz:=hB3.lt;have c2:wr.cell? ⟨w.heap.size+1+1,2,none⟩=some v:=hB3.at_ rfl;go_wp2_with fail
   refine aT ?_;intro wx hwx;have hXB:Blk wx wr.heap.size (Ro k' n' A' ks'.length c'):=by rw [hwx];exact aC _ _ _ rfl
   have hpx:Part (w.heap.size+3) wx v (ks.take j):=by rw [hwx];exact hp.alloc _
   have hrx:Rd wx A' 0 ks':=by rw [hwx];exact hr'.alloc _
   have hB3x:Blk wx (w.heap.size+1+1) #[.int .i64 k,.int .i64 n,v]:=by rw [hwx];exact hB3.alloc _
   have hB2x:Blk wx (w.heap.size+1) Zr:=by rw [hwx];exact hB2.alloc _
   have hbx:Bw w wx:=by rw [hwx];exact hb.alloc hb.size _
   have hs1:wr.heap.size<wx.heap.size:=by rw [hwx];simp
   have hs2:w.heap.size+1+1<wx.heap.size:=by omega
   have x2:=hB3x.rule (i:=2) rfl;have y0:=hXB.rule (i:=0) rfl;have y1:=hXB.rule (i:=1) rfl;have y2:=hXB.rule (i:=2) rfl;clear hwx;refine nD (fun w'=>Bw wx w') [0,1,2] [3,4] [5,6,7] [_,_,_] [_,_] [_,_,_] (by kernel_rfl) (by kernel_rfl) rfl rfl rfl (fun _ _ d _ _ h=>by cases d<;>exact h) (dV _ _).drew ?_;repeat (first|((refine xF (a':=?_) ?_ ?_ ?_);(rotate_left);(· (simp [Region.wanted,yielded];done));(· (simp only [Act.put,List.setIfInBounds_toArray,List.set_cons_zero,List.set_cons_succ];exact rfl)))|((refine xH (v:=?_) (a':=?_) ?_ ?_ ?_ ?_);(rotate_left 2);(· (simp [Region.wanted,yielded];done));(· (intro w' hS';go_simp;try (with_reducible rfl)));(· (simp only [Act.put,List.setIfInBounds_toArray,List.set_cons_zero,List.set_cons_succ];exact rfl))))
   refine aAs (bF ?_);go_wp2_with (go_at_call 26;refine (ih k' n' ks' A' c' _ (by omega) (by omega) hrx.drew).mono ?_;rintro e w1 ⟨A1,c1,rfl,hl1,hf1,hb1⟩)
   have hx1:Bw wx w1:=(dV wx.heap.size wx).drew.trans hb1;refine aH hx1 (bF ?_);go_wp2_with fail
   refine aH (hx1.alloc hx1.size _) (cS ?_);refine bQ (B:=w.heap.size+3) (m:=j) hpx.drew hb1 (by simp;omega) hf1 hl1 (by simp;omega) (by omega) rfl (.tmp 19) (.tmp 22) rfl rfl rfl ?_;intro A2 c2 w2 hp2 hb2 hg2;have q3:Blk w2 (w.heap.size+1+1) #[.int .i64 k,.int .i64 n,v]:=(hB3x.below hx1 (by omega)).below hb2 (by omega);have q2:Blk w2 (w.heap.size+1) Zr:=(hB2x.below hx1 (by omega)).below hb2 (by omega);have c3:w2.cell? ⟨w.heap.size+1+1,2,none⟩=some v:=q3.at_ rfl;have z3:=q3.frozen 2;have hbf:Bw w w2:=(hbx.trans (hx1.mono (by omega))).trans (hb2.mono (by omega));clear x2 y0 y1 y2 hpx hrx hB3x hB2x hbx;go_wp2_with fail
   go_roundw
   case rel=>exact ⟨j+1,_,by omega,by go_num,by rw [oR hlt,H3.out];exact hp2.setCell (by simp) _,q3.set_ 2 _,q2.far (by simp) _,hbf.setCell (by simp;omega) _⟩
   case measure=>simp [intOf];omega
  ·have hjl:j=ks.length:=by omega
   subst hjl;rw [List.take_length] at hp;obtain ⟨Ar,cr,rfl,hfr⟩:=hp.fresh;have c0:wr.cell? ⟨w.heap.size+1+1,0,none⟩=some (.int .i64 k):=hB3.at_ rfl;have c1:wr.cell? ⟨w.heap.size+1+1,1,none⟩=some (.int .i64 n):=hB3.at_ rfl;have c2:wr.cell? ⟨w.heap.size+1+1,2,none⟩=some (.slice Ar ks.length cr):=hB3.at_ rfl;have d0:wr.cell? ⟨w.heap.size+1,0,none⟩=some (.int .i64 0):=hB2.at_ rfl;have d1:wr.cell? ⟨w.heap.size+1,1,none⟩=some (.int .i64 0):=hB2.at_ rfl;have d2:wr.cell? ⟨w.heap.size+1,2,none⟩=some (.slice none 0 0):=hB2.at_ rfl;obtain ⟨e0,e1,e2⟩:=kS hB2;go_wp2_with fail
   refine bodyPost_ret (v:=.agg (Ro k n Ar ks.length cr)) (by simp [results,results26,go_sem,d0,d1,d2]) rfl ⟨Ar,cr,rfl,by omega,?_,?_⟩
   ·exact (mW hfr).mono (by omega)
   ·exact bV hb
theorem zI {ks:List Tm}{i:Nat}(hi:i<ks.length){t:Tm}:aG (ks.set i t)+ks[i].size=aG ks+t.size:=by
 induction ks generalizing i with
 | nil=>simp at hi
 | cons a ts ih=>
  cases i with
  | zero=>rw [List.set_cons_zero,aG,aG,List.getElem_cons_zero];omega
  | succ i=>rw [List.set_cons_succ,aG,aG,List.getElem_cons_succ];have:=ih (i:=i) (by simpa using hi);omega
theorem wU {u u0:Tm}:∀{xs:List Int} {t:Tm},eP t xs=some u0→(iL t xs u).size≤t.size+u.size
 | [],t,_=>by rw [iL];omega
 | i::is,.mk k n ks,h=>by
  rw [eP] at h;split at h
  ·rename_i hh
   have hlt:i.toNat<ks.length:=by have:=hh.2;simp only [Tm.kids] at this;omega
   rw [show (Tm.mk k n ks).kids=ks from rfl] at h;have h1:=wU h (u:=u);have h2:=zI hlt (t:=iL (ks.getD i.toNat default) is u);have e:ks.getD i.toNat default=ks[i.toNat]:=by simp [List.getD,iG hlt]
   rw [e] at h1 h2;rw [iL,Tm.size,Tm.size,e];omega
  ·cases h
theorem wT (ku nu:Int)(us:List Tm)(hus:aG us≤1000000)(xs:List Int)(k n:Int)(ks:List Tm)(A:Option Addr)(c:Nat)(P:Option Addr)(cp:Nat)(U:Option Addr)(cu:Nat)(w:World)(u0:Tm)(h:eP (.mk k n ks) xs=some u0)(hcp:xs.length≤cp)(hM:aG ks≤1000000)(hr:Rd w A 0 ks)(hi:RdI w P xs)(hru:Rd w U 0 us){kp np:Int}{ps:List Tm}(hp:iL (.mk k n ks) xs (.mk ku nu us) = .mk kp np ps) :
  Calls prog 126 #[.agg (Ro k n A ks.length c),.slice P xs.length cp,.agg (Ro ku nu U us.length cu)] w fun e w'=>∃B d,e = .returned (.agg (Ro kp np B ps.length d))∧ps.length≤9223372036854775807∧Rd w' B 0 ps∧Bw w w':=by
 refine (aAi (·<w.heap.size) ku nu us hus xs k n ks A c P cp U cu w u0 h hcp hM hr.rdp hi hru.rdp (fun b hb=>hb)).mono ?_;rw [hp];rintro e w' hgo;obtain ⟨B,d,rfl,hl,hr',hb⟩:=aEr hgo;exact ⟨B,d,rfl,hl,hr'.rd,hb⟩
theorem qE (k n:Int)(ks:List Tm)(A:Option Addr)(c:Nat)(xs:List Int)(P:Option Addr)(cp:Nat)(w:World){ku nu:Int}{us:List Tm}(hv:aE (.mk k n ks)=true)(hx:xs.length≤1000)(hcp:xs.length≤cp)(hat:eP (.mk k n ks) xs=some (.mk ku nu us))(hxu:cT ku us≠0)(hr:Rd w A 0 ks)(hp:RdI w P xs) :
  Calls prog 105 #[.agg (Ro k n A ks.length c),.slice P xs.length cp] w (oX w (lL (.mk k n ks) xs)):=by
 have hz:=aI hv;have hlen:=aJ ks;have hvu:=gU hat hv;have hvu':=aD hvu;have hat':=aD hat
 have hxu':=aD hxu;have hzu:=aI hvu;cases hc:oV (.mk ku nu us) with
 | none=>
  have hz2:lL (.mk k n ks) xs=none:=by rw [lL,hat];simp only [hc]
  rw [hz2];have hc':=aD hc;clear hz2 hc hat hvu hxu hv;go_enter func105,ntmps105;go_wp2_with (first
   | (go_at_call 124;have _t:=tok1;refine (lD ku nu us A2 c2 _ hvu'.out hxu'.out rU).mono ?_;rw [hc'.out];intro e w2 hgo;obtain ⟨rfl,hb2⟩:=iX hgo;have hZ2:=hZ1.keep hb2;have g2:=g1.trans (hb2.mono g1.size);obtain ⟨d0,d1,d2,e0,e1,e2,lz⟩:=cZ hZ2;have n1:w.heap.size+1≠w2.heap.size:=(by omega))
   | (go_at_call 125;refine (yP k n ks A c xs P cp _ (by omega) (by omega) ((hr.alloc _).alloc _) ((hp.alloc _).alloc _) hat'.out).mono ?_;rintro e w1 ⟨k',n',ks',A2,c2,hu,rfl,hl2,hr2,hb1⟩;injection hu with x1 x2 x3;subst x1 x2 x3;have hZ1:=bA hb1;have g1:Bw w w1:=bW bw2 hb1;have rU:=hr2.below hb1;have tok1:=trivial))
  have y:=fun (o:Obj)=>(((((hZ2.set_ 0 (.int .i64 0)).set_ 1 (.int .i64 0)).set_ 2 (.slice none 0 0)).alloc o:Blk _ _ Zr)).three
  refine bodyPost_ret (v:=.tuple #[dC,.bool false]) (by simp [results,results105,go_sem,y,dC]) rfl ⟨rfl,?_⟩;exact (bV g2).alloc (by simp [World.setCell];exact g2.size) _
 | some v=>
  obtain ⟨kv,nv,vs⟩:=v;have hvv:=aCw hc;have hzv:=aI hvv;obtain ⟨kp,np,ps,hput⟩:∃kp np ps,iL (.mk k n ks) xs (.mk kv nv vs) = .mk kp np ps:=by cases iL (.mk k n ks) xs (.mk kv nv vs) with|mk a b c=>exact ⟨a,b,c,rfl⟩
  have hzp:aG ps≤1000:=by
   have:=wU hat (u:=.mk kv nv vs);rw [hput] at this;simp only [Tm.size] at this
   omega
  have hz2:lL (.mk k n ks) xs=vO (.mk kp np ps):=by rw [lL,hat];simp only [hc,hput]
  rw [hz2];have hc':=aD hc;have hput':=aD hput;clear hz2 hc hat hvu hxu hv hput hvv;have hlp:=aJ ps;cases hvp:aE (.mk kp np ps) with
  | false=>
   have hz3:vO (.mk kp np ps)=none:=by rw [vO,hvp];rfl
   rw [hz3];have hvp':=aD hvp;clear hz3 hvp;go_enter func105,ntmps105;go_wp2_with (first
    | (go_at_call 119;have _t:=tok4;refine (xC kp np ps A8 c8 _ (by omega) hf8.rd hvp'.out).mono ?_;rintro e w9 ⟨rfl,hb9⟩;have hZ9:=hZ8.keep hb9;have g9:=g8.trans (hb9.mono g8.size);obtain ⟨d0,d1,d2,e0,e1,e2⟩:=cA hZ9)
    | (go_at_call 26;have _t:=tok3;refine (gF 10000 kp np ps A7 c7 _ (by omega) (by omega) r7).mono ?_;rintro e w8 ⟨A8,c8,rfl,hl8,hf8,hb8⟩;have hZ8:=hZ7.keep hb8;have g8:=g7.trans (hb8.mono g7.size);have tok4:=trivial)
    | (go_at_call 126;have _t:=tok2;refine (wT kv nv vs (by omega) xs k n ks A c P cp A3 c3 _ (.mk ku nu us) hat'.out hcp (by omega) ((hr.below g2).alloc _) ((hp.below g2).alloc _) (r3.alloc _) hput'.out).mono ?_;rintro e w7 ⟨A7,c7,rfl,hl7,r7,hb7⟩;have hZ7:=(hZ2.alloc (.cells (Ro kv nv A3 vs.length c3) 25)).keep hb7;have g7:=(g2.alloc g2.size (.cells (Ro kv nv A3 vs.length c3) 25)).trans (hb7.mono (by have:=g2.size;simp;omega));have tok3:=trivial)
    | (go_at_call 124;have _t:=tok1;refine (lD ku nu us A2 c2 _ hvu'.out hxu'.out rU).mono ?_;rw [hc'.out];intro e w2 hgo;obtain ⟨A3,c3,rfl,hl3,hf3,hb2⟩:=dE hgo;have hZ2:=hZ1.keep hb2;have hX2:=hX1.keep hb2;have g2:=g1.trans (hb2.mono g1.size);have r3:=hf3.rd;obtain ⟨x0,x1,x2⟩:=hX2.three;have lx:=hX2.lt;have tok2:=trivial)
    | (go_at_call 125;refine (yP k n ks A c xs P cp _ (by omega) (by omega) ((hr.alloc _).alloc _) ((hp.alloc _).alloc _) hat'.out).mono ?_;rintro e w1 ⟨k',n',ks',A2,c2,hu,rfl,hl2,hr2,hb1⟩;injection hu with y1 y2 y3;subst y1 y2 y3;have hX1:=cM hb1;have hZ1:=bA hb1;have g1:Bw w w1:=bW bw2 hb1;have rU:=hr2.below hb1;have tok1:=trivial))
   refine bodyPost_ret (v:=.tuple #[dC,.bool false]) (by simp [results,results105,go_sem,d0,d1,d2,dC]) rfl ⟨rfl,?_⟩;exact bV g9
  | true=>
   have hz3:vO (.mk kp np ps)=some (.mk kp np ps):=by rw [vO,hvp];rfl
   rw [hz3];have hvp':=aD hvp;clear hz3 hvp;go_enter func105,ntmps105;go_wp2_with (first
    | (go_at_call 119;have _t:=tok4;refine (gQ kp np ps A8 c8 _ (by omega) hf8.rd hvp'.out).mono ?_;rintro e w9 ⟨rfl,hb9⟩;have hZ9:=hZ8.keep hb9;have g9:=g8.trans (hb9.mono g8.size);have hf9:=hf8.below hb9;obtain ⟨d0,d1,d2,e0,e1,e2⟩:=cA hZ9)
    | (go_at_call 26;have _t:=tok3;refine (gF 10000 kp np ps A7 c7 _ (by omega) (by omega) r7).mono ?_;rintro e w8 ⟨A8,c8,rfl,hl8,hf8,hb8⟩;have hZ8:=hZ7.keep hb8;have g8:=g7.trans (hb8.mono g7.size);have tok4:=trivial)
    | (go_at_call 126;have _t:=tok2;refine (wT kv nv vs (by omega) xs k n ks A c P cp A3 c3 _ (.mk ku nu us) hat'.out hcp (by omega) ((hr.below g2).alloc _) ((hp.below g2).alloc _) (r3.alloc _) hput'.out).mono ?_;rintro e w7 ⟨A7,c7,rfl,hl7,r7,hb7⟩;have hZ7:=(hZ2.alloc (.cells (Ro kv nv A3 vs.length c3) 25)).keep hb7;have g7:=(g2.alloc g2.size (.cells (Ro kv nv A3 vs.length c3) 25)).trans (hb7.mono (by have:=g2.size;simp;omega));have tok3:=trivial)
    | (go_at_call 124;have _t:=tok1;refine (lD ku nu us A2 c2 _ hvu'.out hxu'.out rU).mono ?_;rw [hc'.out];intro e w2 hgo;obtain ⟨A3,c3,rfl,hl3,hf3,hb2⟩:=dE hgo;have hZ2:=hZ1.keep hb2;have hX2:=hX1.keep hb2;have g2:=g1.trans (hb2.mono g1.size);have r3:=hf3.rd;obtain ⟨x0,x1,x2⟩:=hX2.three;have lx:=hX2.lt;have tok2:=trivial)
    | (go_at_call 125;refine (yP k n ks A c xs P cp _ (by omega) (by omega) ((hr.alloc _).alloc _) ((hp.alloc _).alloc _) hat'.out).mono ?_;rintro e w1 ⟨k',n',ks',A2,c2,hu,rfl,hl2,hr2,hb1⟩;injection hu with y1 y2 y3;subst y1 y2 y3;have hX1:=cM hb1;have hZ1:=bA hb1;have g1:Bw w w1:=bW bw2 hb1;have rU:=hr2.below hb1;have tok1:=trivial))
   have s7:=g7.size;have lz:=hZ8.lt;have lz1:=hZ1.lt;have s12:=hb2.size;have s27:=hb7.size;refine bodyPost_ret (v:=.tuple #[.agg (Ro kp np A8 ps.length c8),.bool true]) (by simp [results,results105,go_sem,d0,d1,d2]) rfl ⟨A8,c8,rfl,hl8,?_,?_⟩
   ·exact (((hf9.setCell (by simp at s27;simp;omega) _).setCell (by simp at s27;simp;omega) _).setCell (by simp at s27;simp;omega) _).mono s7
   ·exact bV g9
def HeadPost (o:Option (List Int))(d:Nat)(w:World)(e:Ending)(w':World):Prop:=
 ∃(A:Option Addr) (c:Nat) (xs:List Int),e = .returned (.tuple #[.slice A xs.length c,.bool o.isSome])∧xs.length≤d∧xs.length≤c∧PathX w' A xs∧(∀p,o=some p→xs=p)∧Bw w w'
theorem HeadPost.way {o:Option (List Int)}{d:Nat}{w:World}{e:Ending}{w':World}(h:HeadPost o d w e w'):WayPost o d w e w':=by
 obtain ⟨A,c,xs,he,h1,h2,h3,h4,h5⟩:=h;exact ⟨A,xs.length,c,he,h1,h2,fun p hp=>by have:=h4 p hp;subst this;exact ⟨rfl,h3⟩,h5⟩
theorem xV:∀{ts:List Tm} {i:Nat} (h:i<ts.length),iE i ts=bS ts[i]
 | [],_,h=>absurd h (Nat.not_lt_zero _)
 | t::ts,0,_=>by rw [iE];rfl
 | t::ts,i+1,h=>by rw [iE,xV (by simpa using h)];simp
theorem lY {k n:Int}{ks:List Tm}{i:Nat}(hr:cT k ks=0)(hm:fB k=i)(hi:i<ks.length):bS (.mk k n ks)=(bS ks[i]).map ((i:Int)::·):=by
 rw [bS,if_pos hr,hm,if_neg (by omega),Int.toNat_natCast,xV hi]
theorem aGg {k n:Int}{ks:List Tm}(hr:cT k ks=0)(hm:fB k<0):bS (.mk k n ks)=none:=by
 rw [bS,if_pos hr,if_pos hm]
theorem aDq {k n:Int}{ks:List Tm}(hr:cT k ks≠0):bS (.mk k n ks)=some []:=by
 rw [bS,if_neg hr]
def wO (N:Nat):Prop:=∀(d:Nat) (k n:Int) (ks:List Tm) (A:Option Addr) (c:Nat) (w:World),d≤30→aG ks<N→shape d (.mk k n ks)=true→aG ks≤1099511627775→Rd w A 0 ks→
  Calls prog 155 #[.agg (Ro k n A ks.length c)] w (HeadPost (bS (.mk k n ks)) d w)
theorem aFh (d:Nat)(k n:Int)(ks:List Tm)(A:Option Addr)(c:Nat)(w:World)(ha:aW k=(ks.length:Int))(hM:aG ks≤1099511627775)(hr:Rd w A 0 ks)(hx:cT k ks≠0) :
  Calls prog 155 #[.agg (Ro k n A ks.length c)] w (HeadPost (bS (.mk k n ks)) d w):=by
 have hlen:=aJ ks;have hne:(cT k ks != 0)=true:=by simpa using hx
 rw [aDq hx];have ha':=aD ha;clear hx ha;go_enter func155,ntmps155;go_wp2_with (go_at_call 106;refine (cU k n ks A c _ (by omega) ha'.out (hr.alloc _)).mono ?_;rintro e w1 ⟨rfl,hb1⟩;replace hb1:=bw1.trans (hb1.mono (by simp)))
 go_ret2
 exact ⟨none,0,[],rfl,by simp,by simp,PathX.nil,(fun p hp=>by injection hp),hb1⟩
theorem aMc (d:Nat)(k n:Int)(ks:List Tm)(A:Option Addr)(c:Nat)(w:World)(ha:aW k=(ks.length:Int))(hM:aG ks≤1099511627775)(hr:Rd w A 0 ks)(hx:cT k ks=0)(h5:k≠5)(h15:k≠15)(h16:k≠16)(h9:k≠9)(h12:k≠12) :
  Calls prog 155 #[.agg (Ro k n A ks.length c)] w (HeadPost (bS (.mk k n ks)) d w):=by
 have hlen:=aJ ks;rw [aGg hx (by rw [fB,if_neg (by omega),if_neg h9,if_neg h12];omega)];have q5:=iP h5;have q15:=iP h15;have q16:=iP h16;have q9:=iP h9;have q12:=iP h12;have ha':=aD ha;have hx':=aD hx;clear hx ha h5 h15 h16 h9 h12;go_enter func155,ntmps155;go_wp2_with (go_at_call 106;refine (cU k n ks A c _ (by omega) ha'.out (hr.alloc _)).mono ?_;rw [hx'.out];rintro e w1 ⟨rfl,hb1⟩;have hB1:=(aC w 25 (Ro k n A ks.length c) rfl).keep hb1;obtain ⟨p10,p11,p12⟩:=hB1.three;replace hb1:=bw1.trans (hb1.mono (by simp)))
 go_ret2
 exact ⟨none,0,[],rfl,by simp,by simp,PathX.nil,(fun p hp=>by cases hp),hb1⟩
theorem aRv {N:Nat}(ih:wO N)(d:Nat)(n:Int)(ks:List Tm)(A:Option Addr)(c:Nat)(w:World)(hd:d+1≤30)(hN:aG ks<N+1)(hsh:shape (d+1) (.mk 5 n ks)=true)(hM:aG ks≤1099511627775)(hr:Rd w A 0 ks)(hx:cT 5 ks=0) :
  Calls prog 155 #[.agg (Ro 5 n A ks.length c)] w (HeadPost (bS (.mk 5 n ks)) (d+1) w):=by
 obtain ⟨ha,hm1,hm2,hkids⟩:=(bD d 5 n ks).1 hsh;have hlen:ks.length=2:=by have:aW 5=2:=rfl;omega
 have hik:0<ks.length:=by omega
 rw [lY (i:=0) hx rfl hik];obtain ⟨b,off,k1,n1,ks1,A1,c1,rfl,hkj,i1,i2,i3,hl1,hr1⟩:=hr.at_ hik;have hsz:=bY (fG hik);have hs1:=hkids _ (fG hik);rw [hkj] at hsz hs1⊢;simp only [Tm.size] at hsz
 have hRx:=aD (fun (w:World) (hr:Rd w (some ⟨b,off,none⟩) 0 ks)=>by have:=cU 5 n ks _ c w (by omega) ha hr;rwa [hlen,hx] at this);rw [hlen];generalize ho:bS (.mk k1 n1 ks1)=o
 have ho':=aD ho;have hs1':=aD hs1;have ha':=aD ha;have hx':=aD hx;have hlen':=aD hlen;clear ho hs1 ha hx hkids hsh hm1 hm2 hkj;simp only [Nat.zero_mul,Nat.add_zero,Nat.one_mul,Nat.reduceMul] at i1 i2 i3
 go_enter func155,ntmps155;go_wp2_with (first
  | (at_builtin;refine dM hp3 rfl (by omega) _ rfl _ _ rfl rfl rfl ?_;intro A4 c4 w4 hcc4 hp4 hb4)
  | (go_at_call 155;refine (ih d k1 n1 ks1 A1 c1 _ (by omega) (by omega) hs1'.out (by omega) (hr1.below hb1)).mono ?_;rw [ho'.out];rintro e w3 ⟨A3,c3,xs,rfl,hm3,hc3',hp3,hpe,hb3⟩;have hb4':=hb1.trans (hb3.mono hb1.size))
  | (go_at_call 106;refine (hRx.out _ (hr.alloc _)).mono ?_;rintro e w1 ⟨rfl,hb1⟩;have hB1:=(aC w 25 (Ro 5 n (some ⟨b,off,none⟩) 2 c) rfl).keep hb1;obtain ⟨p10,p11,p12⟩:=hB1.three;replace hb1:=bw1.trans (hb1.mono (by simp));have y0:=(bR hb1) _ _ i1;have y1:=(bR hb1) _ _ i2;have y2:=(bR hb1) _ _ i3))
 go_ret2
 refine ⟨A4,c4,(0:Int)::xs,by cases o<;>rfl,by simp;omega,hcc4,hp4,?_,hb4'.trans (hb4.mono hb4'.size)⟩;intro p hp;cases o with
 | none=>cases hp
 | some p1=>injection hp with hp;rw [← hp,hpe p1 rfl];rfl
theorem aNq {N:Nat}(ih:wO N)(d:Nat)(n:Int)(ks:List Tm)(A:Option Addr)(c:Nat)(w:World)(hd:d+1≤30)(hN:aG ks<N+1)(hsh:shape (d+1) (.mk 15 n ks)=true)(hM:aG ks≤1099511627775)(hr:Rd w A 0 ks)(hx:cT 15 ks=0) :
  Calls prog 155 #[.agg (Ro 15 n A ks.length c)] w (HeadPost (bS (.mk 15 n ks)) (d+1) w):=by
 obtain ⟨ha,hm1,hm2,hkids⟩:=(bD d 15 n ks).1 hsh;have hlen:ks.length=1:=by have:aW 15=1:=rfl;omega
 have hik:0<ks.length:=by omega
 rw [lY (i:=0) hx rfl hik];obtain ⟨b,off,k1,n1,ks1,A1,c1,rfl,hkj,i1,i2,i3,hl1,hr1⟩:=hr.at_ hik;have hsz:=bY (fG hik);have hs1:=hkids _ (fG hik);rw [hkj] at hsz hs1⊢;simp only [Tm.size] at hsz
 have hRx:=aD (fun (w:World) (hr:Rd w (some ⟨b,off,none⟩) 0 ks)=>by have:=cU 15 n ks _ c w (by omega) ha hr;rwa [hlen,hx] at this);rw [hlen];generalize ho:bS (.mk k1 n1 ks1)=o
 have ho':=aD ho;have hs1':=aD hs1;have ha':=aD ha;have hx':=aD hx;have hlen':=aD hlen;clear ho hs1 ha hx hkids hsh hm1 hm2 hkj;simp only [Nat.zero_mul,Nat.add_zero,Nat.one_mul,Nat.reduceMul] at i1 i2 i3
 go_enter func155,ntmps155;go_wp2_with (first
  | (at_builtin;refine dM hp3 rfl (by omega) _ rfl _ _ rfl rfl rfl ?_;intro A4 c4 w4 hcc4 hp4 hb4)
  | (go_at_call 155;refine (ih d k1 n1 ks1 A1 c1 _ (by omega) (by omega) hs1'.out (by omega) (hr1.below hb1)).mono ?_;rw [ho'.out];rintro e w3 ⟨A3,c3,xs,rfl,hm3,hc3',hp3,hpe,hb3⟩;have hb4':=hb1.trans (hb3.mono hb1.size))
  | (go_at_call 106;refine (hRx.out _ (hr.alloc _)).mono ?_;rintro e w1 ⟨rfl,hb1⟩;have hB1:=(aC w 25 (Ro 15 n (some ⟨b,off,none⟩) 1 c) rfl).keep hb1;obtain ⟨p10,p11,p12⟩:=hB1.three;replace hb1:=bw1.trans (hb1.mono (by simp));have y0:=(bR hb1) _ _ i1;have y1:=(bR hb1) _ _ i2;have y2:=(bR hb1) _ _ i3))
 go_ret2
 refine ⟨A4,c4,(0:Int)::xs,by cases o<;>rfl,by simp;omega,hcc4,hp4,?_,hb4'.trans (hb4.mono hb4'.size)⟩;intro p hp;cases o with
 | none=>cases hp
 | some p1=>injection hp with hp;rw [← hp,hpe p1 rfl];rfl
theorem aOj {N:Nat}(ih:wO N)(d:Nat)(n:Int)(ks:List Tm)(A:Option Addr)(c:Nat)(w:World)(hd:d+1≤30)(hN:aG ks<N+1)(hsh:shape (d+1) (.mk 16 n ks)=true)(hM:aG ks≤1099511627775)(hr:Rd w A 0 ks)(hx:cT 16 ks=0) :
  Calls prog 155 #[.agg (Ro 16 n A ks.length c)] w (HeadPost (bS (.mk 16 n ks)) (d+1) w):=by
 obtain ⟨ha,hm1,hm2,hkids⟩:=(bD d 16 n ks).1 hsh;have hlen:ks.length=1:=by have:aW 16=1:=rfl;omega
 have hik:0<ks.length:=by omega
 rw [lY (i:=0) hx rfl hik];obtain ⟨b,off,k1,n1,ks1,A1,c1,rfl,hkj,i1,i2,i3,hl1,hr1⟩:=hr.at_ hik;have hsz:=bY (fG hik);have hs1:=hkids _ (fG hik);rw [hkj] at hsz hs1⊢;simp only [Tm.size] at hsz
 have hRx:=aD (fun (w:World) (hr:Rd w (some ⟨b,off,none⟩) 0 ks)=>by have:=cU 16 n ks _ c w (by omega) ha hr;rwa [hlen,hx] at this);rw [hlen];generalize ho:bS (.mk k1 n1 ks1)=o
 have ho':=aD ho;have hs1':=aD hs1;have ha':=aD ha;have hx':=aD hx;have hlen':=aD hlen;clear ho hs1 ha hx hkids hsh hm1 hm2 hkj;simp only [Nat.zero_mul,Nat.add_zero,Nat.one_mul,Nat.reduceMul] at i1 i2 i3
 go_enter func155,ntmps155;go_wp2_with (first
  | (at_builtin;refine dM hp3 rfl (by omega) _ rfl _ _ rfl rfl rfl ?_;intro A4 c4 w4 hcc4 hp4 hb4)
  | (go_at_call 155;refine (ih d k1 n1 ks1 A1 c1 _ (by omega) (by omega) hs1'.out (by omega) (hr1.below hb1)).mono ?_;rw [ho'.out];rintro e w3 ⟨A3,c3,xs,rfl,hm3,hc3',hp3,hpe,hb3⟩;have hb4':=hb1.trans (hb3.mono hb1.size))
  | (go_at_call 106;refine (hRx.out _ (hr.alloc _)).mono ?_;rintro e w1 ⟨rfl,hb1⟩;have hB1:=(aC w 25 (Ro 16 n (some ⟨b,off,none⟩) 1 c) rfl).keep hb1;obtain ⟨p10,p11,p12⟩:=hB1.three;replace hb1:=bw1.trans (hb1.mono (by simp));have y0:=(bR hb1) _ _ i1;have y1:=(bR hb1) _ _ i2;have y2:=(bR hb1) _ _ i3))
 go_ret2
 refine ⟨A4,c4,(0:Int)::xs,by cases o<;>rfl,by simp;omega,hcc4,hp4,?_,hb4'.trans (hb4.mono hb4'.size)⟩;intro p hp;cases o with
 | none=>cases hp
 | some p1=>injection hp with hp;rw [← hp,hpe p1 rfl];rfl
theorem aPx {N:Nat}(ih:wO N)(d:Nat)(n:Int)(ks:List Tm)(A:Option Addr)(c:Nat)(w:World)(hd:d+1≤30)(hN:aG ks<N+1)(hsh:shape (d+1) (.mk 9 n ks)=true)(hM:aG ks≤1099511627775)(hr:Rd w A 0 ks)(hx:cT 9 ks=0) :
  Calls prog 155 #[.agg (Ro 9 n A ks.length c)] w (HeadPost (bS (.mk 9 n ks)) (d+1) w):=by
 obtain ⟨ha,hm1,hm2,hkids⟩:=(bD d 9 n ks).1 hsh;have hlen:ks.length=4:=by have:aW 9=4:=rfl;omega
 have hik:3<ks.length:=by omega
 rw [lY (i:=3) hx rfl hik];obtain ⟨b,off,k1,n1,ks1,A1,c1,rfl,hkj,i1,i2,i3,hl1,hr1⟩:=hr.at_ hik;have hsz:=bY (fG hik);have hs1:=hkids _ (fG hik);rw [hkj] at hsz hs1⊢;simp only [Tm.size] at hsz
 have hRx:=aD (fun (w:World) (hr:Rd w (some ⟨b,off,none⟩) 0 ks)=>by have:=cU 9 n ks _ c w (by omega) ha hr;rwa [hlen,hx] at this);rw [hlen];generalize ho:bS (.mk k1 n1 ks1)=o
 have ho':=aD ho;have hs1':=aD hs1;have ha':=aD ha;have hx':=aD hx;have hlen':=aD hlen;clear ho hs1 ha hx hkids hsh hm1 hm2 hkj;simp only [Nat.zero_mul,Nat.add_zero,Nat.one_mul,Nat.reduceMul] at i1 i2 i3
 go_enter func155,ntmps155;go_wp2_with (first
  | (at_builtin;refine dM hp3 rfl (by omega) _ rfl _ _ rfl rfl rfl ?_;intro A4 c4 w4 hcc4 hp4 hb4)
  | (go_at_call 155;refine (ih d k1 n1 ks1 A1 c1 _ (by omega) (by omega) hs1'.out (by omega) (hr1.below hb1)).mono ?_;rw [ho'.out];rintro e w3 ⟨A3,c3,xs,rfl,hm3,hc3',hp3,hpe,hb3⟩;have hb4':=hb1.trans (hb3.mono hb1.size))
  | (go_at_call 106;refine (hRx.out _ (hr.alloc _)).mono ?_;rintro e w1 ⟨rfl,hb1⟩;have hB1:=(aC w 25 (Ro 9 n (some ⟨b,off,none⟩) 4 c) rfl).keep hb1;obtain ⟨p10,p11,p12⟩:=hB1.three;replace hb1:=bw1.trans (hb1.mono (by simp));have y0:=(bR hb1) _ _ i1;have y1:=(bR hb1) _ _ i2;have y2:=(bR hb1) _ _ i3))
 go_ret2
 refine ⟨A4,c4,(3:Int)::xs,by cases o<;>rfl,by simp;omega,hcc4,hp4,?_,hb4'.trans (hb4.mono hb4'.size)⟩;intro p hp;cases o with
 | none=>cases hp
 | some p1=>injection hp with hp;rw [← hp,hpe p1 rfl];rfl
theorem aOg {N:Nat}(ih:wO N)(d:Nat)(n:Int)(ks:List Tm)(A:Option Addr)(c:Nat)(w:World)(hd:d+1≤30)(hN:aG ks<N+1)(hsh:shape (d+1) (.mk 12 n ks)=true)(hM:aG ks≤1099511627775)(hr:Rd w A 0 ks)(hx:cT 12 ks=0) :
  Calls prog 155 #[.agg (Ro 12 n A ks.length c)] w (HeadPost (bS (.mk 12 n ks)) (d+1) w):=by
 obtain ⟨ha,hm1,hm2,hkids⟩:=(bD d 12 n ks).1 hsh;have hlen:ks.length=3:=by have:aW 12=3:=rfl;omega
 have hik:1<ks.length:=by omega
 rw [lY (i:=1) hx rfl hik];obtain ⟨b,off,k1,n1,ks1,A1,c1,rfl,hkj,i1,i2,i3,hl1,hr1⟩:=hr.at_ hik;have hsz:=bY (fG hik);have hs1:=hkids _ (fG hik);rw [hkj] at hsz hs1⊢;simp only [Tm.size] at hsz
 have hRx:=aD (fun (w:World) (hr:Rd w (some ⟨b,off,none⟩) 0 ks)=>by have:=cU 12 n ks _ c w (by omega) ha hr;rwa [hlen,hx] at this);rw [hlen];generalize ho:bS (.mk k1 n1 ks1)=o
 have ho':=aD ho;have hs1':=aD hs1;have ha':=aD ha;have hx':=aD hx;have hlen':=aD hlen;clear ho hs1 ha hx hkids hsh hm1 hm2 hkj;simp only [Nat.zero_mul,Nat.add_zero,Nat.one_mul,Nat.reduceMul] at i1 i2 i3
 go_enter func155,ntmps155;go_wp2_with (first
  | (at_builtin;refine dM hp3 rfl (by omega) _ rfl _ _ rfl rfl rfl ?_;intro A4 c4 w4 hcc4 hp4 hb4)
  | (go_at_call 155;refine (ih d k1 n1 ks1 A1 c1 _ (by omega) (by omega) hs1'.out (by omega) (hr1.below hb1)).mono ?_;rw [ho'.out];rintro e w3 ⟨A3,c3,xs,rfl,hm3,hc3',hp3,hpe,hb3⟩;have hb4':=hb1.trans (hb3.mono hb1.size))
  | (go_at_call 106;refine (hRx.out _ (hr.alloc _)).mono ?_;rintro e w1 ⟨rfl,hb1⟩;have hB1:=(aC w 25 (Ro 12 n (some ⟨b,off,none⟩) 3 c) rfl).keep hb1;obtain ⟨p10,p11,p12⟩:=hB1.three;replace hb1:=bw1.trans (hb1.mono (by simp));have y0:=(bR hb1) _ _ i1;have y1:=(bR hb1) _ _ i2;have y2:=(bR hb1) _ _ i3))
 go_ret2
 refine ⟨A4,c4,(1:Int)::xs,by cases o<;>rfl,by simp;omega,hcc4,hp4,?_,hb4'.trans (hb4.mono hb4'.size)⟩;intro p hp;cases o with
 | none=>cases hp
 | some p1=>injection hp with hp;rw [← hp,hpe p1 rfl];rfl
theorem aHw (N:Nat):wO N:=by
 induction N with
 | zero=>intro d k n ks A c w _ hN;exact absurd hN (Nat.not_lt_zero _)
 | succ N ih=>
 intro d k n ks A c w hd hN hsh hM hr;obtain ⟨d,rfl⟩:∃d',d=d'+1:=by cases d with|zero=>simp [shape] at hsh|succ d=>exact ⟨d,rfl⟩
 have ha:=((bD d k n ks).1 hsh).1;by_cases hx:cT k ks=0
 ·by_cases h5:k=5
  ·subst h5;exact aRv ih d n ks A c w hd hN hsh hM hr hx
  by_cases h15:k=15
  ·subst h15;exact aNq ih d n ks A c w hd hN hsh hM hr hx
  by_cases h16:k=16
  ·subst h16;exact aOj ih d n ks A c w hd hN hsh hM hr hx
  by_cases h9:k=9
  ·subst h9;exact aPx ih d n ks A c w hd hN hsh hM hr hx
  by_cases h12:k=12
  ·subst h12;exact aOg ih d n ks A c w hd hN hsh hM hr hx
  exact aMc (d+1) k n ks A c w ha hM hr hx h5 h15 h16 h9 h12
 ·exact aFh (d+1) k n ks A c w ha hM hr hx
theorem oQ (N:Nat)(d:Nat)(k n:Int)(ks:List Tm)(A:Option Addr)(c:Nat)(w:World)(hd:d≤30)(hN:aG ks<N)(hsh:shape d (.mk k n ks)=true)(hM:aG ks≤1099511627775)(hr:Rd w A 0 ks) :
  Calls prog 155 #[.agg (Ro k n A ks.length c)] w (WayPost (bS (.mk k n ks)) d w):=
 (aHw N d k n ks A c w hd hN hsh hM hr).mono fun e w' h=>h.way
theorem xD {find:Tm→Option (List Int)}{f:Nat}{t:Tm}(h:find t=none):redI find f t=(some t,0):=by rw [redI.eq_def];simp only [h]
theorem xR {find:Tm→Option (List Int)}{t:Tm}{p:List Int}(h:find t=some p):redI find 0 t=(none,1):=by rw [redI.eq_def];simp only [h]
theorem vQ {find:Tm→Option (List Int)}{f:Nat}{t:Tm}{p:List Int}(h:find t=some p)(h2:lL t p=none):redI find (f+1) t=(none,2):=by rw [redI.eq_def];simp only [h,h2]
theorem yB {find:Tm→Option (List Int)}{f:Nat}{t t':Tm}{p:List Int}(h:find t=some p)(h2:lL t p=some t'):redI find (f+1) t=redI find f t':=by rw [redI.eq_def];simp only [h,h2]
def aPj (w:World)(r:Option Tm × Int)(e:Ending)(w':World):Prop:=
 ∃(k n:Int) (ks:List Tm) (A:Option Addr) (c:Nat) (st:Int),r.1.getD (.mk 0 0 []) = .mk k n ks∧e = .returned (.tuple #[.agg (Ro k n A ks.length c),.int .i64 st,.int .i64 r.2])∧ks.length≤9223372036854775807∧RdP (fun b=>w.heap.size≤b) w' A 0 ks∧Bw w w'
def aQp (w:World)(r:Option Tm × Int)(e:Ending)(w':World):Prop:=
 ∃(k n:Int) (ks:List Tm) (A:Option Addr) (c:Nat),r.1.getD (.mk 0 0 []) = .mk k n ks∧e = .returned (.tuple #[.agg (Ro k n A ks.length c),.int .i64 r.2])∧ks.length≤9223372036854775807∧RdP (fun b=>w.heap.size≤b) w' A 0 ks∧Bw w w'
theorem Fresh.rd' {B:Nat}{w:World}{A:Option Addr}{ks:List Tm}(h:Fresh B w A ks):RdP (fun b=>B≤b) w A 0 ks:=h.rdp.mono fun b hb=>hb.1
theorem yU (k n:Int)(ks:List Tm)(A:Option Addr)(c:Nat)(fuel:Nat)(w:World)(hv:aE (.mk k n ks)=true)(hf:fuel≤200)(hr:Rd w A 0 ks) :
  Calls prog 71 #[.agg (Ro k n A ks.length c),.int .i64 fuel,.func (.func 72) #[] #[]] w (aPj w (redI eH fuel (.mk k n ks))):=by
 have hz:=aI hv;have hv':=aD hv;have hF:∀(args:Array Value) (w:World),(callFunc 72 args).run prog w = .ok (.enter 72 args) w:=eJ func72 (by kernel_rfl) (by kernel_rfl);have q1:decide ((fuel:Int)≤200)=true:=decide_eq_true (by omega);clear hv;go_enter func71,ntmps71;go_wp2_with (first
  | (go_at_call 41;refine (cI _ _ _ _).mono ?_;rintro e w9 ⟨rfl,rfl⟩)
  | (go_at_call 19;refine (aQ k n ks A c _ (by omega) ((hr.alloc _).alloc _)).mono ?_;rw [hv'.out];rintro e w1 ⟨rfl,hb1⟩;have hT1:=cM hb1;have hZ1:=bA hb1;have g1:Bw w w1:=bW bw2 hb1;have r1:=((hr.alloc (.cells (Ro k n A ks.length c) 25)).alloc (.cells Zr 25)).below hb1))
 go_loopw [9] (fun i wr=>∃(j:Nat) (kj nj:Int) (ksj:List Tm) (Aj:Option Addr) (cj:Nat),j≤fuel∧i = .int .i64 j∧Hid (redI eH (fuel - j) (.mk kj nj ksj)=redI eH fuel (.mk k n ks))∧Hid (aE (.mk kj nj ksj)=true)∧Rd wr Aj 0 ksj∧Blk wr w.heap.size (Ro kj nj Aj ksj.length cj)∧Blk wr (w.heap.size+1) Zr∧Bw w wr)
  (fun i _ => fuel - (intOf i).toNat)
 case atStart=>exact ⟨0,k,n,ks,A,c,Nat.zero_le _,rfl,aD rfl,hv',r1,hT1,hZ1,g1⟩
 case round=>
  obtain ⟨j,kj,nj,ksj,Aj,cj,hj,rfl,hred,hvj,hrj,hT,hZ,hb⟩:=hrel;have hzj:=aI hvj.out;obtain ⟨y0,y1,y2⟩:=hT.three;cases hfind:eH (.mk kj nj ksj) with
  | none=>
   have hfo:=aD hfind;have hres:redI eH fuel (.mk k n ks)=(some (.mk kj nj ksj),0):=by rw [← hred.out,xD hfind]
   rw [hres];clear hres hfind;go_wp2_with (first
    | (go_at_call 26;have _t:=tok1;refine (gF 10000 kj nj ksj Aj cj _ (by omega) (by omega) r1).mono ?_;rintro e w2 ⟨A2,c2,rfl,hl2,hf2,hb2⟩;have hZ2:=hZ1.keep hb2;have g2:=g1.trans (hb2.mono g1.size);obtain ⟨d0,d1,d2,e0,e1,e2⟩:=cA hZ2)
    | (go_at_call 72;refine (qL (aG ksj+1) 30 kj nj ksj Aj cj _ (by omega) (by omega) (bO hvj.out) (by omega) hrj).mono ?_;rw [hfo.out];intro e w1 hp1;obtain ⟨A1,m1,c1,rfl,hb1⟩:=hp1.none_;have hT1:=hT.keep hb1;have hZ1:=hZ.keep hb1;have g1:=hb.trans (hb1.mono hb.size);have r1:=hrj.below hb1;obtain ⟨x0,x1,x2⟩:=hT1.three;have tok1:=trivial))
   have lz:=hZ1.lt;refine bodyPost_ret (v:=.tuple #[.agg (Ro kj nj A2 ksj.length c2),.int .i64 j,.int .i64 0]) (by simp [results,results71,go_sem,d0,d1,d2]) rfl ⟨kj,nj,ksj,A2,c2,j,rfl,rfl,hl2,?_,?_⟩
   ·exact ((((hf2.rd'.setCell (by simp;omega) _).setCell (by simp;omega) _).setCell (by simp;omega) _)).mono (fun b hb=>Nat.le_trans g1.size hb)
   ·exact bV g2
  | some p=>
   obtain ⟨ku,nu,us,hat,hxu⟩:=aKs _ _ hfind;have hfo:=aD hfind;have hat':=aD hat
   have hxu':=aD hxu;by_cases hjf:j=fuel
   ·subst hjf;have hres:redI eH j (.mk k n ks)=(none,1):=by rw [← hred.out,Nat.sub_self,xR hfind]
    rw [hres];clear hres hfind hat hxu;go_wp2_with (go_at_call 72;refine (qL (aG ksj+1) 30 kj nj ksj Aj cj _ (by omega) (by omega) (bO hvj.out) (by omega) hrj).mono ?_;rw [hfo.out];intro e w1 hp1;obtain ⟨A1,m1,c1,rfl,hm1,hmc1,hme,hpx,hb1⟩:=hp1.some_;have hT1:=hT.keep hb1;have hZ1:=hZ.keep hb1;have g1:=hb.trans (hb1.mono hb.size);have r1:=hrj.below hb1;have ri:=hpx.rdi;subst hme;obtain ⟨x0,x1,x2⟩:=hT1.three;have tok1:=trivial;obtain ⟨d0,d1,d2,e0,e1,e2⟩:=cA hZ1)
    refine bodyPost_ret (v:=.tuple #[.agg Zr,.int .i64 j,.int .i64 1]) (by simp [results,results71,go_sem,d0,d1,d2]) rfl ⟨0,0,[],none,0,j,rfl,rfl,by simp,RdP.nil,?_⟩;exact bV g1
   ·have hjlt:j<fuel:=by omega
    have hq:((j:Int)==(fuel:Int))=false:=by simp;omega
    obtain ⟨f,hfe⟩:∃f,fuel - j=f+1:=⟨fuel - j - 1,by omega⟩;cases hct:lL (.mk kj nj ksj) p with
    | none=>
     have hres:redI eH fuel (.mk k n ks)=(none,2):=by rw [← hred.out,hfe,vQ hfind hct]
     rw [hres];have hct':=aD hct;clear hres hfind hat hxu hct;go_wp2_with (first
      | (go_at_call 105;have _t:=tok1;refine (qE kj nj ksj Aj cj p A1 c1 _ hvj.out (by omega) hmc1 hat'.out hxu'.out r1 ri).mono ?_;rw [hct'.out];intro e w2 hgo;obtain ⟨rfl,hb2⟩:=iX hgo;have hZ2:=hZ1.keep hb2;have g2:=g1.trans (hb2.mono g1.size);obtain ⟨d0,d1,d2,e0,e1,e2,lz⟩:=cZ hZ2;have n1:w.heap.size+1≠w2.heap.size:=(by omega))
      | (go_at_call 72;refine (qL (aG ksj+1) 30 kj nj ksj Aj cj _ (by omega) (by omega) (bO hvj.out) (by omega) hrj).mono ?_;rw [hfo.out];intro e w1 hp1;obtain ⟨A1,m1,c1,rfl,hm1,hmc1,hme,hpx,hb1⟩:=hp1.some_;have hT1:=hT.keep hb1;have hZ1:=hZ.keep hb1;have g1:=hb.trans (hb1.mono hb.size);have r1:=hrj.below hb1;have ri:=hpx.rdi;subst hme;obtain ⟨x0,x1,x2⟩:=hT1.three;have tok1:=trivial))
     have y:=fun (o:Obj)=>(((((hZ2.set_ 0 (.int .i64 0)).set_ 1 (.int .i64 0)).set_ 2 (.slice none 0 0)).alloc o:Blk _ _ Zr)).three
     refine bodyPost_ret (v:=.tuple #[.agg Zr,.int .i64 j,.int .i64 2]) (by simp [results,results71,go_sem,y]) rfl ⟨0,0,[],none,0,j,rfl,rfl,by simp,RdP.nil,?_⟩;exact (bV g2).alloc (by simp [World.setCell];exact g2.size) _
    | some t'=>
     obtain ⟨kt,nt,kst⟩:=t';have hvt:=aD (pO hct);have hres:=aD (show redI eH (fuel - (j+1)) (.mk kt nt kst)=redI eH fuel (.mk k n ks) by rw [← hred.out,hfe,yB hfind hct];congr 1;omega);have hct':=aD hct;clear hfind hat hxu hct;go_wp2_with (first
      | (go_at_call 105;have _t:=tok1;refine (qE kj nj ksj Aj cj p A1 c1 _ hvj.out (by omega) hmc1 hat'.out hxu'.out r1 ri).mono ?_;rw [hct'.out];intro e w2 hgo;obtain ⟨A2,c2,rfl,hl2,hf2,hb2⟩:=dE hgo;have hT2:=hT1.keep hb2;have hZ2:=hZ1.keep hb2;have g2:=g1.trans (hb2.mono g1.size);obtain ⟨e0,e1,e2⟩:=kS hT2;obtain ⟨d0,d1,d2⟩:=hT2.three;have lz:=hT2.lt)
      | (go_at_call 72;refine (qL (aG ksj+1) 30 kj nj ksj Aj cj _ (by omega) (by omega) (bO hvj.out) (by omega) hrj).mono ?_;rw [hfo.out];intro e w1 hp1;obtain ⟨A1,m1,c1,rfl,hm1,hmc1,hme,hpx,hb1⟩:=hp1.some_;have hT1:=hT.keep hb1;have hZ1:=hZ.keep hb1;have g1:=hb.trans (hb1.mono hb.size);have r1:=hrj.below hb1;have ri:=hpx.rdi;subst hme;obtain ⟨x0,x1,x2⟩:=hT1.three;have tok1:=trivial))
     have lt1:=hT1.lt;go_roundw
     case rel=>
      refine ⟨j+1,kt,nt,kst,A2,c2,by omega,by go_num,hres,hvt,?_,(((hT2.set_ 0 _).set_ 1 _).set_ 2 _).alloc _,(((hZ2.far (by simp) _).far (by simp) _).far (by simp) _).alloc _,(bV g2).alloc (by simp [World.setCell];exact g2.size) _⟩;exact ((((hf2.rd'.setCell (by simp;omega) _).setCell (by simp;omega) _).setCell (by simp;omega) _).alloc _).rd
     case measure=>simp [intOf];omega
theorem xB (k n:Int)(ks:List Tm)(A:Option Addr)(c:Nat)(fuel:Nat)(w:World)(hv:aE (.mk k n ks)=true)(hf:fuel≤200)(hr:Rd w A 0 ks) :
  Calls prog 42 #[.agg (Ro k n A ks.length c),.int .i64 fuel] w (aQp w (redI eH fuel (.mk k n ks))):=by
 generalize hre:redI eH fuel (.mk k n ks)=re
 have hR:=aD (fun (w:World) (hr:Rd w A 0 ks)=>by have:=yU k n ks A c fuel w hv hf hr;rwa [hre] at this);clear hre hv;go_enter func42,ntmps42;go_wp2_with (go_at_call 71;refine (hR.out _ ((hr.alloc _).alloc _)).mono ?_;rintro e w1 ⟨k1,n1',ks1,A1,c1,st,hk1,rfl,hl1,r1,hb1⟩;have hZ1:=bA hb1;have g1:Bw w w1:=bW bw2 hb1;obtain ⟨d0,d1,d2,e0,e1,e2,lz⟩:=cZ hZ1;have n1:w.heap.size+1≠w1.heap.size:=(by omega))
 have y:=fun (o:Obj)=>(((((hZ1.set_ 0 (.int .i64 k1)).set_ 1 (.int .i64 n1')).set_ 2 (.slice A1 ks1.length c1)).alloc o:Blk _ _ (Ro k1 n1' A1 ks1.length c1))).three
 refine bodyPost_ret (v:=.tuple #[.agg (Ro k1 n1' A1 ks1.length c1),.int .i64 re.2]) (by simp [results,results42,go_sem,y]) rfl ⟨k1,n1',ks1,A1,c1,hk1,rfl,hl1,?_,?_⟩
 ·exact ((((r1.setCell (by simp) _).setCell (by simp) _).setCell (by simp) _).alloc _).mono (fun b hb=>by simp at hb;omega)
 ·exact (bV g1).alloc (by simp [World.setCell];exact g1.size) _
theorem wG (k n:Int)(ks:List Tm)(A:Option Addr)(c:Nat)(fuel:Nat)(w:World)(hv:aE (.mk k n ks)=true)(hf:fuel≤200)(hr:Rd w A 0 ks) :
  Calls prog 71 #[.agg (Ro k n A ks.length c),.int .i64 fuel,.func (.func 155) #[] #[]] w (aPj w (redI bS fuel (.mk k n ks))):=by
 have hz:=aI hv;have hv':=aD hv;have hF:∀(args:Array Value) (w:World),(callFunc 155 args).run prog w = .ok (.enter 155 args) w:=eJ func155 (by kernel_rfl) (by kernel_rfl);have q1:decide ((fuel:Int)≤200)=true:=decide_eq_true (by omega);clear hv;go_enter func71,ntmps71;go_wp2_with (first
  | (go_at_call 41;refine (cI _ _ _ _).mono ?_;rintro e w9 ⟨rfl,rfl⟩)
  | (go_at_call 19;refine (aQ k n ks A c _ (by omega) ((hr.alloc _).alloc _)).mono ?_;rw [hv'.out];rintro e w1 ⟨rfl,hb1⟩;have hT1:=cM hb1;have hZ1:=bA hb1;have g1:Bw w w1:=bW bw2 hb1;have r1:=((hr.alloc (.cells (Ro k n A ks.length c) 25)).alloc (.cells Zr 25)).below hb1))
 go_loopw [9] (fun i wr=>∃(j:Nat) (kj nj:Int) (ksj:List Tm) (Aj:Option Addr) (cj:Nat),j≤fuel∧i = .int .i64 j∧Hid (redI bS (fuel - j) (.mk kj nj ksj)=redI bS fuel (.mk k n ks))∧Hid (aE (.mk kj nj ksj)=true)∧Rd wr Aj 0 ksj∧Blk wr w.heap.size (Ro kj nj Aj ksj.length cj)∧Blk wr (w.heap.size+1) Zr∧Bw w wr)
  (fun i _ => fuel - (intOf i).toNat)
 case atStart=>exact ⟨0,k,n,ks,A,c,Nat.zero_le _,rfl,aD rfl,hv',r1,hT1,hZ1,g1⟩
 case round=>
  obtain ⟨j,kj,nj,ksj,Aj,cj,hj,rfl,hred,hvj,hrj,hT,hZ,hb⟩:=hrel;have hzj:=aI hvj.out;obtain ⟨y0,y1,y2⟩:=hT.three;cases hfind:bS (.mk kj nj ksj) with
  | none=>
   have hfo:=aD hfind;have hres:redI bS fuel (.mk k n ks)=(some (.mk kj nj ksj),0):=by rw [← hred.out,xD hfind]
   rw [hres];clear hres hfind;go_wp2_with (first
    | (go_at_call 26;have _t:=tok1;refine (gF 10000 kj nj ksj Aj cj _ (by omega) (by omega) r1).mono ?_;rintro e w2 ⟨A2,c2,rfl,hl2,hf2,hb2⟩;have hZ2:=hZ1.keep hb2;have g2:=g1.trans (hb2.mono g1.size);obtain ⟨d0,d1,d2,e0,e1,e2⟩:=cA hZ2)
    | (go_at_call 155;refine (oQ (aG ksj+1) 30 kj nj ksj Aj cj _ (by omega) (by omega) (bO hvj.out) (by omega) hrj).mono ?_;rw [hfo.out];intro e w1 hp1;obtain ⟨A1,m1,c1,rfl,hb1⟩:=hp1.none_;have hT1:=hT.keep hb1;have hZ1:=hZ.keep hb1;have g1:=hb.trans (hb1.mono hb.size);have r1:=hrj.below hb1;obtain ⟨x0,x1,x2⟩:=hT1.three;have tok1:=trivial))
   have lz:=hZ1.lt;refine bodyPost_ret (v:=.tuple #[.agg (Ro kj nj A2 ksj.length c2),.int .i64 j,.int .i64 0]) (by simp [results,results71,go_sem,d0,d1,d2]) rfl ⟨kj,nj,ksj,A2,c2,j,rfl,rfl,hl2,?_,?_⟩
   ·exact ((((hf2.rd'.setCell (by simp;omega) _).setCell (by simp;omega) _).setCell (by simp;omega) _)).mono (fun b hb=>Nat.le_trans g1.size hb)
   ·exact bV g2
  | some p=>
   obtain ⟨ku,nu,us,hat,hxu⟩:=aFx _ _ hfind;have hfo:=aD hfind;have hat':=aD hat
   have hxu':=aD hxu;by_cases hjf:j=fuel
   ·subst hjf;have hres:redI bS j (.mk k n ks)=(none,1):=by rw [← hred.out,Nat.sub_self,xR hfind]
    rw [hres];clear hres hfind hat hxu;go_wp2_with (go_at_call 155;refine (oQ (aG ksj+1) 30 kj nj ksj Aj cj _ (by omega) (by omega) (bO hvj.out) (by omega) hrj).mono ?_;rw [hfo.out];intro e w1 hp1;obtain ⟨A1,m1,c1,rfl,hm1,hmc1,hme,hpx,hb1⟩:=hp1.some_;have hT1:=hT.keep hb1;have hZ1:=hZ.keep hb1;have g1:=hb.trans (hb1.mono hb.size);have r1:=hrj.below hb1;have ri:=hpx.rdi;subst hme;obtain ⟨x0,x1,x2⟩:=hT1.three;have tok1:=trivial;obtain ⟨d0,d1,d2,e0,e1,e2⟩:=cA hZ1)
    refine bodyPost_ret (v:=.tuple #[.agg Zr,.int .i64 j,.int .i64 1]) (by simp [results,results71,go_sem,d0,d1,d2]) rfl ⟨0,0,[],none,0,j,rfl,rfl,by simp,RdP.nil,?_⟩;exact bV g1
   ·have hjlt:j<fuel:=by omega
    have hq:((j:Int)==(fuel:Int))=false:=by simp;omega
    obtain ⟨f,hfe⟩:∃f,fuel - j=f+1:=⟨fuel - j - 1,by omega⟩;cases hct:lL (.mk kj nj ksj) p with
    | none=>
     have hres:redI bS fuel (.mk k n ks)=(none,2):=by rw [← hred.out,hfe,vQ hfind hct]
     rw [hres];have hct':=aD hct;clear hres hfind hat hxu hct;go_wp2_with (first
      | (go_at_call 105;have _t:=tok1;refine (qE kj nj ksj Aj cj p A1 c1 _ hvj.out (by omega) hmc1 hat'.out hxu'.out r1 ri).mono ?_;rw [hct'.out];intro e w2 hgo;obtain ⟨rfl,hb2⟩:=iX hgo;have hZ2:=hZ1.keep hb2;have g2:=g1.trans (hb2.mono g1.size);obtain ⟨d0,d1,d2,e0,e1,e2,lz⟩:=cZ hZ2;have n1:w.heap.size+1≠w2.heap.size:=(by omega))
      | (go_at_call 155;refine (oQ (aG ksj+1) 30 kj nj ksj Aj cj _ (by omega) (by omega) (bO hvj.out) (by omega) hrj).mono ?_;rw [hfo.out];intro e w1 hp1;obtain ⟨A1,m1,c1,rfl,hm1,hmc1,hme,hpx,hb1⟩:=hp1.some_;have hT1:=hT.keep hb1;have hZ1:=hZ.keep hb1;have g1:=hb.trans (hb1.mono hb.size);have r1:=hrj.below hb1;have ri:=hpx.rdi;subst hme;obtain ⟨x0,x1,x2⟩:=hT1.three;have tok1:=trivial))
     have y:=fun (o:Obj)=>(((((hZ2.set_ 0 (.int .i64 0)).set_ 1 (.int .i64 0)).set_ 2 (.slice none 0 0)).alloc o:Blk _ _ Zr)).three
     refine bodyPost_ret (v:=.tuple #[.agg Zr,.int .i64 j,.int .i64 2]) (by simp [results,results71,go_sem,y]) rfl ⟨0,0,[],none,0,j,rfl,rfl,by simp,RdP.nil,?_⟩;exact (bV g2).alloc (by simp [World.setCell];exact g2.size) _
    | some t'=>
     obtain ⟨kt,nt,kst⟩:=t';have hvt:=aD (pO hct);have hres:=aD (show redI bS (fuel - (j+1)) (.mk kt nt kst)=redI bS fuel (.mk k n ks) by rw [← hred.out,hfe,yB hfind hct];congr 1;omega);have hct':=aD hct;clear hfind hat hxu hct;go_wp2_with (first
      | (go_at_call 105;have _t:=tok1;refine (qE kj nj ksj Aj cj p A1 c1 _ hvj.out (by omega) hmc1 hat'.out hxu'.out r1 ri).mono ?_;rw [hct'.out];intro e w2 hgo;obtain ⟨A2,c2,rfl,hl2,hf2,hb2⟩:=dE hgo;have hT2:=hT1.keep hb2;have hZ2:=hZ1.keep hb2;have g2:=g1.trans (hb2.mono g1.size);obtain ⟨e0,e1,e2⟩:=kS hT2;obtain ⟨d0,d1,d2⟩:=hT2.three;have lz:=hT2.lt)
      | (go_at_call 155;refine (oQ (aG ksj+1) 30 kj nj ksj Aj cj _ (by omega) (by omega) (bO hvj.out) (by omega) hrj).mono ?_;rw [hfo.out];intro e w1 hp1;obtain ⟨A1,m1,c1,rfl,hm1,hmc1,hme,hpx,hb1⟩:=hp1.some_;have hT1:=hT.keep hb1;have hZ1:=hZ.keep hb1;have g1:=hb.trans (hb1.mono hb.size);have r1:=hrj.below hb1;have ri:=hpx.rdi;subst hme;obtain ⟨x0,x1,x2⟩:=hT1.three;have tok1:=trivial))
     have lt1:=hT1.lt;go_roundw
     case rel=>
      refine ⟨j+1,kt,nt,kst,A2,c2,by omega,by go_num,hres,hvt,?_,(((hT2.set_ 0 _).set_ 1 _).set_ 2 _).alloc _,(((hZ2.far (by simp) _).far (by simp) _).far (by simp) _).alloc _,(bV g2).alloc (by simp [World.setCell];exact g2.size) _⟩;exact ((((hf2.rd'.setCell (by simp;omega) _).setCell (by simp;omega) _).setCell (by simp;omega) _).alloc _).rd
     case measure=>simp [intOf];omega
theorem aDa (k n:Int)(ks:List Tm)(A:Option Addr)(c:Nat)(fuel:Nat)(w:World)(hv:aE (.mk k n ks)=true)(hf:fuel≤200)(hr:Rd w A 0 ks) :
  Calls prog 141 #[.agg (Ro k n A ks.length c),.int .i64 fuel] w (aQp w (redI bS fuel (.mk k n ks))):=by
 generalize hre:redI bS fuel (.mk k n ks)=re
 have hR:=aD (fun (w:World) (hr:Rd w A 0 ks)=>by have:=wG k n ks A c fuel w hv hf hr;rwa [hre] at this);clear hre hv;go_enter func141,ntmps141;go_wp2_with (go_at_call 71;refine (hR.out _ ((hr.alloc _).alloc _)).mono ?_;rintro e w1 ⟨k1,n1',ks1,A1,c1,st,hk1,rfl,hl1,r1,hb1⟩;have hZ1:=bA hb1;have g1:Bw w w1:=bW bw2 hb1;obtain ⟨d0,d1,d2,e0,e1,e2,lz⟩:=cZ hZ1;have n1:w.heap.size+1≠w1.heap.size:=(by omega))
 have y:=fun (o:Obj)=>(((((hZ1.set_ 0 (.int .i64 k1)).set_ 1 (.int .i64 n1')).set_ 2 (.slice A1 ks1.length c1)).alloc o:Blk _ _ (Ro k1 n1' A1 ks1.length c1))).three
 refine bodyPost_ret (v:=.tuple #[.agg (Ro k1 n1' A1 ks1.length c1),.int .i64 re.2]) (by simp [results,results141,go_sem,y]) rfl ⟨k1,n1',ks1,A1,c1,hk1,rfl,hl1,?_,?_⟩
 ·exact ((((r1.setCell (by simp) _).setCell (by simp) _).setCell (by simp) _).alloc _).mono (fun b hb=>by simp at hb;omega)
 ·exact (bV g1).alloc (by simp [World.setCell];exact g1.size) _
theorem zP {w:World}{r:Option Tm × Int}{e:Ending}{w':World}(h:aQp w r e w'){k n c:Int}{ks:List Tm}(h1:r.1.getD (.mk 0 0 []) = .mk k n ks)(h2:r.2=c) :
  ∃A d,e = .returned (.tuple #[.agg (Ro k n A ks.length d),.int .i64 c])∧ks.length≤9223372036854775807∧Rd w' A 0 ks∧Bw w w':=by
 obtain ⟨k1,n1,ks1,A,d,hk,rfl,hl,hr,hb⟩:=h;rw [h1] at hk;injection hk with a1 a2 a3;subst a1 a2 a3 h2;exact ⟨A,d,rfl,hl,hr.rd,hb⟩
theorem xP (k n:Int)(ks:List Tm)(A:Option Addr)(c:Nat)(k' n':Int)(ls:List Tm)(B:Option Addr)(d:Nat)(fuel:Nat)(w:World)(hf:fuel≤200)(hv:aE (.mk k n ks)=true)(hv':aE (.mk k' n' ls)=true)(hr:Rd w A 0 ks)(hr':Rd w B 0 ls) :
    Calls prog 13 #[.agg (Ro k n A ks.length c),.agg (Ro k' n' B ls.length d),.int .i64 fuel] w fun e w'=>e = .returned (.int .i64 (lU fuel (.mk k n ks) (.mk k' n' ls)))∧Bw w w':=by
  have hz:=aI hv;have hz':=aI hv';have hl1:=aJ ks;have hl2:=aJ ls;have q1:decide ((fuel:Int)≤200)=true:=decide_eq_true (by omega);obtain ⟨xk,xn,xs,hx⟩:∃a b l,(redI eH fuel (.mk k n ks)).1.getD (.mk 0 0 []) = .mk a b l:=by cases (redI eH fuel (.mk k n ks)).1.getD (.mk 0 0 []) with|mk a b l=>exact ⟨a,b,l,rfl⟩
  obtain ⟨yk,yn,ys,hy⟩:∃a b l,(redI eH fuel (.mk k' n' ls)).1.getD (.mk 0 0 []) = .mk a b l:=by cases (redI eH fuel (.mk k' n' ls)).1.getD (.mk 0 0 []) with|mk a b l=>exact ⟨a,b,l,rfl⟩
  obtain ⟨ca,hca⟩:∃z,(redI eH fuel (.mk k n ks)).2=z:=⟨_,rfl⟩;obtain ⟨cb,hcb⟩:∃z,(redI eH fuel (.mk k' n' ls)).2=z:=⟨_,rfl⟩;have hN1:=aD (fun (w:World) (hr:Rd w A 0 ks)=>(xB k n ks A c fuel w hv hf hr).mono fun e w' h=>zP h hx hca);have hN2:=aD (fun (w:World) (hr:Rd w B 0 ls)=>(xB k' n' ls B d fuel w hv' hf hr).mono fun e w' h=>zP h hy hcb);have hcv:lU fuel (.mk k n ks) (.mk k' n' ls)=if jO (.mk k n ks) (.mk k' n' ls)=true then 1 else if ca≠0∨cb≠0 then 3 else if jO (.mk xk xn xs) (.mk yk yn ys)=true then 1 else 2:=by rw [lU,hx,hy,hca,hcb]
  rw [hcv];have hv1:=aD hv;have hv2:=aD hv';clear hcv hx hy hca hcb hv hv';cases hT:jO (.mk k n ks) (.mk k' n' ls) with
  | true=>
    rw [if_pos rfl];replace hT:=aD hT;go_enter func13,ntmps13;go_wp2_with (first
    | (go_at_call 7;have _t:=tok2;refine (eI k n ks A c k' n' ls B d _ (by omega) (by omega) (hr.below g2) (hr'.below g2)).mono ?_;rw [hT.out];rintro e w3 ⟨rfl,hb3⟩;have hX3:=hX2.keep hb3;have hY3:=hY2.keep hb3;have g3:=g2.trans (hb3.mono g2.size);clear x0 x1 x2 y0 y1 y2;obtain ⟨x0,x1,x2⟩:=hX3.three;obtain ⟨y0,y1,y2⟩:=hY3.three;have tok3:=trivial)
    | (go_at_call 41;refine (cI _ _ _ _).mono ?_;rintro e w9 ⟨rfl,rfl⟩)
    | (go_at_call 19;have _t:=tok1;refine (aQ k' n' ls B d _ (by omega) (hr'.below g1)).mono ?_;rw [hv2.out];rintro e w2 ⟨rfl,hb2⟩;have hX2:=hX1.keep hb2;have hY2:=hY1.keep hb2;have g2:=g1.trans (hb2.mono g1.size);clear x0 x1 x2 y0 y1 y2;obtain ⟨x0,x1,x2⟩:=hX2.three;obtain ⟨y0,y1,y2⟩:=hY2.three;have tok2:=trivial)
    | (go_at_call 19;refine (aQ k n ks A c _ (by omega) ((hr.alloc _).alloc _)).mono ?_;rw [hv1.out];rintro e w1 ⟨rfl,hb1⟩;have hX1:=cM hb1;have hY1:=bA hb1;have g1:Bw w w1:=bW bw2 hb1;obtain ⟨x0,x1,x2⟩:=hX1.three;obtain ⟨y0,y1,y2⟩:=hY1.three;have tok1:=trivial))
    go_ret
    exact ⟨rfl,g3⟩
  | false=>
    rw [if_neg (by simp)];replace hT:=aD hT;by_cases h1:ca=0
    · by_cases h2:cb=0
      · rw [if_neg (by omega)]
        subst h1 h2;cases hU:jO (.mk xk xn xs) (.mk yk yn ys) with
        | true=>
          rw [if_pos rfl];replace hU:=aD hU;go_enter func13,ntmps13;go_wp2_with (first
    | (go_at_call 7;have _t:=tok5;refine (eI xk xn xs A4 c4 yk yn ys A5 c5 _ hl4 hl5 (r45.alloc _) (r5.alloc _)).mono ?_;rw [hU.out];rintro e w6 ⟨rfl,hb6⟩;have g6:=(g5.alloc g5.size (.cells (Ro yk yn A5 ys.length c5) 25)).trans (hb6.mono (by have:=g5.size;simp;omega)))
    | (go_at_call 42;have _t:=tok4;refine (hN2.out _ ((hr'.below g4).alloc _)).mono ?_;rintro e w5 ⟨A5,c5,rfl,hl5,r5,hb5⟩;have hP5:=(aC w4 25 (Ro xk xn A4 xs.length c4) rfl).keep hb5;have g5:=(g4.alloc g4.size (.cells (Ro xk xn A4 xs.length c4) 25)).trans (hb5.mono (by have:=g4.size;simp;omega));have r45:=(r4.alloc (.cells (Ro xk xn A4 xs.length c4) 25)).below hb5;obtain ⟨p0,p1,p2⟩:=hP5.three;have lp:=hP5.lt;have tok5:=trivial)
    | (go_at_call 42;have _t:=tok3;refine (hN1.out _ (hr.below g3)).mono ?_;rintro e w4 ⟨A4,c4,rfl,hl4,r4,hb4⟩;have hY4:=hY3.keep hb4;have g4:=g3.trans (hb4.mono g3.size);clear x0 x1 x2 y0 y1 y2;obtain ⟨y0,y1,y2⟩:=hY4.three;have ly4:=hY4.lt;have tok4:=trivial)
    | (go_at_call 7;have _t:=tok2;refine (eI k n ks A c k' n' ls B d _ (by omega) (by omega) (hr.below g2) (hr'.below g2)).mono ?_;rw [hT.out];rintro e w3 ⟨rfl,hb3⟩;have hX3:=hX2.keep hb3;have hY3:=hY2.keep hb3;have g3:=g2.trans (hb3.mono g2.size);clear x0 x1 x2 y0 y1 y2;obtain ⟨x0,x1,x2⟩:=hX3.three;obtain ⟨y0,y1,y2⟩:=hY3.three;have tok3:=trivial)
    | (go_at_call 41;refine (cI _ _ _ _).mono ?_;rintro e w9 ⟨rfl,rfl⟩)
    | (go_at_call 19;have _t:=tok1;refine (aQ k' n' ls B d _ (by omega) (hr'.below g1)).mono ?_;rw [hv2.out];rintro e w2 ⟨rfl,hb2⟩;have hX2:=hX1.keep hb2;have hY2:=hY1.keep hb2;have g2:=g1.trans (hb2.mono g1.size);clear x0 x1 x2 y0 y1 y2;obtain ⟨x0,x1,x2⟩:=hX2.three;obtain ⟨y0,y1,y2⟩:=hY2.three;have tok2:=trivial)
    | (go_at_call 19;refine (aQ k n ks A c _ (by omega) ((hr.alloc _).alloc _)).mono ?_;rw [hv1.out];rintro e w1 ⟨rfl,hb1⟩;have hX1:=cM hb1;have hY1:=bA hb1;have g1:Bw w w1:=bW bw2 hb1;obtain ⟨x0,x1,x2⟩:=hX1.three;obtain ⟨y0,y1,y2⟩:=hY1.three;have tok1:=trivial))
          go_ret
          exact ⟨rfl,g6⟩
        | false=>
          rw [if_neg (by simp)];replace hU:=aD hU;go_enter func13,ntmps13;go_wp2_with (first
    | (go_at_call 7;have _t:=tok5;refine (eI xk xn xs A4 c4 yk yn ys A5 c5 _ hl4 hl5 (r45.alloc _) (r5.alloc _)).mono ?_;rw [hU.out];rintro e w6 ⟨rfl,hb6⟩;have g6:=(g5.alloc g5.size (.cells (Ro yk yn A5 ys.length c5) 25)).trans (hb6.mono (by have:=g5.size;simp;omega)))
    | (go_at_call 42;have _t:=tok4;refine (hN2.out _ ((hr'.below g4).alloc _)).mono ?_;rintro e w5 ⟨A5,c5,rfl,hl5,r5,hb5⟩;have hP5:=(aC w4 25 (Ro xk xn A4 xs.length c4) rfl).keep hb5;have g5:=(g4.alloc g4.size (.cells (Ro xk xn A4 xs.length c4) 25)).trans (hb5.mono (by have:=g4.size;simp;omega));have r45:=(r4.alloc (.cells (Ro xk xn A4 xs.length c4) 25)).below hb5;obtain ⟨p0,p1,p2⟩:=hP5.three;have lp:=hP5.lt;have tok5:=trivial)
    | (go_at_call 42;have _t:=tok3;refine (hN1.out _ (hr.below g3)).mono ?_;rintro e w4 ⟨A4,c4,rfl,hl4,r4,hb4⟩;have hY4:=hY3.keep hb4;have g4:=g3.trans (hb4.mono g3.size);clear x0 x1 x2 y0 y1 y2;obtain ⟨y0,y1,y2⟩:=hY4.three;have ly4:=hY4.lt;have tok4:=trivial)
    | (go_at_call 7;have _t:=tok2;refine (eI k n ks A c k' n' ls B d _ (by omega) (by omega) (hr.below g2) (hr'.below g2)).mono ?_;rw [hT.out];rintro e w3 ⟨rfl,hb3⟩;have hX3:=hX2.keep hb3;have hY3:=hY2.keep hb3;have g3:=g2.trans (hb3.mono g2.size);clear x0 x1 x2 y0 y1 y2;obtain ⟨x0,x1,x2⟩:=hX3.three;obtain ⟨y0,y1,y2⟩:=hY3.three;have tok3:=trivial)
    | (go_at_call 41;refine (cI _ _ _ _).mono ?_;rintro e w9 ⟨rfl,rfl⟩)
    | (go_at_call 19;have _t:=tok1;refine (aQ k' n' ls B d _ (by omega) (hr'.below g1)).mono ?_;rw [hv2.out];rintro e w2 ⟨rfl,hb2⟩;have hX2:=hX1.keep hb2;have hY2:=hY1.keep hb2;have g2:=g1.trans (hb2.mono g1.size);clear x0 x1 x2 y0 y1 y2;obtain ⟨x0,x1,x2⟩:=hX2.three;obtain ⟨y0,y1,y2⟩:=hY2.three;have tok2:=trivial)
    | (go_at_call 19;refine (aQ k n ks A c _ (by omega) ((hr.alloc _).alloc _)).mono ?_;rw [hv1.out];rintro e w1 ⟨rfl,hb1⟩;have hX1:=cM hb1;have hY1:=bA hb1;have g1:Bw w w1:=bW bw2 hb1;obtain ⟨x0,x1,x2⟩:=hX1.three;obtain ⟨y0,y1,y2⟩:=hY1.three;have tok1:=trivial))
          go_ret
          exact ⟨rfl,g6⟩
      · rw [if_pos (.inr h2)]
        subst h1;have q2:(cb != 0)=true:=by simpa using h2
        clear h2;go_enter func13,ntmps13;go_wp2_with (first
    | (go_at_call 42;have _t:=tok4;refine (hN2.out _ ((hr'.below g4).alloc _)).mono ?_;rintro e w5 ⟨A5,c5,rfl,hl5,r5,hb5⟩;have hP5:=(aC w4 25 (Ro xk xn A4 xs.length c4) rfl).keep hb5;have g5:=(g4.alloc g4.size (.cells (Ro xk xn A4 xs.length c4) 25)).trans (hb5.mono (by have:=g4.size;simp;omega));have r45:=(r4.alloc (.cells (Ro xk xn A4 xs.length c4) 25)).below hb5;obtain ⟨p0,p1,p2⟩:=hP5.three;have lp:=hP5.lt;have tok5:=trivial)
    | (go_at_call 42;have _t:=tok3;refine (hN1.out _ (hr.below g3)).mono ?_;rintro e w4 ⟨A4,c4,rfl,hl4,r4,hb4⟩;have hY4:=hY3.keep hb4;have g4:=g3.trans (hb4.mono g3.size);clear x0 x1 x2 y0 y1 y2;obtain ⟨y0,y1,y2⟩:=hY4.three;have ly4:=hY4.lt;have tok4:=trivial)
    | (go_at_call 7;have _t:=tok2;refine (eI k n ks A c k' n' ls B d _ (by omega) (by omega) (hr.below g2) (hr'.below g2)).mono ?_;rw [hT.out];rintro e w3 ⟨rfl,hb3⟩;have hX3:=hX2.keep hb3;have hY3:=hY2.keep hb3;have g3:=g2.trans (hb3.mono g2.size);clear x0 x1 x2 y0 y1 y2;obtain ⟨x0,x1,x2⟩:=hX3.three;obtain ⟨y0,y1,y2⟩:=hY3.three;have tok3:=trivial)
    | (go_at_call 41;refine (cI _ _ _ _).mono ?_;rintro e w9 ⟨rfl,rfl⟩)
    | (go_at_call 19;have _t:=tok1;refine (aQ k' n' ls B d _ (by omega) (hr'.below g1)).mono ?_;rw [hv2.out];rintro e w2 ⟨rfl,hb2⟩;have hX2:=hX1.keep hb2;have hY2:=hY1.keep hb2;have g2:=g1.trans (hb2.mono g1.size);clear x0 x1 x2 y0 y1 y2;obtain ⟨x0,x1,x2⟩:=hX2.three;obtain ⟨y0,y1,y2⟩:=hY2.three;have tok2:=trivial)
    | (go_at_call 19;refine (aQ k n ks A c _ (by omega) ((hr.alloc _).alloc _)).mono ?_;rw [hv1.out];rintro e w1 ⟨rfl,hb1⟩;have hX1:=cM hb1;have hY1:=bA hb1;have g1:Bw w w1:=bW bw2 hb1;obtain ⟨x0,x1,x2⟩:=hX1.three;obtain ⟨y0,y1,y2⟩:=hY1.three;have tok1:=trivial))
        go_ret
        exact ⟨rfl,g5.alloc g5.size _⟩
    · rw [if_pos (.inl h1)]
      have q2:(ca != 0)=true:=by simpa using h1
      clear h1;go_enter func13,ntmps13;go_wp2_with (first
    | (go_at_call 42;have _t:=tok4;refine (hN2.out _ ((hr'.below g4).alloc _)).mono ?_;rintro e w5 ⟨A5,c5,rfl,hl5,r5,hb5⟩;have hP5:=(aC w4 25 (Ro xk xn A4 xs.length c4) rfl).keep hb5;have g5:=(g4.alloc g4.size (.cells (Ro xk xn A4 xs.length c4) 25)).trans (hb5.mono (by have:=g4.size;simp;omega));have r45:=(r4.alloc (.cells (Ro xk xn A4 xs.length c4) 25)).below hb5;obtain ⟨p0,p1,p2⟩:=hP5.three;have lp:=hP5.lt;have tok5:=trivial)
    | (go_at_call 42;have _t:=tok3;refine (hN1.out _ (hr.below g3)).mono ?_;rintro e w4 ⟨A4,c4,rfl,hl4,r4,hb4⟩;have hY4:=hY3.keep hb4;have g4:=g3.trans (hb4.mono g3.size);clear x0 x1 x2 y0 y1 y2;obtain ⟨y0,y1,y2⟩:=hY4.three;have ly4:=hY4.lt;have tok4:=trivial)
    | (go_at_call 7;have _t:=tok2;refine (eI k n ks A c k' n' ls B d _ (by omega) (by omega) (hr.below g2) (hr'.below g2)).mono ?_;rw [hT.out];rintro e w3 ⟨rfl,hb3⟩;have hX3:=hX2.keep hb3;have hY3:=hY2.keep hb3;have g3:=g2.trans (hb3.mono g2.size);clear x0 x1 x2 y0 y1 y2;obtain ⟨x0,x1,x2⟩:=hX3.three;obtain ⟨y0,y1,y2⟩:=hY3.three;have tok3:=trivial)
    | (go_at_call 41;refine (cI _ _ _ _).mono ?_;rintro e w9 ⟨rfl,rfl⟩)
    | (go_at_call 19;have _t:=tok1;refine (aQ k' n' ls B d _ (by omega) (hr'.below g1)).mono ?_;rw [hv2.out];rintro e w2 ⟨rfl,hb2⟩;have hX2:=hX1.keep hb2;have hY2:=hY1.keep hb2;have g2:=g1.trans (hb2.mono g1.size);clear x0 x1 x2 y0 y1 y2;obtain ⟨x0,x1,x2⟩:=hX2.three;obtain ⟨y0,y1,y2⟩:=hY2.three;have tok2:=trivial)
    | (go_at_call 19;refine (aQ k n ks A c _ (by omega) ((hr.alloc _).alloc _)).mono ?_;rw [hv1.out];rintro e w1 ⟨rfl,hb1⟩;have hX1:=cM hb1;have hY1:=bA hb1;have g1:Bw w w1:=bW bw2 hb1;obtain ⟨x0,x1,x2⟩:=hX1.three;obtain ⟨y0,y1,y2⟩:=hY1.three;have tok1:=trivial))
      go_ret
      exact ⟨rfl,g5.alloc g5.size _⟩
theorem aOd {w:World}{z:Nat}(hZ:Blk w z Zr):(∀t d b off i,shape d t=true→RdC w b off i t→RdPC (·≠z) w b off i t)∧(∀(ks:List Tm) d A i,(∀t,t∈ks→shape d t=true)→Rd w A i ks→RdP (·≠z) w A i ks):=by
 refine bM (fun k n ks ih d b off i hs hr=>?_) (fun d A i _ _=>RdP.nil) (fun t ts h1 h2 d A i hs hr=>?_)
 ·obtain ⟨d,rfl⟩:∃d',d=d'+1:=by cases d with|zero=>simp [shape] at hs|succ d=>exact ⟨d,rfl⟩
  obtain ⟨ha,_,_,hk⟩:=(bD d k n ks).1 hs;obtain ⟨c1,c2,A,c,c3,hl,hr'⟩:=RdC.iff.1 hr;refine RdPC.iff.2 ⟨fun e=>?_,c1,c2,A,c,c3,hl,ih d A 0 hk hr'⟩;subst e;have h0:k≠0:=by rintro rfl;have:aW 0 = -1:=rfl;omega
  rw [hZ.cell] at c1;generalize off+i*3=j at c1
  rcases j with _|_|_|j
  ·simp at c1;exact h0 c1.symm
  ·simp at c1;exact h0 c1.symm
  ·simp at c1
  ·simp at c1
 ·obtain ⟨⟨b,off,e,hc⟩,hr'⟩:=Rd.cons_iff.1 hr;exact RdP.cons_iff.2 ⟨⟨b,off,e,h1 d b off i (hs t (by simp)) hc⟩,h2 d A (i+1) (fun u hu=>hs u (by simp [hu])) hr'⟩
theorem bT {w:World}{z:Nat}{k n:Int}{ks:List Tm}{A:Option Addr}(hZ:Blk w z Zr)(hv:aE (.mk k n ks)=true)(hr:Rd w A 0 ks)(x y v:Value) :
  Rd (((w.setCell ⟨z,0,none⟩ x).setCell ⟨z,1,none⟩ y).setCell ⟨z,2,none⟩ v) A 0 ks:=by
 have hs:=((bD 29 k n ks).1 (bO hv)).2.2.2;exact (((((aOd hZ).2 ks 29 A 0 hs hr).setCell (a:=⟨z,0,none⟩) (fun h=>h rfl) x).setCell (a:=⟨z,1,none⟩) (fun h=>h rfl) y).setCell (a:=⟨z,2,none⟩) (fun h=>h rfl) v).rd
def eO (w:World)(k n:Int)(ks:List Tm)(e:Ending)(w':World):Prop:=
 ∃A c,e = .returned (.tuple #[.agg (Ro k n A ks.length c),.int .i64 0])∧ks.length≤9223372036854775807∧Rd w' A 0 ks∧Bw w w'
theorem oK (x:Int)(w:World):Calls prog 91 #[.int .i64 x] w fun e w'=>e = .returned (.agg (Ro 2 x none 0 0))∧Bw w w':=by
 go_enter func91,ntmps91;go_wp2_with fail
 refine bodyPost_ret (v:=.agg (Ro 2 x none 0 0)) (by simp [results,results91,go_sem]) rfl ⟨rfl,?_⟩;exact bw1
theorem cJ (k1 n1:Int)(s1:List Tm)(A1:Option Addr)(c1:Nat)(w:World)(hv:aE (.mk k1 n1 s1)=true)(hr:Rd w A1 0 s1) :
  Calls prog 89 #[.agg (Ro k1 n1 A1 s1.length c1),.bool true] w fun e w'=>e = .returned (.tuple #[.agg (Ro k1 n1 A1 s1.length c1),.int .i64 0])∧Bw w w':=by
 have hz:=aI hv;have hv':=aD hv;clear hv;go_enter func89,ntmps89;go_wp2_with (go_at_call 19;refine (aQ k1 n1 s1 A1 c1 _ (by omega) ((hr.alloc _).alloc _)).mono ?_;rw [hv'.out];rintro e w1 ⟨rfl,hb1⟩;have hX:=((aC w 25 (Ro k1 n1 A1 s1.length c1) rfl).alloc (.cells Zr 25)).keep hb1;have hZ:=bA hb1;have g1:Bw w w1:=bW bw2 hb1;obtain ⟨x0,x1,x2⟩:=hX.three;obtain ⟨d0,d1,d2,e0,e1,e2⟩:=cA hZ)
 refine bodyPost_ret (v:=.tuple #[.agg (Ro k1 n1 A1 s1.length c1),.int .i64 0]) (by simp [results,results89,go_sem,d0,d1,d2]) rfl ⟨rfl,?_⟩;exact bV g1
theorem lN {s o:Tm}{kind:Int}(h:oU s kind=some o):aE s=true∧(redI bS 200 s).1=some o∧(redI bS 200 s).2=0∧o.k=kind∧aE o=true:=by
 unfold oU at h
 split at h
 ·rename_i hv
  split at h
  ·rename_i o' c he
   split at h
   ·rename_i hc
    injection h with h;subst h;rw [he];exact ⟨hv,rfl,hc.1,hc.2,vC _ _ _ _ hv he⟩
   ·cases h
  ·cases h
 ·cases h
theorem kU (k1 n1:Int)(s1:List Tm)(A1:Option Addr)(c1:Nat)(kind n3:Int)(s3:List Tm)(w:World)(hs:oU (.mk k1 n1 s1) kind=some (.mk kind n3 s3))(hr:Rd w A1 0 s1) :
  Calls prog 114 #[.agg (Ro k1 n1 A1 s1.length c1),.int .i64 kind] w (eO w kind n3 s3):=by
 obtain ⟨hv,h1,h2,h3,h4⟩:=lN hs;have hH:=aD (fun (w:World) (hr:Rd w A1 0 s1)=>(aDa k1 n1 s1 A1 c1 200 w hv (by omega) hr).mono fun e w' h=>zP h (by rw [h1];rfl) h2);have h4':=aD h4;clear hs hv h1 h2 h3 h4;go_enter func114,ntmps114;go_wp2_with (go_at_call 141;refine (hH.out _ ((hr.alloc _).alloc _)).mono ?_;rintro e w1 ⟨A3,c3,rfl,hl3,r3,hb1⟩;have hZ:=bA hb1;have g1:Bw w w1:=bW bw2 hb1;obtain ⟨d0,d1,d2,e0,e1,e2,lz⟩:=cZ hZ;have n1':w.heap.size+1≠w1.heap.size:=(by omega))
 have y:=fun (o:Obj)=>(((((hZ.set_ 0 (.int .i64 kind)).set_ 1 (.int .i64 n3)).set_ 2 (.slice A3 s3.length c3)).alloc o:Blk _ _ (Ro kind n3 A3 s3.length c3))).three
 refine bodyPost_ret (v:=.tuple #[.agg (Ro kind n3 A3 s3.length c3),.int .i64 0]) (by simp [results,results114,go_sem,y]) rfl ⟨A3,c3,rfl,hl3,?_,?_⟩
 ·exact (bT hZ h4'.out r3 _ _ _).alloc _
 ·exact (bV g1).alloc (by simp [World.setCell];exact g1.size) _
theorem lH (k1 n1:Int)(s1:List Tm)(A1:Option Addr)(c1:Nat)(k2 n2:Int)(s2:List Tm)(A2:Option Addr)(c2:Nat)(w:World)(hs:vZ (.mk k1 n1 s1) (.mk k2 n2 s2)=true)(hr1:Rd w A1 0 s1)(hr2:Rd w A2 0 s2) :
  Calls prog 68 #[.agg (Ro k1 n1 A1 s1.length c1),.agg (Ro k2 n2 A2 s2.length c2)] w fun e w'=>e = .returned (.int .i64 0)∧Bw w w':=by
 rw [vZ,Bool.and_eq_true,Bool.and_eq_true,beq_iff_eq] at hs;obtain ⟨⟨hv1,hv2⟩,hc⟩:=hs;have hC:=aD (fun (w:World) (hr1:Rd w A1 0 s1) (hr2:Rd w A2 0 s2)=>by have:=xP k1 n1 s1 A1 c1 k2 n2 s2 A2 c2 200 w (by omega) hv1 hv2 hr1 hr2;rwa [hc] at this);clear hv1 hv2 hc;go_enter func68,ntmps68;go_wp2_with (go_at_call 13;refine (hC.out _ ((hr1.alloc _).alloc _) ((hr2.alloc _).alloc _)).mono ?_;rintro e w1 ⟨rfl,hb1⟩)
 go_ret
 exact ⟨rfl,bw2.trans (hb1.mono (by simp;omega))⟩
def Clo (fc:Nat)(ev:Array Value):Prop:=(∃b2 b3,fc=70∧ev=#[.pointer (some ⟨b2,0,none⟩),.pointer (some ⟨b3,0,none⟩)])∨∃b2,fc=66∧ev=#[.pointer (some ⟨b2,0,none⟩)]
def TyOk (fc:Nat)(ev:Array Value)(w:World)(ty:Nat→Option Tm):Prop:=Clo fc ev∧∀(i:Nat) (k n:Int) (ks:List Tm),i<4→ty i=some (.mk k n ks)→∀w',Bw w w'→∀args,args=#[.int .i64 i]++ev→
 Calls prog fc args w' (eO w' k n ks)
theorem TyOk.below {fc:Nat}{ev:Array Value}{w w':World}{ty:Nat→Option Tm}(h:TyOk fc ev w ty)(hb:Bw w w'):TyOk fc ev w' ty:=⟨h.1,fun i k n ks hi ht w2 hw2=>h.2 i k n ks hi ht w2 (hb.trans (hw2.mono hb.size))⟩
theorem kA (C:Option Addr)(m cc:Nat)(k n:Int)(A:Option Addr)(la c fc:Nat)(ev:Array Value)(i:Nat)(hi:i<4)(kind n3:Int)(s3:List Tm)(ty:Nat→Option Tm)(w:World)(hs:qD (ty i) kind=some (.mk kind n3 s3))(hT:TyOk fc ev w ty) :
  Calls prog 96 #[.agg #[.slice C m cc,.int .i64 k,.int .i64 n,.slice A la c,.func (.func fc) #[] ev],.int .i64 i,.int .i64 kind] w (eO w kind n3 s3):=by
 rcases hT.1 with ⟨b2,b3,rfl,rfl⟩|⟨b2,rfl,rfl⟩
 all_goals
  obtain ⟨k1,n1,s1,h1,h2⟩:∃k1 n1 s1,ty i=some (.mk k1 n1 s1)∧oU (.mk k1 n1 s1) kind=some (.mk kind n3 s3):=by
   cases h:ty i with
   | none=>rw [h] at hs;cases hs
   | some s=>rw [h] at hs;obtain ⟨a,b,l⟩:=s;exact ⟨a,b,l,rfl,hs⟩
  have hv3:=aD (lN h2).2.2.2.2;have h1':=aD h1;have h2':=aD h2;clear hs h1 h2;go_enter func96,ntmps96;go_wp2_with (first
   | (go_at_call 114;have _t:=tok1;refine (kU k1 n1 s1 A1 c1 kind n3 s3 _ h2'.out (r1.alloc _)).mono ?_;rintro e w2 ⟨A3,c3,rfl,hl3,r3,hb2⟩;have hZ2:=(hZ.alloc (.cells (Ro k1 n1 A1 s1.length c1) 25)).keep hb2;have g2:=(g1.alloc g1.size (.cells (Ro k1 n1 A1 s1.length c1) 25)).trans (hb2.mono (by have:=g1.size;simp;omega));obtain ⟨d0,d1,d2,e0,e1,e2⟩:=cA hZ2)
   | ((first|go_at_call 70|go_at_call 66);refine (hT.2 i k1 n1 s1 hi h1'.out _ bw2 _ (by rfl)).mono ?_;rintro e w1 ⟨A1,c1,rfl,hl1,r1,hb1⟩;have hZ:=bA hb1;have g1:Bw w w1:=bW bw2 hb1;have lz:=hZ.lt;have tok1:=trivial))
  refine bodyPost_ret (v:=.tuple #[.agg (Ro kind n3 A3 s3.length c3),.int .i64 0]) (by simp [results,results96,go_sem,d0,d1,d2]) rfl ⟨A3,c3,rfl,hl3,?_,?_⟩
  ·exact bT hZ2 hv3.out r3 _ _ _
  ·exact bV g2
theorem gJ {o:Option Tm}{kind:Int}{t:Tm}(h:qD o kind=some t):∃n3 s3,t = .mk kind n3 s3∧aE (.mk kind n3 s3)=true:=by
 cases o with
 | none=>cases h
 | some s=>
  obtain ⟨h1,h2,h3,h4,h5⟩:=lN h;obtain ⟨a,b,l⟩:=t;obtain rfl:a=kind:=h4;exact ⟨b,l,rfl,h5⟩
theorem zM {o:Option Tm}{l:Int}(h:jX o=some l):∃s3,qD o 2=some (.mk 2 l s3):=by
 cases o with
 | none=>cases h
 | some s=>
  rw [jX] at h;cases hh:oU s 2 with
  | none=>rw [hh] at h;cases h
  | some t=>
   rw [hh] at h;obtain ⟨n3,s3,rfl,_⟩:=gJ (o:=some s) hh;injection h with h;obtain rfl:n3=l:=h;exact ⟨s3,hh⟩
theorem iV (C:Option Addr)(m cc:Nat)(k n:Int)(A:Option Addr)(la c fc:Nat)(ev:Array Value)(i:Nat)(hi:i<4)(l:Int)(ty:Nat→Option Tm)(w:World)(hs:jX (ty i)=some l)(hT:TyOk fc ev w ty) :
  Calls prog 120 #[.agg #[.slice C m cc,.int .i64 k,.int .i64 n,.slice A la c,.func (.func fc) #[] ev],.int .i64 i] w fun e w'=>e = .returned (.tuple #[.int .i64 l,.int .i64 0])∧Bw w w':=by
 obtain ⟨s3,h1⟩:=zM hs;have h1':=aD h1;clear hs h1;go_enter func120,ntmps120;go_wp2_with (go_at_call 96;refine (kA C m cc k n A la c fc ev i hi 2 l s3 ty _ h1'.out (hT.below bw1)).mono ?_;rintro e w1 ⟨A3,c3,rfl,hl3,r3,hb1⟩;have g1:Bw w w1:=bW bw1 hb1)
 go_ret2
 exact ⟨rfl,g1.alloc g1.size _⟩
theorem aLy {o:Option Tm}{want:Tm}(h:fW o want=true):∃k1 n1 s1,o=some (.mk k1 n1 s1)∧vZ (.mk k1 n1 s1) want=true:=by
 cases o with
 | none=>cases h
 | some s=>obtain ⟨a,b,l⟩:=s;exact ⟨a,b,l,rfl,h⟩
theorem kQ (C:Option Addr)(m cc:Nat)(k n:Int)(A:Option Addr)(la c fc:Nat)(ev:Array Value)(i:Nat)(hi:i<4)(k2 n2:Int)(s2:List Tm)(A2:Option Addr)(c2:Nat)(ty:Nat→Option Tm)(w:World)(hs:fW (ty i) (.mk k2 n2 s2)=true)(hT:TyOk fc ev w ty)(hr2:Rd w A2 0 s2) :
  Calls prog 93 #[.agg #[.slice C m cc,.int .i64 k,.int .i64 n,.slice A la c,.func (.func fc) #[] ev],.int .i64 i,.agg (Ro k2 n2 A2 s2.length c2)] w fun e w'=>e = .returned (.int .i64 0)∧Bw w w':=by
 rcases hT.1 with ⟨b2,b3,rfl,rfl⟩|⟨b2,rfl,rfl⟩
 all_goals
  obtain ⟨k1,n1,s1,h1,h2⟩:=aLy hs;have h1':=aD h1;have h2':=aD h2;clear hs h1 h2;go_enter func93,ntmps93;go_wp2_with (first
   | (go_at_call 68;have _t:=tok1;refine (lH k1 n1 s1 A1 c1 k2 n2 s2 A2 c2 _ h2'.out (r1.alloc _) ((hr2.below g1).alloc _)).mono ?_;rintro e w2 ⟨rfl,hb2⟩;have g2:=(g1.alloc g1.size (.cells (Ro k1 n1 A1 s1.length c1) 25)).trans (hb2.mono (by have:=g1.size;simp;omega)))
   | ((first|go_at_call 70|go_at_call 66);refine (hT.2 i k1 n1 s1 hi h1'.out _ bw2 _ (by rfl)).mono ?_;rintro e w1 ⟨A1,c1,rfl,hl1,r1,hb1⟩;have hZ:=bA hb1;have g1:Bw w w1:=bW bw2 hb1;have lz:=hZ.lt;obtain ⟨d0,d1,d2⟩:=hZ.three;have tok1:=trivial))
  go_ret
  exact ⟨rfl,g2⟩
theorem lQ (C:Option Addr)(m cc:Nat)(k n:Int)(A:Option Addr)(la c fc:Nat)(ev:Array Value)(i:Nat)(hi:i<4)(k2 n2:Int)(s2:List Tm)(A2:Option Addr)(c2:Nat)(ty:Nat→Option Tm)(w:World)(hs:fW (ty i) (.mk k2 n2 s2)=true)(hT:TyOk fc ev w ty)(hr2:Rd w A2 0 s2) :
  Calls prog 97 #[.agg #[.slice C m cc,.int .i64 k,.int .i64 n,.slice A la c,.func (.func fc) #[] ev],.int .i64 i,.agg (Ro k2 n2 A2 s2.length c2),.int .i64 0] w fun e w'=>e = .returned (.int .i64 0)∧Bw w w':=by
 have hs':=aD hs;clear hs;go_enter func97,ntmps97;go_wp2_with (go_at_call 93;refine (kQ C m cc k n A la c fc ev i hi k2 n2 s2 A2 c2 ty _ hs'.out (hT.below bw2) ((hr2.alloc _).alloc _)).mono ?_;rintro e w1 ⟨rfl,hb1⟩;have g1:Bw w w1:=bW bw2 hb1)
 go_ret
 exact ⟨rfl,g1⟩
theorem aLz {o:Option Tm}{t:Tm}(h:pL o t=true):∃n3 ka na sa kb nb sb ne se,qD o 3=some (.mk 3 n3 [.mk ka na sa,.mk kb nb sb])∧vZ (.mk ka na sa) t=true∧oU (.mk kb nb sb) 2=some (.mk 2 ne se):=by
 unfold pL at h
 split at h
 ·rename_i s hs
  obtain ⟨n3,s3,rfl,hv⟩:=gJ hs;obtain ⟨a,b,rfl⟩:=qK (l:=s3) (by have:=(bC hv).1;have h3:aW 3=2:=rfl;omega);obtain ⟨ka,na,sa⟩:=a;obtain ⟨kb,nb,sb⟩:=b;rw [Bool.and_eq_true] at h;obtain ⟨t2,ht2⟩:=Option.isSome_iff_exists.1 h.2;obtain ⟨ne,se,rfl,_⟩:=gJ (o:=some (.mk kb nb sb)) ht2;exact ⟨n3,ka,na,sa,kb,nb,sb,ne,se,hs,h.1,ht2⟩
 ·cases h
theorem tB (C:Option Addr)(m cc:Nat)(k n:Int)(A:Option Addr)(la c fc:Nat)(ev:Array Value)(i:Nat)(hi:i<4)(k2 n2:Int)(s2:List Tm)(A2:Option Addr)(c2:Nat)(ty:Nat→Option Tm)(w:World)(hs:pL (ty i) (.mk k2 n2 s2)=true)(hT:TyOk fc ev w ty)(hr2:Rd w A2 0 s2) :
  Calls prog 122 #[.agg #[.slice C m cc,.int .i64 k,.int .i64 n,.slice A la c,.func (.func fc) #[] ev],.int .i64 i,.agg (Ro k2 n2 A2 s2.length c2)] w fun e w'=>e = .returned (.int .i64 0)∧Bw w w':=by
 obtain ⟨n3,ka,na,sa,kb,nb,sb,ne,se,h1,h2,h3⟩:=aLz hs;have h1':=aD h1;have h2':=aD h2;have h3':=aD h3;clear hs h1 h2 h3;go_enter func122,ntmps122;go_upto_region 4 with (go_at_call 96;refine (kA C m cc k n A la c fc ev i hi 3 n3 [.mk ka na sa,.mk kb nb sb] ty _ h1'.out (hT.below bw2)).mono ?_;rintro e w1 ⟨A3,c3,rfl,hl3,r3,hb1⟩;have hY:=bA hb1;have g1:Bw w w1:=bW bw2 hb1;have r2:=hr2.below g1)
 refine aJt (show Blk _ w1.heap.size (Ro 3 n3 A3 2 c3) from (aC _ 25 _ rfl)) (hY.alloc _) (g1.alloc g1.size _) ?_;intro wx hT7x hYx gx hwx;have r3x:Rd wx A3 0 [.mk ka na sa,.mk kb nb sb]:=by rw [hwx];exact r3.alloc _
 have r2x:Rd wx A2 0 s2:=by rw [hwx];exact r2.alloc _
 clear hwx;obtain ⟨ba,oa,Aa,ca,rfl,i1,i2,i3,hla,ra⟩:=oF r3x;obtain ⟨Ab,cb,j1,j2,j3,hlb,rb⟩:=tX r3x;simp only [Nat.zero_mul,Nat.add_zero,Nat.one_mul,Nat.reduceMul] at i1 i2 i3 j1 j2 j3
 obtain ⟨u0,u1,u2⟩:=kZ hT7x;obtain ⟨v0,v1,v2⟩:=kZ hYx;obtain ⟨y0,y1,y2⟩:=pW i1 i2 i3;refine fE wx [6] [0,1,2,3,4] 7 2 (lT:=[_,_,_,_,_]) ?_;intro q0 bq0;refine cL (aD ?_);refine bG 5 ?_
 ·go_wp2_with (go_at_call 68;refine (lH ka na sa Aa ca k2 n2 s2 A2 c2 _ h2'.out (ra.below bq0) (r2x.below bq0)).mono ?_;rintro e q1 ⟨rfl,hbq1⟩)
  refine bJ bq0 hbq1 ?_;intro bq1 lq1;refine cY [6] (lB:=[_]) ?_;have hT7:=hT7x.keep bq1;have gz:=gx.trans (bq1.mono gx.size);have rbz:=rb.below bq1;obtain ⟨p0,p1,p2⟩:=hT7.three;have lp:=hT7.lt;have z0:=(bR bq1) _ _ j1;have z1:=(bR bq1) _ _ j2;have z2:=(bR bq1) _ _ j3;go_wp2_with (go_at_call 114;refine (kU kb nb sb Ab cb 2 ne se _ h3'.out rbz).mono ?_;rintro e w9 ⟨A9,c9,rfl,hl9,r9,hb9⟩)
  go_ret
  exact ⟨rfl,gz.trans (hb9.mono gz.size)⟩
def aUq (w:World)(k n:Int)(ks:List Tm)(e:Ending)(w':World):Prop:=
 ∃A c,e = .returned (.agg (Ro k n A ks.length c))∧ks.length≤9223372036854775807∧Rd w' A 0 ks∧Bw w w'
theorem tD (k1 n1:Int)(ka na:Int)(sa:List Tm)(ts:List Tm)(A1:Option Addr)(c1:Nat)(w:World)(hr:Rd w A1 0 (.mk ka na sa::ts))(hl:(Tm.mk ka na sa::ts).length≤9223372036854775807) :
  Calls prog 98 #[.agg (Ro k1 n1 A1 (ts.length+1) c1)] w (aUq w ka na sa):=by
 obtain ⟨ba,oa,Aa,ca,rfl,i1,i2,i3,hla,ra⟩:=oF hr;simp only [Nat.zero_mul,Nat.add_zero] at i1 i2 i3
 have hb:=jN _ _ i1;have q:(((ts.length:Nat):Int)+1==0)=false:=by simp;omega
 have q2:(0:Int)<((ts.length:Nat):Int)+1:=by omega
 go_enter func98,ntmps98;go_wp2_with fail
 refine bodyPost_ret (v:=.agg (Ro ka na Aa sa.length ca)) (by simp [results,results98,go_sem]) rfl ⟨Aa,ca,rfl,hla,(ra.alloc _).alloc _,?_⟩;exact bw2
theorem vI (C:Option Addr)(m cc:Nat)(k n:Int)(A:Option Addr)(c fc:Nat)(ev:Array Value)(la:Nat)(i j:Int)(ty:Nat→Option Tm)(w:World)(h1:jX (ty 0)=some i)(h2:jX (ty 1)=some j)(hT:TyOk fc ev w ty) :
  Calls prog 94 #[.agg #[.slice C m cc,.int .i64 k,.int .i64 n,.slice A la c,.func (.func fc) #[] ev]] w (eO w 2 (if i<j then j else i) []):=by
 obtain ⟨q,hq⟩:∃q,q=(if i<j then j else i):=⟨_,rfl⟩;have hmax:∀w',(Builtin.max_ #[3,3] 3 #[.int .i64 i,.int .i64 j]).run prog w' = .ok (.int .i64 q) w':=fun w'=>by rw [hq];first|(simp [go_sem];done)|(simp [go_sem];split<;>omega)
 rw [← hq];replace h1:=aD h1;replace h2:=aD h2;clear hq;go_enter func94,ntmps94;go_wp2_with (first
  | (go_at_call 91;have _t:=tok2;refine (oK _ _).mono ?_;rintro e w3 ⟨rfl,hb3⟩;have hZ3:=hZ2.keep hb3;have g3:=g2.trans (hb3.mono g2.size);obtain ⟨d0,d1,d2,e0,e1,e2⟩:=cA hZ3)
  | (go_at_call 120;have _t:=tok1;refine (iV C m cc k n A la c fc ev 1 (by omega) j ty _ h2.out (hT.below g1)).mono ?_;rintro e w2 ⟨rfl,hb2⟩;have hZ2:=hZ1.keep hb2;have g2:=g1.trans (hb2.mono g1.size);have tok2:=trivial)
  | (go_at_call 120;refine (iV C m cc k n A la c fc ev 0 (by omega) i ty _ h1.out (hT.below bw2)).mono ?_;rintro e w1 ⟨rfl,hb1⟩;have hZ1:=bA hb1;have hJ1:=((aC w 90 #[.slice C m cc,.int .i64 k,.int .i64 n,.slice A la c,.func (.func fc) #[] ev] rfl).alloc (.cells Zr 25)).keep hb1;have g1:Bw w w1:=bW bw2 hb1;have j0:=hJ1.at_ (i:=0) rfl;have j1:=hJ1.at_ (i:=1) rfl;have j2:=hJ1.at_ (i:=2) rfl;have j3:=hJ1.at_ (i:=3) rfl;have j4:=hJ1.at_ (i:=4) rfl;have tok1:=trivial))
 refine bodyPost_ret (v:=.tuple #[.agg (Ro 2 q none 0 0),.int .i64 0]) (by simp [results,results94,go_sem,d0,d1,d2]) rfl ⟨none,0,rfl,by simp,Rd.nil,?_⟩;exact bV g3
theorem vY (C:Option Addr)(m cc:Nat)(k n:Int)(A:Option Addr)(c fc:Nat)(ev:Array Value)(l ka na:Int)(sa:List Tm)(a1:Tm)(kb nb:Int)(sb:List Tm)(kr nr:Int)(sr:List Tm)(ty:Nat→Option Tm)(w:World)(h1:jX (ty 0)=some l)(h2:ty 1=some (.mk kb nb sb))(hv:aE (.mk 3 0 [.mk ka na sa,.mk kb nb sb])=true)(hT:TyOk fc ev w ty)(hr:Rd w A 0 [.mk ka na sa,a1])
  (hRec : Hid (∀ (Ao : Option Addr) (co : Nat) (w' : World), Bw w w' → Rd w' Ao 0 [.mk ka na sa, .mk kb nb sb] → Calls prog 40 #[.slice C m cc, .agg (Ro 3 0 Ao 2 co)] w' (eO w' kr nr sr))) :
  Calls prog 95 #[.agg #[.slice C m cc,.int .i64 k,.int .i64 n,.slice A 2 c,.func (.func fc) #[] ev]] w (eO w 3 0 [.mk ka na sa,.mk kb nb sb]):=by
 rcases hT.1 with ⟨b2,b3,rfl,rfl⟩|⟨b2,rfl,rfl⟩
 all_goals
  have hv':=aD hv;replace h1:=aD h1;replace h2:=aD h2;clear hv;obtain ⟨ba,oa,Aa,ca,rfl,i1,i2,i3,hla,ra0⟩:=oF hr;simp only [Nat.zero_mul,Nat.add_zero,Nat.one_mul,Nat.reduceMul] at i1 i2 i3
  go_enter func95,ntmps95;go_upto_region 7 with (first
   | (go_at_call 70;have _t:=tok1;refine (hT.2 1 kb nb sb (by omega) h2.out _ g1 _ (by rfl)).mono ?_;rintro e w2 ⟨Ab,cb,rfl,hlb,rb1,hb2⟩;have hZ2:=hZ1.keep hb2;have hJ2:=hJ1.keep hb2;have g2:=g1.trans (hb2.mono g1.size))
   | (go_at_call 66;have _t:=tok1;refine (hT.2 1 kb nb sb (by omega) h2.out _ g1 _ (by rfl)).mono ?_;rintro e w2 ⟨Ab,cb,rfl,hlb,rb1,hb2⟩;have hZ2:=hZ1.keep hb2;have hJ2:=hJ1.keep hb2;have g2:=g1.trans (hb2.mono g1.size))
   | (go_at_call 120;refine (iV C m cc k n _ 2 c 70 #[.pointer (some ⟨b2,0,none⟩),.pointer (some ⟨b3,0,none⟩)] 0 (by omega) l ty _ h1.out (hT.below bw2)).mono ?_;rintro e w1 ⟨rfl,hb1⟩;have hZ1:=bA hb1;have hJ1:=((aC w 90 #[.slice C m cc,.int .i64 k,.int .i64 n,.slice (some ⟨ba,oa,none⟩) 2 c,.func (.func 70) #[] #[.pointer (some ⟨b2,0,none⟩),.pointer (some ⟨b3,0,none⟩)]] rfl).alloc (.cells Zr 25)).keep hb1;have g1:Bw w w1:=bW bw2 hb1;have j0:=hJ1.at_ (i:=0) rfl;have j1:=hJ1.at_ (i:=1) rfl;have j2:=hJ1.at_ (i:=2) rfl;have j3:=hJ1.at_ (i:=3) rfl;have j4:=hJ1.at_ (i:=4) rfl;have tok1:=trivial)
   | (go_at_call 120;refine (iV C m cc k n _ 2 c 66 #[.pointer (some ⟨b2,0,none⟩)] 0 (by omega) l ty _ h1.out (hT.below bw2)).mono ?_;rintro e w1 ⟨rfl,hb1⟩;have hZ1:=bA hb1;have hJ1:=((aC w 90 #[.slice C m cc,.int .i64 k,.int .i64 n,.slice (some ⟨ba,oa,none⟩) 2 c,.func (.func 66) #[] #[.pointer (some ⟨b2,0,none⟩)]] rfl).alloc (.cells Zr 25)).keep hb1;have g1:Bw w w1:=bW bw2 hb1;have j0:=hJ1.at_ (i:=0) rfl;have j1:=hJ1.at_ (i:=1) rfl;have j2:=hJ1.at_ (i:=2) rfl;have j3:=hJ1.at_ (i:=3) rfl;have j4:=hJ1.at_ (i:=4) rfl;have tok1:=trivial))
  refine aT ?_;intro wx hwx;have hT6:Blk wx w2.heap.size (Ro kb nb Ab sb.length cb):=by rw [hwx];exact aC _ 25 _ rfl
  have hZx:=(show Blk wx (w.heap.size+1) _ by rw [hwx];exact hZ2.alloc _);have hJx:=(show Blk wx w.heap.size _ by rw [hwx];exact hJ2.alloc _);have gx:Bw w wx:=by rw [hwx];exact g2.alloc g2.size _
  have rb:Rd wx Ab 0 sb:=by rw [hwx];exact rb1.alloc _
  clear hwx;have ra:=ra0.below gx;have u3:=aF (hJx.at_ (i:=3) rfl);obtain ⟨v0,v1,v2⟩:=kZ hT6;have y0:=aF ((bR gx) _ _ i1);have y1:=aF ((bR gx) _ _ i2);have y2:=aF ((bR gx) _ _ i3);go_cut [7,8] (fun vc vp wy=>∃(gz:Nat) (Az:Option Addr) (cz:Nat),vp = .pointer (some ⟨gz,0,none⟩)∧vc = .int .i64 0∧Blk wy gz (Ro 3 0 Az 2 cz)∧Rd wy Az 0 [.mk ka na sa,.mk kb nb sb]∧Bw wx wy∧wx.heap.size≤gz)
  case first=>
   refine fE wx [9,10,11,13,14] [0,1,2,3,4,5] 15 9 (lT:=[_,_,_,_,_,_]) ?_;intro q0 bq0;refine cL (aD ?_);refine oC 6 12 ?_ ?_
   ·go_wp2_with fail
    refine eQ ?_;intro q1 hbq1 zq1 seq1;have rq1:Rd q1 (some ⟨q0.heap.size,0,none⟩) 0 [.mk ka na sa,.mk kb nb sb]:=fF (s0:=sa) (s1:=sb) zq1 hla hlb ((ra.below bq0).below hbq1) ((rb.below bq0).below hbq1);refine bJ bq0 hbq1 ?_;intro bq1 lq1;refine oC 7 12 ?_ ?_
    ·go_wp2_with (go_at_call 92;refine (bL 3 _ ⟨_,_,_,rfl⟩ _).mono ?_;rintro e q2 ⟨rfl,hbq2⟩)
     have Pq2:=rq1.below hbq2;refine bJ bq1 hbq2 ?_;intro bq2 lq2;refine oC 8 12 ?_ ?_
     ·go_wp2_with (go_at_call 89;refine (cJ 3 0 [.mk ka na sa,.mk kb nb sb] _ 2 _ hv'.out Pq2).mono ?_;rintro e q3 ⟨rfl,hbq3⟩)
      have Pq3:=Pq2.below hbq3;refine bJ bq2 hbq3 ?_;intro bq3 lq3;refine jW [9,10,11] 3 (lT:=[_,_,_]) ?_;refine cL (aD ?_);refine bG 12 ?_
      ·go_wp2_with fail
       refine eQ ?_;intro q4 hbq4 zq4 seq4;have Pq4:=Pq3.below hbq4;refine bJ bq3 hbq4 ?_;intro bq4 lq4;refine cY [13,14] (lB:=[_,_]) ?_;obtain ⟨d0,d1,d2,e0,e1,e2⟩:=cA zq4;have szb:wx.heap.size≤q3.heap.size:=by first|exact bq0.size|exact bq3.size
       go_wp2_with fail
       go_meet
       exact ⟨q3.heap.size,some ⟨q0.heap.size,0,none⟩,2,rfl,rfl,((zq4.set_ 0 _).set_ 1 _).set_ 2 _,bT zq4 hv'.out Pq4 _ _ _,((bq4.setCell szb _).setCell szb _).setCell szb _,szb⟩
     ·go_wp2_with fail
      refine eQ ?_;intro q5 hbq5 zq5 seq5;have Pq5:=Pq2.below hbq5;refine bJ bq2 hbq5 ?_;intro bq5 lq5;refine bG 8 ?_
      ·go_wp2_with (go_at_call 89;refine (cJ 3 0 [.mk ka na sa,.mk kb nb sb] _ 2 _ hv'.out Pq5).mono ?_;rintro e q6 ⟨rfl,hbq6⟩)
       have Pq6:=Pq5.below hbq6;have Zq6:=zq5.keep hbq6;refine bJ bq5 hbq6 ?_;intro bq6 lq6;refine jW [9,10,11] 2 (lT:=[_,_,_]) ?_;refine cL (aD ?_);refine cY [13,14] (lB:=[_,_]) ?_;obtain ⟨d0,d1,d2,e0,e1,e2⟩:=cA Zq6;have szb:wx.heap.size≤q2.heap.size:=by first|exact bq0.size|exact bq2.size
       go_wp2_with fail
       go_meet
       exact ⟨q2.heap.size,some ⟨q0.heap.size,0,none⟩,2,rfl,rfl,((Zq6.set_ 0 _).set_ 1 _).set_ 2 _,bT Zq6 hv'.out Pq6 _ _ _,((bq6.setCell szb _).setCell szb _).setCell szb _,szb⟩
    ·go_wp2_with fail
     refine eQ ?_;intro q7 hbq7 zq7 seq7;have Pq7:=rq1.below hbq7;refine bJ bq1 hbq7 ?_;intro bq7 lq7;refine bG 7 ?_
     ·go_wp2_with (go_at_call 92;refine (bL 3 _ ⟨_,_,_,rfl⟩ _).mono ?_;rintro e q8 ⟨rfl,hbq8⟩)
      have Pq8:=Pq7.below hbq8;have Zq8:=zq7.keep hbq8;refine bJ bq7 hbq8 ?_;intro bq8 lq8;refine bG 8 ?_
      ·go_wp2_with (go_at_call 89;refine (cJ 3 0 [.mk ka na sa,.mk kb nb sb] _ 2 _ hv'.out Pq8).mono ?_;rintro e q9 ⟨rfl,hbq9⟩)
       have Pq9:=Pq8.below hbq9;have Zq9:=Zq8.keep hbq9;refine bJ bq8 hbq9 ?_;intro bq9 lq9;refine jW [9,10,11] 2 (lT:=[_,_,_]) ?_;refine cL (aD ?_);refine cY [13,14] (lB:=[_,_]) ?_;obtain ⟨d0,d1,d2,e0,e1,e2⟩:=cA Zq9;have szb:wx.heap.size≤q1.heap.size:=by first|exact bq0.size|exact bq1.size
       go_wp2_with fail
       go_meet
       exact ⟨q1.heap.size,some ⟨q0.heap.size,0,none⟩,2,rfl,rfl,((Zq9.set_ 0 _).set_ 1 _).set_ 2 _,bT Zq9 hv'.out Pq9 _ _ _,((bq9.setCell szb _).setCell szb _).setCell szb _,szb⟩
   ·go_wp2_with fail
    refine eQ ?_;intro q10 hbq10 zq10 seq10;refine bJ bq0 hbq10 ?_;intro bq10 lq10;refine bG 6 ?_
    ·go_wp2_with fail
     refine eQ ?_;intro q11 hbq11 zq11 seq11;have rq11:Rd q11 (some ⟨q10.heap.size,0,none⟩) 0 [.mk ka na sa,.mk kb nb sb]:=fF (s0:=sa) (s1:=sb) zq11 hla hlb ((ra.below bq10).below hbq11) ((rb.below bq10).below hbq11);have Zq11:=zq10.keep hbq11;refine bJ bq10 hbq11 ?_;intro bq11 lq11;refine bG 7 ?_
     ·go_wp2_with (go_at_call 92;refine (bL 3 _ ⟨_,_,_,rfl⟩ _).mono ?_;rintro e q12 ⟨rfl,hbq12⟩)
      have Zq12:=Zq11.keep hbq12;have Pq12:=rq11.below hbq12;refine bJ bq11 hbq12 ?_;intro bq12 lq12;refine bG 8 ?_
      ·go_wp2_with (go_at_call 89;refine (cJ 3 0 [.mk ka na sa,.mk kb nb sb] _ 2 _ hv'.out Pq12).mono ?_;rintro e q13 ⟨rfl,hbq13⟩)
       have Zq13:=Zq12.keep hbq13;have Pq13:=Pq12.below hbq13;refine bJ bq12 hbq13 ?_;intro bq13 lq13;refine jW [9,10,11] 2 (lT:=[_,_,_]) ?_;refine cL (aD ?_);refine cY [13,14] (lB:=[_,_]) ?_;obtain ⟨d0,d1,d2,e0,e1,e2⟩:=cA Zq13;have szb:wx.heap.size≤q0.heap.size:=by first|exact bq0.size|exact bq0.size
       go_wp2_with fail
       go_meet
       exact ⟨q0.heap.size,some ⟨q10.heap.size,0,none⟩,2,rfl,rfl,((Zq13.set_ 0 _).set_ 1 _).set_ 2 _,bT Zq13 hv'.out Pq13 _ _ _,((bq13.setCell szb _).setCell szb _).setCell szb _,szb⟩
  case rest=>
   obtain ⟨gz,Az,cz,rfl,rfl,hTz,rz,hxy,hgz⟩:=hcut;have gy:=gx.trans (hxy.mono gx.size);have hZy:=hZx.keep hxy;have hJy:=hJx.keep hxy;have j0:=hJy.at_ (i:=0) rfl;have j1:=hJy.at_ (i:=1) rfl;have j2:=hJy.at_ (i:=2) rfl;have j3:=hJy.at_ (i:=3) rfl;have j4:=hJy.at_ (i:=4) rfl;obtain ⟨p0,p1,p2⟩:=hTz.three;have lzz:=hTz.lt;go_wp2_with (go_at_call 40;refine (hRec.out Az cz _ gy rz).mono ?_;rintro e w9 ⟨A9,c9,rfl,hl9,r9,hb9⟩;have hZ9:=hZy.keep hb9;have g9:=gy.trans (hb9.mono gy.size);have rz9:=rz.below hb9;have hT9:=hTz.keep hb9;clear p0 p1 p2;obtain ⟨p0,p1,p2⟩:=hT9.three;obtain ⟨d0,d1,d2,e0,e1,e2,lz9⟩:=cZ hZ9;have lt9:=hT9.lt)
   have hyy:=fun (o:Obj)=>(((((hZ9.set_ 0 (.int .i64 3)).set_ 1 (.int .i64 0)).set_ 2 (.slice Az 2 cz)).alloc o:Blk _ _ (Ro 3 0 Az 2 cz))).three
   refine bodyPost_ret (v:=.tuple #[.agg (Ro 3 0 Az 2 cz),.int .i64 0]) (by simp [results,results95,go_sem,hyy]) rfl ⟨Az,cz,rfl,by simp,?_,?_⟩
   ·exact (bT hZ9 hv'.out rz9 _ _ _).alloc _
   ·exact (bV g9).alloc (by simp [World.setCell];exact g9.size) _
section
open Go.ChangeShapes Go.WideShapes Go.ChangeAt Go.RowKit
theorem aHc {H:Type}{enc:TypeId × Value→H}{W:World}{base:Nat}{spare:Nat→Bool}{held:Bool}{r:Reach}{b0:Nat}{v:Value}{d:DataW H}{p:List MemPlace}(hv:Value.okWide prog W r b0 22 v)(h:DataW.Trod enc prog W base spare held 22 v d p) :
  ∃(xs:List Int) (A:Option Addr) (c:Nat),v = .slice A xs.length c∧xs.length≤9223372036854775807∧xs.length≤c∧RdY W A xs:=by
 obtain ⟨a,len,cap,rfl⟩:=Go.WideShapes.okWide_slice Tryz.underlying22 hv;obtain ⟨fuel,hf⟩:=h;have hmax:maxLen≤9223372036854775807:=by decide
 rcases open_ints Tryz.underlying22 Tryz.underlying5 (by kernel_rfl) hf with ⟨hcs,_⟩|⟨a',len',cap',zs,hcs,_,hl,hm,hz,_,hcell,hwf⟩
 ·injection hcs with hcs;injection hcs with e1 e2 e3;subst e1 e2 e3;exact ⟨[],none,0,rfl,by simp,by simp,fun j hj=>absurd hj (Nat.not_lt_zero _)⟩
 ·injection hcs with hcs;injection hcs with e1 e2 e3;subst e1 e2 e3;have hzl:len≤zs.length:=by rw [hz];split<;>omega
  refine ⟨zs.take len,some a',cap,by rw [List.length_take,Nat.min_eq_left hzl],by rw [List.length_take];omega,by rw [List.length_take];omega,fun j hj=>?_⟩;rw [List.length_take,Nat.min_eq_left hzl] at hj;have h1:=hcell j (by omega);have h00:=hcell 0 (by omega);obtain ⟨b,off,spot⟩:=a';have hspot:spot=none:=by
   have:=World.cell?_spot h00;simpa [Addr.add] using this
  subst hspot;have e:(⟨b,off,none⟩:Addr).add j=⟨b,off+j,none⟩:=by unfold Addr.add;split<;>simp_all
  rw [e,List.getD_eq_getElem?_getD,iG (by omega),Option.getD_some] at h1;have hw:=hwf zs[j] (fG _);have hw':(decide ((0:Int)≤zs[j]) && decide (zs[j]≤255))=true:=hw;simp only [Bool.and_eq_true,decide_eq_true_eq] at hw'
  exact ⟨b,off,rfl,by rw [h1,List.getElem_take],by rw [List.getElem_take];exact hw'.1,by rw [List.getElem_take];exact hw'.2⟩
section
variable {H:Type}{enc:TypeId × Value→H}{P:Program}
theorem aCr {f:Func}{s:ChangeSpec}{apart fresh handsOn again:Bool}{W W':World}{args:Array Value}{v:Value}{ds gs:List (DataW H)}{before pa pv:List MemPlace}
  (hW : DataW.Whole enc P f.params.toList s.vars apart W args.toList ds gs before)
  (hres : ∀ (b : Nat) (sp : Nat → Bool) (hd : Bool), DataW.TrodAll enc P W' b sp hd f.resultTypes.toList (v.resultList f.resultTypes.size) (s.fn H (ds ++ gs)).results [])
  (hargs : ∀ sp : Nat → Bool, (∀ p ∈ before, sp p.block = true) → DataW.TrodAll enc P W' 0 sp true f.params.toList args.toList (s.fn H (ds ++ gs)).args pa)
  (hvars : ∀ sp : Nat → Bool, (∀ p ∈ before, sp p.block = true) → DataW.TrodVars enc P W' sp s.vars (s.fn H (ds ++ gs)).vars pv)
  (hps : before = pa ++ pv) (hb : Bw W W')
  (hok : ∀ (j : Nat) (t : TypeId) (r : Value), f.resultTypes[j]? = some t → (v.resultList f.resultTypes.size)[j]? = some r → Value.okWide P W' .any 0 t r) :
  s.post enc P f apart fresh handsOn again W args v W':=by
 have hlt:∀p∈before,p.block<W.heap.size:=fun p hp=>hW.lt p hp
 have hold:∀p∈before,(fun b=>decide (b<W.heap.size)) p.block=true:=fun p hp=>by simpa using hlt p hp
 refine ⟨ds,gs,before,[],pa,pv,hW,hres _ _ _,hargs _ hold,hvars _ hold,World.keptBut_mono (fun p hp=>⟨hp,?_⟩) (hb.frame (·∈before)),fun _=>?_⟩
 ·rw [hps,List.mem_append] at hp;exact Or.inr hp
 ·obtain ⟨_,_,_,_,_,hz,hn⟩:=hW;refine ⟨hok,_,_,([]++pa)++pv,⟨[]++pa,pv,trodAll_append (hargs _ (fun _ _=>rfl)) (hres _ _ _),hvars _ (fun _ _=>rfl),rfl,?_,?_⟩,?_⟩
  ·intro b off hp;have hin:MemPlace.cell b off∈before:=by rw [hps];simpa using hp
   rw [hb.frozen (hlt _ hin)];exact hz b off hin
  ·intro ha;have:=hn ha;rw [hps] at this;simpa using this
  ·intro p hp _;rw [hps];simpa using hp
end
end
end Go.Proofs.YtddkehjdjfmhmaaGreat
