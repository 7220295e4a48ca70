/- Parts of the proof. No condition. -/
import Derived.Test.YtddkehjdjfmhmaaGreatK1
import Derived.Laws.DeepStrings4
import Derived.Laws.Concat
import Derived.IntWalk
open Go.Proofs.Tryz
namespace Go.Proofs.YtddkehjdjfmhmaaGreat
open Go.RowKit
set_option maxHeartbeats 2000000
set_option maxRecDepth 100000
set_option linter.unusedSimpArgs false
set_option linter.unusedVariables false
theorem uC {B:Nat}{w0 w:World}{v:Value}{ts:List Tm}{t:Tm}{x1:List Value}{f1:List Nat}(hp:Part B w0 v ts)(hb:∀b,B≤b→b<w0.heap.size→w.heap[b]?=w0.heap[b]?)(hsz:w0.heap.size≤w.heap.size)(hB:B≤w0.heap.size)
  (ht : OwT w t x1 f1) (hn : f1.Nodup) (hf : ∀ b, b ∈ f1 → w0.heap.size ≤ b) (hlen : ts.length ≤ 1099511627776) (ad : Addr) (c : Nat) (hc : ∀ j u, x1[j]? = some u → w.cell? (ad.add j) = some u) (ty : TypeId) :
  ∃v' w',(Builtin.append_ #[23,23] ty #[v,.slice (some ad) 1 c]).run prog w = .ok v' w'∧Part B w' v' (ts++[t])∧Below B w w'∧w.grownBy w' v.ownBlock:=by
 obtain ⟨i,hi,hz,hz1,hz2⟩:=info_parts jT;obtain ⟨xs,f,h1,h2,h3,h4,h5⟩:=hp;have hlt:∀g,v.ownBlock=some g→g<w0.heap.size:=fun g hg=>(h1.lt g hg).2
 have hge:∀g,v.ownBlock=some g→B≤g:=fun g hg=>(h1.lt g hg).1
 have hfl:=h2.lt;have k1:w.ownsRow B 25 3 v ts.length xs:=by
  refine ⟨h1.1,?_⟩;rcases h1.2 with hn|⟨g,cap,cur,rfl,hb',hg,r⟩
  ·exact .inl hn
  ·exact .inr ⟨g,cap,cur,rfl,hb',(hb g hb' (hlt g rfl)).trans hg,r⟩
 have k2:OwX w ts xs f:=h2.frame fun b hbf=>hb b (h4 b hbf) (hfl b hbf)
 obtain ⟨v',w',hrun,hown,hg,_,hat⟩:=run_append_own_at (P:=prog) w B 23 ty 25 i _ 3 40 Tryz.underlying23 hi hz hz1 hz2 rfl (by omega) v ts.length xs k1 ad 1 c x1 ht.length hc ht.oneCell
  (by simp only [maxLen]; omega) (by omega) (by omega)
 have e1:∀b,b∈f→w'.heap[b]?=w.heap[b]?:=fun b hbf=>hg.block b (by have:=hfl b hbf;omega) (fun e=>h5 b e.symm hbf)
 have e2:∀b,b∈f1→w'.heap[b]?=w.heap[b]?:=fun b hbf=>hg.block b (ht.lt b hbf) (fun e=>by have:=hlt b e.symm;have:=hf b hbf;omega)
 refine ⟨v',w',hrun,⟨xs++x1,f++f1,by simpa using hown,(k2.frame e1).append (mF (ht.frame e2)),?_,?_,?_⟩,⟨hg.os,hg.tape,hg.output,hg.size,fun k hk=>hg.block k (by omega) (fun e=>by have:=hge k e.symm;omega)⟩,hg⟩
 ·refine List.nodup_append.2 ⟨h3,hn,fun x hx y hy e=>?_⟩;have:=hfl x hx;have:=hf y hy;omega
 ·intro b hbm;rcases List.mem_append.1 hbm with hbm|hbm
  ·exact h4 b hbm
  ·have:=hf b hbm;omega
 ·intro g hgo hgm;rcases hat with e|e<;>rw [e] at hgo
  ·rcases List.mem_append.1 hgm with hgm|hgm
   ·exact h5 g hgo hgm
   ·have:=hlt g hgo;have:=hf g hgm;omega
  ·injection hgo with hgo;subst hgo;rcases List.mem_append.1 hgm with hgm|hgm
   ·have:=hfl _ hgm;omega
   ·have:=ht.lt _ hgm;omega
section
variable {B:Nat}{w0 w1:World}{v:Value}{ts:List Tm}{k n:Int}{ks:List Tm}{A:Option Addr}{c:Nat}
theorem qF (hp:Part B w0 v ts)(hb:∀b,B≤b→b<w0.heap.size→w1.heap[b]?=w0.heap[b]?)(hs:w0.heap.size≤w1.heap.size)(hB:B≤w0.heap.size)(hfr:Fresh w0.heap.size w1 A ks)(hl:ks.length≤9223372036854775807)(hlen:ts.length≤1099511627776)(ty:TypeId) :
  ∃v' w',(Builtin.append_ #[23,23] ty #[v,.slice (some ⟨w1.heap.size,0,none⟩) 1 1]).run prog (w1.alloc (.cells (Ro k n A ks.length c) 25)) = .ok v' w'∧
   Part B w' v' (ts++[.mk k n ks])∧Below B w1 w'∧w1.grownBy w' v.ownBlock:=by
 obtain ⟨fp,h1,h2,h3⟩:=(hfr.alloc (.cells (Ro k n A ks.length c) 25));obtain ⟨v',w',r1,r2,r3,r4⟩:=uC (t:=.mk k n ks) (x1:=[.int .i64 k,.int .i64 n,.slice A ks.length c]) (f1:=fp) (c:=1) (ty:=ty) hp (fun b h1 h2=>(Below.heap_alloc w1 _ b (by omega)).trans (hb b h1 h2)) (by simp;omega) hB (OwT.iff.2 ⟨A,c,rfl,hl,h1⟩) h2 h3 hlen ⟨w1.heap.size,0,none⟩ (by
  intro j u hj;match j,hj with
  | 0,hj=>simp only [List.getElem?_cons_zero,Option.some.injEq] at hj;subst hj;simp [Addr.add]
  | 1,hj=>simp only [List.getElem?_cons_succ,List.getElem?_cons_zero,Option.some.injEq] at hj;subst hj;simp [Addr.add]
  | 2,hj=>simp only [List.getElem?_cons_succ,List.getElem?_cons_zero,Option.some.injEq] at hj;subst hj;simp [Addr.add])
 exact ⟨v',w',r1,r2,((dV _ _).alloc (by omega) _).trans r3,lF (kP (gG _ _) _) r4⟩
theorem nQ (hp:Part B w0 v ts)(hb:∀b,B≤b→b<w0.heap.size→w1.heap[b]?=w0.heap[b]?)(hs:w0.heap.size≤w1.heap.size)(hB:B≤w0.heap.size)(hfr:Fresh w0.heap.size w1 A ks)(hl:ks.length≤9223372036854775807){m:Nat}(hm:ts.length=m)(hlen:m≤1099511627776)
  {ops:Array Oper} {rest:List Oper} {o:Oper} {a:Act} {Q:Exit→Act→World→Prop} (hgd:o.guard=none) (s x:Operand)
  (ho : o.op = .call { callee := .builtin .append, args := #[s, x], argTypes := #[23, 23] }) (hse : a.eval s = v) (hx : a.eval x = .slice (some ⟨w1.heap.size, 0, none⟩) 1 1)
  (h : ∀ A' c' w', Part B w' (.slice A' (m + 1) c') (ts ++ [.mk k n ks]) → Below B w1 w' → w1.grownBy w' v.ownBlock → wpList prog ops Q rest (a.put o.dst (.slice A' (m + 1) c')) w') :
  wpList prog ops Q (o::rest) a (w1.alloc (.cells (Ro k n A ks.length c) 25)):=by
 subst hm;refine wpList_plain hgd fun K hK=>?_
 obtain ⟨v',w',hrun,h2,h3,h4⟩:=qF (k:=k) (n:=n) (c:=c) hp hb hs hB hfr hl hlen o.type;unfold Oper.wp execOp
 simp only [ho,resolve,invoke,builtin,Sem.run_bind,Sem.run_pure,Result.andThen_ok,List.map_toArray,List.map_cons,List.map_nil,hse,hx,hrun]
 obtain ⟨A',c',rfl⟩:=h2.shape;rw [List.length_append] at h2⊢;exact hK _ _ (h A' c' w' h2 h3 h4)
end
def binds (k:Int):Bool:=k==3 || k==4 || k==13
def aO (k:Int)(i:Int):Int:=if i=1∧binds k=true then 1 else 0
theorem eA (k i:Int):0≤aO k i∧aO k i≤1:=by unfold aO;split<;>omega
theorem qP (k:Int)(w:World):Calls prog 85 #[.int .i64 k] w fun e w'=>e = .returned (.bool (binds k))∧w=w':=by
 by_cases h3:k=3
 ·subst h3;go_enter func85,ntmps85;go_wp2_with fail;go_ret;exact ⟨rfl,rfl⟩
 by_cases h4:k=4
 ·subst h4;go_enter func85,ntmps85;go_wp2_with fail;go_ret;exact ⟨rfl,rfl⟩
 have e3:(k==3)=false:=by simpa using h3
 have e4:(k==4)=false:=by simpa using h4
 have hz:binds k=(k==13):=by simp [binds,e3,e4]
 rw [hz];go_enter func85,ntmps85;go_wp2_with fail
 go_ret
 exact ⟨eK (by simp),rfl⟩
theorem fH (k i:Int)(w:World):Calls prog 54 #[.int .i64 k,.int .i64 i] w fun e w'=>e = .returned (.int .i64 (aO k i))∧w=w':=by
 by_cases hi:i=1
 ·subst hi;cases hb:binds k with
  | false=>
   have hz:aO k 1=0:=by simp [aO,hb]
   rw [hz];go_enter func54,ntmps54;go_wp2_with (go_at_call 85;refine (qP _ _).mono ?_;rw [hb];rintro e w1 ⟨rfl,rfl⟩)
   go_ret
   exact ⟨rfl,rfl⟩
  | true=>
   have hz:aO k 1=1:=by simp [aO,hb]
   rw [hz];go_enter func54,ntmps54;go_wp2_with (go_at_call 85;refine (qP _ _).mono ?_;rw [hb];rintro e w1 ⟨rfl,rfl⟩)
   go_ret
   exact ⟨rfl,rfl⟩
 ·have e1:(i==1)=false:=by simpa using hi
  have hz:aO k i=0:=by simp [aO,hi]
  clear hi;rw [hz];go_enter func54,ntmps54;go_wp2_with fail
  go_ret
  exact ⟨rfl,rfl⟩
theorem iR (k i:Int)(w:World):Calls prog 80 #[.int .i64 k,.int .i64 i] w fun e w'=>e = .returned (.bool (i==1 && binds k))∧w=w':=by
 by_cases hi:i=1
 ·subst hi;by_cases h3:k=3
  ·subst h3;go_enter func80,ntmps80;go_wp2_with fail;go_ret;exact ⟨rfl,rfl⟩
  by_cases h4:k=4
  ·subst h4;go_enter func80,ntmps80;go_wp2_with fail;go_ret;exact ⟨rfl,rfl⟩
  have e3:(k==3)=false:=by simpa using h3
  have e4:(k==4)=false:=by simpa using h4
  have hz:((1:Int)==1 && binds k)=(k==13):=by simp [binds,e3,e4]
  rw [hz];go_enter func80,ntmps80;go_wp2_with fail
  go_ret
  exact ⟨eK (by simp),rfl⟩
 ·have e1:(i==1)=false:=by simpa using hi
  rw [e1,Bool.false_and];clear hi;go_enter func80,ntmps80;go_wp2_with fail
  go_ret
  exact ⟨rfl,rfl⟩
theorem pK (k i:Int)(w:World):Calls prog 158 #[.int .i64 k,.int .i64 i] w fun e w'=>e = .returned (.int .i64 (aO k i))∧w=w':=by
 cases hb:(i==1 && binds k) with
 | false=>
  have hz:aO k i=0:=by
   unfold aO;rw [if_neg];rintro ⟨h1,h2⟩;subst h1;simp [h2] at hb
  rw [hz];go_enter func158,ntmps158;go_wp2_with (go_at_call 80;refine (iR _ _ _).mono ?_;rw [hb];rintro e w1 ⟨rfl,rfl⟩)
  go_ret
  exact ⟨rfl,rfl⟩
 | true=>
  have hz:aO k i=1:=by
   unfold aO;rw [if_pos];simpa using hb
  rw [hz];go_enter func158,ntmps158;go_wp2_with (go_at_call 80;refine (iR _ _ _).mono ?_;rw [hb];rintro e w1 ⟨rfl,rfl⟩)
  go_ret
  exact ⟨rfl,rfl⟩
mutual
def jO:Tm→Tm→Bool
 | .mk k n ks,.mk k' n' ks'=>k==k' && n==n' && kX ks ks'
def kX:List Tm→List Tm→Bool
 | [],[]=>true
 | t::ts,u::us=>jO t u && kX ts us
 | _,_=>false
end
theorem tmEq_both:(∀t u,jO t u=true↔t=u)∧(∀ts us,kX ts us=true↔ts=us):=by
 refine bM (fun k n ks ih u=>?_) (fun us=>?_) (fun t ts h1 h2 us=>?_)
 ·obtain ⟨k',n',ks'⟩:=u;simp only [jO,Bool.and_eq_true,beq_iff_eq,ih,Tm.mk.injEq,and_assoc]
 ·cases us<;>simp [kX]
 ·cases us with
  | nil=>simp [kX]
  | cons u us=>simp only [kX,Bool.and_eq_true,h1,h2,List.cons.injEq]
theorem tmEq_iff {t u:Tm}:jO t u=true↔t=u:=tmEq_both.1 t u
theorem tmsEq_iff {ts us:List Tm}:kX ts us=true↔ts=us:=tmEq_both.2 ts us
theorem kC (t:Tm):jO t t=true:=tmEq_iff.2 rfl
theorem aCg (ts:List Tm):kX ts ts=true:=tmsEq_iff.2 rfl
theorem kW {ts us:List Tm}(h:ts≠us):kX ts us=false:=by
 cases e:kX ts us with
 | false=>rfl
 | true=>exact absurd (tmsEq_iff.1 e) h
def FreshN (f1:List Nat)(g:Nat)(w:World)(A:Option Addr)(ks:List Tm):Prop:=∃fp,Ow w A ks fp∧fp.Nodup∧∀b,b∈fp→b∈f1∨g≤b
theorem FreshN.setCell {f1:List Nat}{g:Nat}{w:World}{A:Option Addr}{ks:List Tm}(h:FreshN f1 g w A ks){a:Addr}(ha:a.block ∉ f1∧a.block<g)(u:Value):FreshN f1 g (w.setCell a u) A ks:=by
 obtain ⟨fp,h1,h2,h3⟩:=h;refine ⟨fp,h1.frame fun b hb=>lR w a u b (fun e=>?_),h2,h3⟩;rcases h3 b hb with h|h
 ·exact ha.1 (e▸h)
 ·omega
theorem FreshN.fresh {f1:List Nat}{g:Nat}{w:World}{A:Option Addr}{ks:List Tm}(h:FreshN f1 g w A ks){B:Nat}(hf:∀b,b∈f1→B≤b)(hg:B≤g):Fresh B w A ks:=by
 obtain ⟨fp,h1,h2,h3⟩:=h;exact ⟨fp,h1,h2,fun b hb=>(h3 b hb).elim (hf b) (fun h=>Nat.le_trans hg h)⟩
theorem tP {B:Nat}{w:World}{us:List Tm}{x1:List Value}{f1:List Nat}{g:Nat}(hg:w.heap[g]?=some (.cells #[] 25 (0,0)))(hgB:B≤g)(hgw:g<w.heap.size)(hB:B≤w.heap.size)
  (ht : OwX w us x1 f1) (hn : f1.Nodup) (hf : ∀ b, b ∈ f1 → B ≤ b ∧ b ≠ g) (hlen : us.length ≤ 1099511627776) (ad : Addr) (c : Nat) (hc : ∀ j u, x1[j]? = some u → w.cell? (ad.add j) = some u) (h1 : ∀ u, u ∈ x1 → u.oneCell' = true) (ty : TypeId) :
  ∃A c' w',(Builtin.append_ #[23,23] ty #[.slice (some ⟨g,0,none⟩) 0 0,.slice (some ad) us.length c]).run prog w = .ok (.slice A us.length c') w'∧FreshN f1 g w' A us∧w.grownBy w' (some g):=by
 obtain ⟨i,hi,hz,hz1,hz2⟩:=info_parts jT;have k1:w.ownsRow B 25 3 (.slice (some ⟨g,0,none⟩) 0 0) 0 []:=⟨by simp,.inr ⟨g,0,#[],rfl,hgB,hg,iD _,by simp [maxLen],by simp,by simp⟩⟩;obtain ⟨v',w',hrun,hown,hgr,_,hat⟩:=run_append_own_at (P:=prog) w B 23 ty 25 i _ 3 40 Tryz.underlying23 hi hz hz1 hz2 rfl (by omega) _ 0 [] k1 ad us.length c x1 ht.length hc h1
  (by simp only [maxLen]; omega) (by omega) (by omega)
 have hfl:=ht.lt;have e1:∀b,b∈f1→w'.heap[b]?=w.heap[b]?:=fun b hbf=>hgr.block b (hfl b hbf) (fun e=>by injection e with e;exact (hf b hbf).2 e)
 have hx':=ht.frame e1;rw [Nat.zero_add,List.nil_append] at hown;obtain ⟨h2,h3⟩:=hown;rcases h3 with ⟨rfl,h0⟩|⟨g',cap,cur,rfl,hb',hg',_,_,_,htk⟩
 ·have:us=[]:=lEn h0;subst this;exact ⟨none,0,w',hrun,⟨[],.inl ⟨rfl,rfl⟩,List.nodup_nil,by simp⟩,hgr⟩
 ·refine ⟨_,_,w',hrun,?_,hgr⟩;by_cases hts:us=[]
  ·subst hts;exact ⟨[],.inl ⟨rfl,rfl⟩,List.nodup_nil,by simp⟩
  ·refine ⟨g'::f1,.inr ⟨g',cur,_,f1,hts,rfl,hg',rfl,by rw [htk];exact hx'⟩,List.nodup_cons.2 ⟨fun hm=>?_,hn⟩,fun b hb=>?_⟩
   ·rcases hat with e|e
    ·injection e with e;exact (hf g' hm).2 e
    ·injection e with e;have e:g'=w.heap.size:=e;have:=hfl g' hm;omega
   ·rcases List.mem_cons.1 hb with rfl|hb
    ·right
     rcases hat with e|e
     ·injection e with e;exact Nat.le_of_eq e.symm
     ·injection e with e;have e:b=w.heap.size:=e;omega
    ·exact .inl hb
theorem pG {B:Nat}{w:World}{us:List Tm}{x1:List Value}{f1:List Nat}{g:Nat}(hg:w.heap[g]?=some (.cells #[] 25 (0,0)))(hgB:B≤g)(hgw:g<w.heap.size)(hB:B≤w.heap.size)
  (ht : OwX w us x1 f1) (hn : f1.Nodup) (hf : ∀ b, b ∈ f1 → B ≤ b ∧ b ≠ g) (hlen : us.length ≤ 1099511627776) (ad : Addr) (c : Nat) (hc : ∀ j u, x1[j]? = some u → w.cell? (ad.add j) = some u) (h1 : ∀ u, u ∈ x1 → u.oneCell' = true)
  {ops:Array Oper} {rest:List Oper} {o:Oper} {a:Act} {Q:Exit→Act→World→Prop} (hgd:o.guard=none) (s x:Operand)
  (ho : o.op = .call { callee := .builtin .append, args := #[s, x], argTypes := #[23, 23] }) (hse : a.eval s = .slice (some ⟨g, 0, none⟩) 0 0) (hx : a.eval x = .slice (some ad) us.length c)
  (h : ∀ A' c' w', FreshN f1 g w' A' us → w.grownBy w' (some g) → wpList prog ops Q rest (a.put o.dst (.slice A' us.length c')) w') :
  wpList prog ops Q (o::rest) a w:=by
 refine wpList_plain hgd fun K hK=>?_
 obtain ⟨A',c',w',hrun,h2,h3⟩:=tP hg hgB hgw hB ht hn hf hlen ad c hc h1 o.type;unfold Oper.wp execOp
 simp only [ho,resolve,invoke,builtin,Sem.run_bind,Sem.run_pure,Result.andThen_ok,List.map_toArray,List.map_cons,List.map_nil,hse,hx,hrun]
 exact hK _ _ (h A' c' w' h2 h3)
theorem OwX.oneCell {w:World}{ts:List Tm}:∀{xs:List Value} {fp:List Nat},OwX w ts xs fp→∀u,u∈xs→u.oneCell'=true:=by
 induction ts with
 | nil=>intro xs fp h u hu;rw [(OwX_d_nil_iff.1 h).1] at hu;cases hu
 | cons t ts ih=>
  intro xs fp h u hu;obtain ⟨x1,x2,f1,f2,rfl,rfl,h1,h2⟩:=OwX.cons_iff.1 h;rcases List.mem_append.1 hu with hu|hu
  ·exact h1.oneCell u hu
  ·exact ih h2 u hu
theorem xW (g j:Nat):Addr.add ⟨g,0,none⟩ j=⟨g,j,none⟩:=by unfold Addr.add;split<;>simp_all
def aUy (B:Nat)(w:World)(k n:Int)(ks:List Tm)(e:Ending)(w':World):Prop:=
 ∃A c,e = .returned (.agg (Ro k n A ks.length c))∧Fresh B w' A ks∧Bw w w'
theorem pS {B:Nat}{w:World}{us:List Tm}{x1:List Value}{f1:List Nat}(k:Int)(hB:B≤w.heap.size)
  (ht : OwX w us x1 f1) (hn : f1.Nodup) (hf : ∀ b, b ∈ f1 → B ≤ b) (hlen : us.length ≤ 1099511627776) (g c : Nat) (hb : Blk w g x1.toArray) :
  Calls prog 73 #[.int .i64 k,.slice (some ⟨g,0,none⟩) us.length c] w (aUy B w k 0 us):=by
 have hlt:=ht.lt;have hone:=ht.oneCell;have hgl:=hb.lt;go_enter func73,ntmps73;have H1:=aD (show ((w.alloc (.cells Zr 25)).alloc (.cells #[] 25)).heap[w.heap.size+1]?=some (.cells #[] 25 (0,0)) by simpa using heap_alloc_new (w.alloc (.cells Zr 25)) (.cells #[] 25));have H2:=aD (show OwX ((w.alloc (.cells Zr 25)).alloc (.cells #[] 25)) us x1 f1 from ht.frame fun b hb=>(Below.heap_alloc _ _ b (by have:=hlt b hb;simp;omega)).trans (Below.heap_alloc _ _ b (hlt b hb)));have H3:=aD (show ∀j u,x1[j]?=some u→((w.alloc (.cells Zr 25)).alloc (.cells #[] 25)).cell? (Addr.add ⟨g,0,none⟩ j)=some u from fun j u hj=>by
  have:=((hb.alloc (.cells Zr 25)).alloc (.cells #[] 25)).at_ (i:=j) (v:=u) (by simpa using hj);rw [xW];exact this)
 go_wp2_with (at_builtin;(refine pG (B:=B) (us:=us) (x1:=x1) (f1:=f1) (g:=w.heap.size+1) H1.out (by omega) (by simp) (by simp;omega) H2.out hn (fun b hb=>⟨hf b hb,by have:=hlt b hb;omega⟩) hlen ⟨g,0,none⟩ c H3.out hone rfl _ _ rfl rfl rfl ?_);intro A' c' w2 hfr hg2;have hT:Blk w2 w.heap.size Zr:=((aC w 25 Zr rfl).alloc _).grown hg2 (by simp);have d0:=hT.at_ (i:=0) rfl;have d1:=hT.at_ (i:=1) rfl;have d2:=hT.at_ (i:=2) rfl;obtain ⟨e0,e1,e2⟩:=kS hT;have hb2:Bw w w2:=bw2.trans ⟨hg2.os,hg2.tape,hg2.output,hg2.size,fun b hb=>hg2.block b (by simp;omega) (fun e=>by injection e with e;omega)⟩;have hBs:B≤w.heap.size:=hB)
 refine bodyPost_ret (v:=.agg (Ro k 0 A' us.length c')) (by simp [results,results73,go_sem,d0,d1,d2]) rfl ⟨A',c',rfl,?_,(bV hb2)⟩;have hn0:w.heap.size ∉ f1:=fun h=>absurd (hlt _ h) (Nat.lt_irrefl _)
 exact (((hfr.setCell ⟨hn0,by simp⟩ _).setCell ⟨hn0,by simp⟩ _).setCell ⟨hn0,by simp⟩ _).fresh hf (by omega)
def Has (s:ByteArray)(i:Nat)(bs:List UInt8):Prop:=∃rest,s.data.toList.drop i=bs++rest
theorem Has.le {s:ByteArray}{i:Nat}{bs:List UInt8}(h:Has s i bs)(hb:bs≠[]):i+bs.length≤s.size:=by
 obtain ⟨rest,h⟩:=h;have h1:=congrArg List.length h;have h2:0<bs.length:=List.length_pos_iff.2 hb;simp only [List.length_drop,List.length_append,Array.length_toList] at h1
 have h3:s.data.size=s.size:=rfl;omega
theorem Has.cons {s:ByteArray}{i:Nat}{c:UInt8}{bs:List UInt8}(h:Has s i (c::bs)):(∃hi:i<s.size,s[i]'hi=c)∧Has s (i+1) bs:=by
 have hl:=h.le (by simp);simp only [List.length_cons] at hl
 obtain ⟨rest,h⟩:=h;have hi:i<s.size:=by omega
 refine ⟨⟨hi,?_⟩,rest,?_⟩
 ·have h1:=congrArg (fun l=>l[0]?) h;simp only [List.getElem?_drop,Nat.add_zero,List.cons_append,List.getElem?_cons_zero] at h1
  have h2:s.data.toList[i]?=some (s[i]'hi):=by
   rw [iG (by simpa using hi)];rfl
  rw [h2] at h1;injection h1
 ·rw [← List.drop_drop,h];rfl
theorem Has.app {s:ByteArray}{i:Nat}{a b:List UInt8}(h:Has s i (a++b)):Has s i a∧Has s (i+a.length) b:=by
 obtain ⟨rest,h⟩:=h;refine ⟨⟨b++rest,by rw [h,List.append_assoc]⟩,rest,?_⟩;rw [← List.drop_drop,h,List.append_assoc,List.drop_left]
theorem Has.all (bs:List UInt8):Has ⟨bs.toArray⟩ 0 bs:=⟨[],by simp⟩
def Nd (s:ByteArray)(i:Nat):Prop:=∀hi:i<s.size,(s[i]'hi).toNat<48∨57<(s[i]'hi).toNat
theorem Nd.of {s:ByteArray}{i:Nat}{c:UInt8}{bs:List UInt8}(h:Has s i (c::bs))(hc:c.toNat<48∨57<c.toNat):Nd s i:=fun hi=>by
 obtain ⟨⟨_,e⟩,_⟩:=h.cons;rw [e];exact hc
theorem Nd.out {s:ByteArray}{i:Nat}(h:s.size≤i):Nd s i:=fun hi=>absurd hi (by omega)
def gY (c:UInt8):List (List UInt8)→List UInt8
 | []=>[]
 | [b]=>b++[c]
 | b::bs=>b++44::gY c bs
theorem aOo (c:UInt8)(b:List UInt8):gY c [b]=b++[c]:=by simp [gY]
theorem aBb (c:UInt8)(b d:List UInt8)(bs:List (List UInt8)):gY c (b::d::bs)=b++44::gY c (d::bs):=by simp [gY]
def aQx (k:Int)(c:UInt8):Prop:=(k=8∧c=43)∨(k=11∧c=33)∨(k=15∧c=94)∨(k=16∧c=95)
def aSh (k:Int)(c:UInt8):Prop:=(k=3∧c=62)∨(k=13∧c=42)∨(k=5∧c=32)
def aIh (k:Int)(m:Nat)(o:List UInt8)(c:UInt8):Prop:=(k=9∧m=4∧o=[60]∧c=62)∨(k=10∧m=3∧o=[123]∧c=125)∨(k=14∧m=3∧o=[124]∧c=124)∨(k=12∧m=3∧o=[64,60]∧c=62)
inductive Tx:Nat→Tm→List UInt8→Prop
 | var (d:Nat) (n:Int) (c:UInt8) (h:0≤n∧n≤9∧(c.toNat:Int)=48+n):Tx (d+1) (.mk 1 n []) [35,c]
 | sort (d:Nat) (n:Int) (c:UInt8) (h:0≤n∧n≤3∧(c.toNat:Int)=48+n):Tx (d+1) (.mk 2 n []) [42,c]
 | nat (d:Nat):Tx (d+1) (.mk 6 0 []) [78]
 | zero (d:Nat):Tx (d+1) (.mk 7 0 []) [48]
 | pre (d:Nat) (k:Int) (c:UInt8) (t:Tm) (b:List UInt8) (h:aQx k c) (ht:Tx d t b):Tx (d+1) (.mk k 0 [t]) (c::b)
 | rnd (d:Nat) (k:Int) (c:UInt8) (t u:Tm) (x y:List UInt8) (h:aSh k c) (ht:Tx d t x) (hu:Tx d u y):Tx (d+1) (.mk k 0 [t,u]) (40::(x++c::(y++[41])))
 | lam (d:Nat) (t u:Tm) (x y:List UInt8) (ht:Tx d t x) (hu:Tx d u y):Tx (d+1) (.mk 4 0 [t,u]) (91::(x++93::y))
 | blk (d:Nat) (k:Int) (m:Nat) (o:List UInt8) (c:UInt8) (ts:List Tm) (xs:List (List UInt8)) (h:aIh k m o c) (hm:ts.length=m) (hx:xs.length=m) (ht:∀(j:Nat) (t:Tm) (x:List UInt8),ts[j]?=some t→xs[j]?=some x→Tx d t x):Tx (d+1) (.mk k 0 ts) (o++gY c xs)
theorem tx3 {d:Nat}{k:Int}{o:List UInt8}{c:UInt8}{t u v:Tm}{x y z:List UInt8}(h:aIh k 3 o c)(ht:Tx d t x)(hu:Tx d u y)(hv:Tx d v z):Tx (d+1) (.mk k 0 [t,u,v]) (o++gY c [x,y,z]):=
 .blk d k 3 o c [t,u,v] [x,y,z] h rfl rfl fun j a b h1 h2=>by
  match j,h1,h2 with
  | 0,h1,h2=>cases h1;cases h2;exact ht
  | 1,h1,h2=>cases h1;cases h2;exact hu
  | 2,h1,h2=>cases h1;cases h2;exact hv
theorem tx4 {d:Nat}{k:Int}{o:List UInt8}{c:UInt8}{t u v a:Tm}{x y z b:List UInt8}(h:aIh k 4 o c)(ht:Tx d t x)(hu:Tx d u y)(hv:Tx d v z)(ha:Tx d a b):Tx (d+1) (.mk k 0 [t,u,v,a]) (o++gY c [x,y,z,b]):=
 .blk d k 4 o c [t,u,v,a] [x,y,z,b] h rfl rfl fun j t' x' h1 h2=>by
  match j,h1,h2 with
  | 0,h1,h2=>cases h1;cases h2;exact ht
  | 1,h1,h2=>cases h1;cases h2;exact hu
  | 2,h1,h2=>cases h1;cases h2;exact hv
  | 3,h1,h2=>cases h1;cases h2;exact ha
theorem Tx.ne {d:Nat}{t:Tm}{b:List UInt8}(h:Tx d t b):b≠[]:=by
 cases h<;>simp
 rename_i h _ _ _
 rcases h with ⟨_,_,rfl,_⟩|⟨_,_,rfl,_⟩|⟨_,_,rfl,_⟩|⟨_,_,rfl,_⟩<;>simp
theorem Tx.mono {d:Nat}{t:Tm}{b:List UInt8}(h:Tx d t b):∀{d':Nat},d≤d'→Tx d' t b:=by
 induction h with
 | var d n c h=>intro d' hd;obtain ⟨e,rfl⟩:∃e,d'=e+1:=⟨d' - 1,by omega⟩;exact .var e n c h
 | sort d n c h=>intro d' hd;obtain ⟨e,rfl⟩:∃e,d'=e+1:=⟨d' - 1,by omega⟩;exact .sort e n c h
 | nat d=>intro d' hd;obtain ⟨e,rfl⟩:∃e,d'=e+1:=⟨d' - 1,by omega⟩;exact .nat e
 | zero d=>intro d' hd;obtain ⟨e,rfl⟩:∃e,d'=e+1:=⟨d' - 1,by omega⟩;exact .zero e
 | pre d k c t b h ht ih=>intro d' hd;obtain ⟨e,rfl⟩:∃e,d'=e+1:=⟨d' - 1,by omega⟩;exact .pre e k c t b h (ih (by omega))
 | rnd d k c t u x y h ht hu i1 i2=>intro d' hd;obtain ⟨e,rfl⟩:∃e,d'=e+1:=⟨d' - 1,by omega⟩;exact .rnd e k c t u x y h (i1 (by omega)) (i2 (by omega))
 | lam d t u x y ht hu i1 i2=>intro d' hd;obtain ⟨e,rfl⟩:∃e,d'=e+1:=⟨d' - 1,by omega⟩;exact .lam e t u x y (i1 (by omega)) (i2 (by omega))
 | blk d k m o c ts xs h hm hx ht ih=>intro d' hd;obtain ⟨e,rfl⟩:∃e,d'=e+1:=⟨d' - 1,by omega⟩;exact .blk e k m o c ts xs h hm hx (fun j t x h1 h2=>ih j t x h1 h2 (by omega))
theorem aCz (s:ByteArray)(c:Nat)(w:World)(hs:s.size=1)(hc:∀h:0<s.size,(s[0]'h).toNat=c)(h1:48≤c)(h2:c≤57) :
  Calls prog 142 #[.string s] w fun e w'=>e = .returned (.tuple #[.int .i64 ((c:Int) - 48),.bool true])∧w=w':=by
 have h0:0<s.size:=by omega
 have e0:=hc h0;have q45:((c:Int)==45)=false:=beq_eq_false_iff_ne.2 (by omega);have hsl:(s.size:Int)≤1:=by omega
 have hsg:(1:Int)≤(s.size:Int):=by omega
 have enter:Hid True→Calls prog 142 #[.string s] w fun e w'=>e = .returned (.tuple #[.int .i64 ((c:Int) - 48),.bool true])∧w=w':=by
  intro _;by_cases h48:c=48
  ·have q48:((c:Int)==48)=true:=by rw [h48];rfl
   clear h48 hc;go_enter func142,ntmps142;go_wp2
   go_loop [5,6] (fun v i=>∃k:Nat,k≤1∧i = .int .i64 k∧v = .int .i64 (if k=0 then 0 else (c:Int) - 48)) (fun _ i=>1 - (intOf i).toNat)
   case atStart=>exact ⟨0,by omega,rfl,rfl⟩
   case round=>
    obtain ⟨k,hk,rfl,rfl⟩:=hrel;by_cases hk0:k=0
    ·subst hk0;have d1:decide ((c:Int)<48)=false:=decide_eq_false (by omega);have d2:decide ((57:Int)<(c:Int))=false:=decide_eq_false (by omega);have u8:IntKind.u8.wrap ((c:Int) - 48)=(c:Int) - 48:=IntWalk.u8_in _ (by omega);go_wp2
     go_round
     case rel=>exact ⟨1,by omega,rfl,by simp⟩
     case measure=>simp [intOf]
    ·obtain rfl:k=1:=by omega
     go_wp2
     go_ret2
     exact ⟨rfl,rfl⟩
  ·have q48:((c:Int)==48)=false:=beq_eq_false_iff_ne.2 (by omega);clear h48 hc;go_enter func142,ntmps142;go_wp2
   go_loop [5,6] (fun v i=>∃k:Nat,k≤1∧i = .int .i64 k∧v = .int .i64 (if k=0 then 0 else (c:Int) - 48)) (fun _ i=>1 - (intOf i).toNat)
   case atStart=>exact ⟨0,by omega,rfl,rfl⟩
   case round=>
    obtain ⟨k,hk,rfl,rfl⟩:=hrel;by_cases hk0:k=0
    ·subst hk0;have d1:decide ((c:Int)<48)=false:=decide_eq_false (by omega);have d2:decide ((57:Int)<(c:Int))=false:=decide_eq_false (by omega);have u8:IntKind.u8.wrap ((c:Int) - 48)=(c:Int) - 48:=IntWalk.u8_in _ (by omega);go_wp2
     go_round
     case rel=>exact ⟨1,by omega,rfl,by simp⟩
     case measure=>simp [intOf]
    ·obtain rfl:k=1:=by omega
     go_wp2
     go_ret2
     exact ⟨rfl,rfl⟩
 exact enter trivial
theorem aNy (s:ByteArray)(i:Nat)(hi:i<s.size):(s.extract i (i+1)).size=1∧∀h:0<(s.extract i (i+1)).size,(s.extract i (i+1))[0]'h=s[i]'hi:=by
 refine ⟨by rw [ByteArray.size_extract];omega,fun h=>?_⟩;rw [ByteArray.getElem_extract];simp
theorem rJ (s:ByteArray)(i c:Nat)(dg:Int)(w:World)(hd:dg=1∨dg=2)(hs:s.size≤1000000)(hi:i<s.size)(hc:(s[i]'hi).toNat=c)(h1:48≤c)(h2:c≤57)(hn:dg=2→Nd s (i+1)) :
  Calls prog 127 #[.string s,.int .i64 i,.int .i64 dg] w fun e w'=>e = .returned (.tuple #[.int .i64 ((c:Int) - 48),.int .i64 ((i+1:Nat):Int)])∧w=w':=by
 obtain ⟨x1,x2⟩:=aNy s i hi;have hnum:=aD (fun (w:World)=>aCz (s.extract i (i+1)) c w x1 (fun h=>by rw [x2 h,hc]) h1 h2);have d1:decide ((48:Int)≤(c:Int))=true:=decide_eq_true (by omega);have d2:decide ((c:Int)≤57)=true:=decide_eq_true (by omega);have hn':=aD hn;have hc':=aD hc;have hd':=aD hd;clear x1 x2 hn hd;have hdl:1≤dg∧dg≤2:=by rcases hd'.out with h|h<;>omega
 go_enter func127,ntmps127;go_wp2
 go_loop [8] (fun v=>∃k:Nat,k≤1∧v = .int .i64 (i+k:Nat)) (fun v=>i+1 - (intOf v).toNat)
 case atStart=>exact ⟨0,by omega,rfl⟩
 case round=>
  obtain ⟨k,hk,rfl⟩:=hrel;by_cases hk0:k=0
  ·subst hk0;go_wp2
   go_round
   case rel=>exact ⟨1,by omega,rfl⟩
   case measure=>simp [intOf]
  ·obtain rfl:k=1:=by omega
   clear hk hk0;by_cases hl:i+1<s.size
   ·rcases hd'.out with rfl|rfl
    ·go_wp2_with (go_at_call 142;refine (hnum.out _).mono ?_;rintro e w1 ⟨rfl,rfl⟩)
     go_ret2
     exact ⟨rfl,rfl⟩
    ·have hnd:=hn'.out rfl hl;obtain ⟨c2,hc2⟩:∃c2,(s[i+1]'hl).toNat=c2:=⟨_,rfl⟩;rw [hc2] at hnd;by_cases h5:c2<48
     ·have e1:decide ((48:Int)≤(c2:Int))=false:=decide_eq_false (by omega);go_wp2_with (go_at_call 142;refine (hnum.out _).mono ?_;rintro e w1 ⟨rfl,rfl⟩)
      go_ret2
      exact ⟨rfl,rfl⟩
     ·have e1:decide ((48:Int)≤(c2:Int))=true:=decide_eq_true (by omega);have e2:decide ((c2:Int)≤57)=false:=decide_eq_false (by omega);go_wp2_with (go_at_call 142;refine (hnum.out _).mono ?_;rintro e w1 ⟨rfl,rfl⟩)
      go_ret2
      exact ⟨rfl,rfl⟩
   ·go_wp2_with (go_at_call 142;refine (hnum.out _).mono ?_;rintro e w1 ⟨rfl,rfl⟩)
    go_ret2
    exact ⟨rfl,rfl⟩
end Go.Proofs.YtddkehjdjfmhmaaGreat
