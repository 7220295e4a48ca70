/- Parts of the proof. No condition. -/
import Derived.Test.YtddkehjdjfmhmaaGreatK9
import Derived.Test.YtddkehjdjfmhmaaGreatK10
open Go.Proofs.Tryz
namespace Go.Proofs.YtddkehjdjfmhmaaGreat
open Go.RowKit
set_option linter.unusedSimpArgs false
set_option linter.unusedVariables false
def Tab (w:World)(lo g:Nat)(G:List Tm):Prop:=
 g<lo∧∃cur f,w.heap[g]?=some (.cells cur 25 (0,0))∧cur.size=G.length*3∧OwX w G cur.toList f∧f.Nodup∧∀b,b∈f→lo≤b
variable {w w' w0:World}{lo g:Nat}{G:List Tm}
theorem Tab.only {fp:List Nat}(h:Tab w lo g G)(ho:OnlyIn fp w w')(hfp:∀b,b∈fp→b≠g∧b<lo):Tab w' lo g G:=by
 obtain ⟨h0,cur,f,h1,h2,h3,h4,h5⟩:=h;refine ⟨h0,cur,f,(ho.block g (Array.getElem?_eq_some_iff.1 h1).1 (fun hm=>(hfp g hm).1 rfl)).trans h1,h2,h3.frame fun b hb=>ho.block b (h3.lt b hb) fun hm=>?_,h4,h5⟩;have:=(hfp b hm).2;have:=h5 b hb;omega
theorem Tab.keep (h:Tab w lo g G)(hb:Bw w w'):Tab w' lo g G:=by
 obtain ⟨h0,cur,f,h1,h2,h3,h4,h5⟩:=h;exact ⟨h0,cur,f,(hb.block g (Array.getElem?_eq_some_iff.1 h1).1).trans h1,h2,h3.frame fun b hm=>hb.block b (h3.lt b hm),h4,h5⟩
theorem Tab.alloc (h:Tab w lo g G)(o:Obj):Tab (w.alloc o) lo g G:=h.keep (bw1)
theorem Tab.drew (h:Tab w lo g G):Tab w.drew lo g G:=h.keep (dV _ _).drew
theorem Tab.setCell (h:Tab w lo g G){p:Addr}(hp:p.block≠g)(hl:p.block<lo)(u:Value):Tab (w.setCell p u) lo g G:=by
 obtain ⟨h0,cur,f,h1,h2,h3,h4,h5⟩:=h;exact ⟨h0,cur,f,(lR w p u g (fun e=>hp e.symm)).trans h1,h2,h3.frame fun b hb=>lR w p u b (fun e=>by have:=h5 b hb;omega),h4,h5⟩
theorem Tab.lt (h:Tab w lo g G):g<w.heap.size:=by
 obtain ⟨h0,cur,f,h1,_⟩:=h;exact (Array.getElem?_eq_some_iff.1 h1).1
theorem Tab.frozen (h:Tab w lo g G)(j:Nat):w.frozen? ⟨g,j,none⟩=false:=by
 obtain ⟨h0,cur,f,h1,h2,_⟩:=h;simp [World.frozen?,h1]
theorem Tab.rd (h:Tab w lo g G):Rd w (some ⟨g,0,none⟩) 0 G:=by
 obtain ⟨h0,cur,f,h1,h2,h3,h4,h5⟩:=h;refine own_rd.2 _ _ _ h3 g 0 0 fun j u hu=>?_
 rw [show 0+0*3+j=j by omega,cell_of_row w g j cur 25 (0,0) h1];simpa using hu
theorem Tab.put (h:Tab w0 lo g G)(hb:Bw w0 w)(hlo:lo≤w0.heap.size){k m:Int}{ks:List Tm}{A:Option Addr}{c j:Nat}(hfr:Fresh w0.heap.size w A ks)(hl:ks.length≤9223372036854775807)(hj:j<G.length) :
  Tab (((w.setCell ⟨g,j*3,none⟩ (.int .i64 k)).setCell ⟨g,j*3+1,none⟩ (.int .i64 m)).setCell ⟨g,j*3+2,none⟩ (.slice A ks.length c)) lo g (G.set j (.mk k m ks)):=by
 obtain ⟨h0,cur,f,h1,h2,h3,h4,h5⟩:=h;obtain ⟨fp,k1,k2,k3⟩:=hfr;have hg0:=(Array.getElem?_eq_some_iff.1 h1).1;have hg:w.heap[g]?=some (.cells cur 25 (0,0)):=(hb.block g hg0).trans h1;have far:∀b,b≠g→(((w.setCell ⟨g,j*3,none⟩ (.int .i64 k)).setCell ⟨g,j*3+1,none⟩ (.int .i64 m)).setCell ⟨g,j*3+2,none⟩ (.slice A ks.length c)).heap[b]?=w.heap[b]?:=fun b hbg=>by
  rw [lR _ _ _ _ hbg,lR _ _ _ _ hbg,lR _ _ _ _ hbg]
 have hsp:G=G.take j++G[j]::G.drop (j+1):=by rw [← List.drop_eq_getElem_cons hj,List.take_append_drop]
 have hsp2:G.set j (.mk k m ks)=G.take j++Tm.mk k m ks::G.drop (j+1):=by rw [List.set_eq_take_append_cons_drop,if_pos hj]
 have h3':=h3;rw [hsp] at h3';obtain ⟨x0,x1,x2,f0,f1,f2,hx,hf,o0,o1,o2⟩:=OwX.split h3';have l0:x0.length=j*3:=by rw [o0.length,List.length_take,Nat.min_eq_left (Nat.le_of_lt hj)]
 have l1:=o1.length;obtain ⟨p,q,r,rfl⟩:∃p q r,x1=[p,q,r]:=by
  match x1,l1 with
  | [p,q,r],_=>exact ⟨p,q,r,rfl⟩
 subst hf;have lt0:∀b,b∈f0++(f1++f2)→b<w0.heap.size:=fun b hb=>h3.lt b hb
 have nd:=List.nodup_append.1 h4;have nd2:=List.nodup_append.1 nd.2.1;refine ⟨h0,((cur.setIfInBounds (j*3) (.int .i64 k)).setIfInBounds (j*3+1) (.int .i64 m)).setIfInBounds (j*3+2) (.slice A ks.length c),f0++(fp++f2),?_,by simpa using h2,?_,?_,?_⟩
 ·simp [World.setCell,Array.getElem?_modify,hg]
 ·have e:(((cur.setIfInBounds (j*3) (.int .i64 k)).setIfInBounds (j*3+1) (.int .i64 m)).setIfInBounds (j*3+2) (.slice A ks.length c)).toList=x0++([.int .i64 k,.int .i64 m,.slice A ks.length c]++x2):=by
   simp only [Array.toList_setIfInBounds,hx,← l0]
   simp [List.set_append]
  rw [e,hsp2];have keep:∀b,b∈f0++(f1++f2)→(((w.setCell ⟨g,j*3,none⟩ (.int .i64 k)).setCell ⟨g,j*3+1,none⟩ (.int .i64 m)).setCell ⟨g,j*3+2,none⟩ (.slice A ks.length c)).heap[b]?=w0.heap[b]?:=fun b hm=>by
   rw [far b (by have:=h5 b hm;omega)];exact hb.block b (lt0 b hm)
  exact aCh (o0.frame fun b hm=>keep b (by simp [hm])) (OwT.iff.2 ⟨A,c,rfl,hl,k1.frame fun b hm=>far b (by have:=k3 b hm;omega)⟩) (o2.frame fun b hm=>keep b (by simp [hm]))
 ·refine List.nodup_append.2 ⟨nd.1,List.nodup_append.2 ⟨k2,nd2.2.1,fun x hx y hy e=>?_⟩,fun x hx y hy e=>?_⟩
  ·have:=k3 x hx;have:=lt0 y (by simp [hy]);omega
  ·rcases List.mem_append.1 hy with hy|hy
   ·have:=k3 y hy;have:=lt0 x (by simp [hx]);omega
   ·exact nd.2.2 x hx y (List.mem_append.2 (.inr hy)) e
 ·intro b hm;rcases List.mem_append.1 hm with hm|hm
  ·exact h5 b (by simp [hm])
  ·rcases List.mem_append.1 hm with hm|hm
   ·have:=k3 b hm;omega
   ·exact h5 b (by simp [hm])
theorem Tab.fresh (h:Tab w lo g G){B:Nat}(hB:B≤g):Fresh B w (some ⟨g,0,none⟩) G:=by
 obtain ⟨h0,cur,f,h1,h2,h3,h4,h5⟩:=h;by_cases hts:G=[]
 ·subst hts;exact Fresh.nil
 ·refine ⟨g::f,.inr ⟨g,cur,_,f,hts,rfl,h1,rfl,by rw [List.take_of_length_le (by simp [h2])];exact h3⟩,List.nodup_cons.2 ⟨fun hm=>by have:=h5 g hm;omega,h4⟩,fun b hb=>?_⟩;rcases List.mem_cons.1 hb with rfl|hb
  ·exact hB
  ·have:=h5 b hb;omega
def Tm.kids:Tm→List Tm | .mk _ _ ks=>ks
theorem aX {k n:Int}{ks:List Tm}(h:aE (.mk k n ks)=true){t:Tm}(ht:t∈ks):aE t=true:=by
 simp only [aE,Bool.and_eq_true,decide_eq_true_eq] at h⊢
 obtain ⟨q,hq,_,_,_,hk⟩:=cG h.1;refine ⟨qV (by omega) t (hk t ht),?_⟩;have:=bY ht;rw [Tm.size] at h;omega
theorem OnlyIn.of_below {fp:List Nat}{w w':World}(h:Bw w w'):OnlyIn fp w w':=⟨h.os,h.tape,h.output,h.size,fun b hb _=>h.block b hb⟩
theorem RdP.only {g sb:Nat}{w w':World}{A:Option Addr}{i:Nat}{ks:List Tm}(hr:RdP (fun b=>b≠g∧b≠sb) w A i ks)(ho:OnlyIn [g,sb] w w'):RdP (fun b=>b≠g∧b≠sb) w' A i ks:=
 hr.blocks fun b hb hl=>ho.block b hl (by simp [hb.1,hb.2])
end Go.Proofs.YtddkehjdjfmhmaaGreat
