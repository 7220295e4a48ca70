/- Parts of the proof. No condition. -/
import Derived.Test.YtddkehjdjfmhmaaGreatK25
open Go.Proofs.Tryz
namespace Go.Proofs.YtddkehjdjfmhmaaGreat
open Go.RowKit
set_option maxHeartbeats 4000000
set_option maxRecDepth 100000
set_option linter.unusedSimpArgs false
set_option linter.unusedVariables false
theorem RowI.capP {B:Nat}{w:World}{A:Option Addr}{n c:Nat}{xs:List Int}(h:RowI B w (.slice A n c) xs):xs.length≤c∧n=xs.length:=by
 rcases h.2 with ⟨e,h0⟩|⟨g,cap,cur,e,hb,hg,hn,_⟩
 ·injection e with e1 e2 e3;exact ⟨by omega,by omega⟩
 ·injection e with e1 e2 e3;exact ⟨by omega,e2⟩
theorem uP {B:Nat}{w:World}{v:Value}{ps:List (List Int)}{p:List Int}{A:Option Addr}{c:Nat}(ty:TypeId)(hp:RowP B w v ps)(hB:B≤w.heap.size)(hm:ps.length+1≤1099511627776)(hi:RdI w A p)(hcl:p.length≤c)
  (hne : ∀ a, A = some a → B ≤ a.block ∧ v.ownBlock ≠ some a.block ∧ a.block < w.heap.size) :
  ∃v' w',(Builtin.append_ #[53,53] ty #[v,.slice (some ⟨w.heap.size,0,none⟩) 1 1]).run prog (w.alloc (.cells #[.slice A p.length c] 26)) = .ok v' w'∧RowP B w' v' (ps++[p])∧Below B w w':=by
 obtain ⟨v',w',h1,h2,h3,_⟩:=iS (w:=w.alloc (.cells #[.slice A p.length c] 26)) (v:=v) (ps:=ps) (qs:=[p]) (ad:=⟨w.heap.size,0,none⟩) (c:=1) ty (hp.alloc _) (by simp;omega) (by simpa using hm) (by
  intro j hj;simp only [List.length_singleton] at hj
  obtain rfl:j=0:=by omega
  exact ⟨A,c,by simp [Addr.add],hi.alloc' _,hcl,fun a ha=>⟨(hne a ha).1,(hne a ha).2.1,by have:=(hne a ha).2.2;simp;omega⟩⟩)
 exact ⟨v',w',h1,h2,((dV _ _).alloc hB _).trans h3⟩
theorem qC {B:Nat}{w:World}{v:Value}{ps:List (List Int)}{p:List Int}{A:Option Addr}{c:Nat}(hp:RowP B w v ps)(hB:B≤w.heap.size)(hm:ps.length+1≤1099511627776)(hi:RdI w A p)(hcl:p.length≤c)
  (hne : ∀ a, A = some a → B ≤ a.block ∧ v.ownBlock ≠ some a.block ∧ a.block < w.heap.size)
  {ops:Array Oper} {rest:List Oper} {o:Oper} {a:Act} {Q:Exit→Act→World→Prop} (hgd:o.guard=none) (s x:Operand)
  (ho : o.op = .call { callee := .builtin .append, args := #[s, x], argTypes := #[53, 53] }) (hs : a.eval s = v) (hx : a.eval x = .slice (some ⟨w.heap.size, 0, none⟩) 1 1)
  (h : ∀ v' w', RowP B w' v' (ps ++ [p]) → Below B w w' → wpList prog ops Q rest (a.put o.dst v') w') :
  wpList prog ops Q (o::rest) a (w.alloc (.cells #[.slice A p.length c] 26)):=by
 refine wpList_plain hgd fun K hK=>?_
 obtain ⟨v',w',hrun,h2,h3⟩:=uP (c:=c) o.type hp hB hm hi hcl hne;unfold Oper.wp execOp
 simp only [ho,resolve,invoke,builtin,Sem.run_bind,Sem.run_pure,Result.andThen_ok,List.map_toArray,List.map_cons,List.map_nil,hs,hx,hrun]
 exact hK _ _ (h v' w' h2 h3)
theorem fS {B:Nat}{w:World}{v:Value}{xs:List Int}{y:Int}{g:Nat}(hp:RowI B w v xs)(hB:B≤w.heap.size)(hm:xs.length+1≤1099511627776)(hc:w.cell? ⟨g,0,none⟩=some (.int .i64 y))
  {ops:Array Oper} {o:Oper} {a:Act} {K:Act→World→Prop} {Q:Exit→Act→World→Prop} {E:Prop} (hgd:o.guard=none) (s x:Operand)
  (ho : o.op = .call { callee := .builtin .append, args := #[s, x], argTypes := #[26, 26] }) (hs : a.eval s = v) (hx : a.eval x = .slice (some ⟨g, 0, none⟩) 1 1)
  (h : ∀ v' w', RowI B w' v' (xs ++ [y]) → Below B w w' → K (a.put o.dst v') w') :
  if Region.wanted o (yielded ops a.tmps)=true then Oper.wp prog o a w K Q else E:=by
 have hw:Region.wanted o (yielded ops a.tmps)=true:=by simp [Region.wanted,hgd]
 rw [if_pos hw];obtain ⟨i,hi,hz,hz1,hz2⟩:=info_parts xX;have hge:∀g,v.ownBlock=some g→B≤g:=fun g hg=>(hp.lt g hg).1
 obtain ⟨v',w',hrun,hown,hg,_,hat⟩:=run_append_own_at (P:=prog) w B 26 o.type 3 i _ 1 8 Tryz.underlying26 hi hz hz1 hz2 rfl (by omega) v xs.length _ hp ⟨g,0,none⟩ 1 1 [.int .i64 y] (by simp) (by
  intro j u hj;match j,hj with
  | 0,hj=>simp only [List.getElem?_cons_zero,Option.some.injEq] at hj;subst hj;simpa [Addr.add] using hc) (by
  intro u hu;simp only [List.mem_singleton] at hu
  subst hu;rfl) (by simp only [maxLen];omega) (by omega) (by omega)
 unfold Oper.wp execOp
 simp only [ho,resolve,invoke,builtin,Sem.run_bind,Sem.run_pure,Result.andThen_ok,List.map_toArray,List.map_cons,List.map_nil,hs,hx,hrun]
 refine h v' w' ?_ ⟨hg.os,hg.tape,hg.output,hg.size,fun k hk=>hg.block k (by omega) (fun e=>by have:=hge k e.symm;omega)⟩;unfold RowI;rw [List.length_append,List.map_append];exact hown
theorem vE {B:Nat}{w:World}{v:Value}{ps:List (List Int)}(ty:TypeId)(c:Nat)(hp:RowP B w v ps):(Builtin.append_ #[53,53] ty #[v,.slice none 0 c]).run prog w = .ok v w:=by
 obtain ⟨i,hi,hz,hz1,hz2⟩:=info_parts xY;obtain ⟨vs,hown,_⟩:=hp;rcases hown.2 with ⟨rfl,_⟩|⟨g,cap,cur,rfl,_,_,hnc,_⟩
 ·simp [Builtin.append_,run_underlying Tryz.underlying53,sizeOf,typeInfo,hi,Builtin.lenOf,Builtin.firstCells]
 ·simp [Builtin.append_,run_underlying Tryz.underlying53,sizeOf,typeInfo,hi,Builtin.lenOf,Builtin.firstCells,hnc,storeCells]
theorem mE {B B2:Nat}{w:World}{v v2:Value}{ps qs:List (List Int)}(hp:RowP B w v ps)(hq:RowP B2 w v2 qs)(hBB:B≤B2)(hsep:∀g,v.ownBlock=some g→g<B2)(hB2:B2≤w.heap.size)(hm:ps.length+qs.length≤1099511627776)
  {ops:Array Oper} {o:Oper} {a:Act} {K:Act→World→Prop} {Q:Exit→Act→World→Prop} {E:Prop} (hgd:o.guard=none) (s x:Operand)
  (ho : o.op = .call { callee := .builtin .append, args := #[s, x], argTypes := #[53, 53] }) (hs : a.eval s = v) (hx : a.eval x = v2)
  (h : ∀ v' w', RowP B w' v' (ps ++ qs) → Below B w w' → w.grownBy w' v.ownBlock → K (a.put o.dst v') w') :
  if Region.wanted o (yielded ops a.tmps)=true then Oper.wp prog o a w K Q else E:=by
 have hw:Region.wanted o (yielded ops a.tmps)=true:=by simp [Region.wanted,hgd]
 rw [if_pos hw];have key:∃v' w',(Builtin.append_ #[53,53] o.type #[v,v2]).run prog w = .ok v' w'∧RowP B w' v' (ps++qs)∧Below B w w'∧w.grownBy w' v.ownBlock:=by
  obtain ⟨vs,hown,hel⟩:=hq;rcases hown.2 with ⟨rfl,h0⟩|⟨g,cap,cur,rfl,hb,hg,hn,_,hcs,htk⟩
  ·have:qs=[]:=lEn h0;subst this;exact ⟨v,w,vE _ 0 hp,by rw [List.append_nil];exact hp,dV _ _,gG _ _⟩
  ·obtain ⟨v',w',h1,h2,h3,h4,_⟩:=iS (w:=w) (v:=v) (ps:=ps) (qs:=qs) (ad:=⟨g,0,none⟩) (c:=cap) o.type hp (by omega) hm (by
    intro j hj;obtain ⟨A,c,e,r,hcl,hne⟩:=hel j hj;refine ⟨A,c,?_,r,hcl,fun a ha=>⟨by have:=(hne a ha).1;omega,fun e=>by have:=hsep _ e;have:=(hne a ha).1;omega,(hne a ha).2.2⟩⟩;have hcell:=cell_of_row w g j cur 26 (0,0) hg;rw [← htk,Nat.mul_one,List.getElem?_take,if_pos hj] at e;have e2:cur[j]?=some (.slice A qs[j].length c):=by simpa using e
    by_cases h0:j=0
    ·subst h0;simpa [Addr.add] using hcell.trans e2
    ·simpa [Addr.add,h0] using hcell.trans e2)
   exact ⟨v',w',h1,h2,h3,h4⟩
 obtain ⟨v',w',hrun,h2,h3,h4⟩:=key;unfold Oper.wp execOp
 simp only [ho,resolve,invoke,builtin,Sem.run_bind,Sem.run_pure,Result.andThen_ok,List.map_toArray,List.map_cons,List.map_nil,hs,hx,hrun]
 exact h v' w' h2 h3 h4
def aJv (w:World)(ps:List (List Int))(e:Ending)(w':World):Prop:=∃v,e = .returned v∧RowP w.heap.size w' v ps∧Bw w w'
theorem aCj {F:Nat}{f:Tm→Bool}(hF:aJq F f)(hrun:∀(args:Array Value) (w:World),(callFunc F args).run prog w = .ok (.enter F args) w)(N:Nat) :
  ∀(k n:Int) (ks:List Tm) (A:Option Addr) (c:Nat) (p:List Int) (P:Option Addr) (cp:Nat) (w:World),aG ks<N→aG ks≤1000000→p.length+aG ks≤1000000→Rd w A 0 ks→RdI w P p→
   Calls prog 55 #[.agg (Ro k n A ks.length c),.slice P p.length cp,.func (.func F) #[] #[]] w (aJv w (jP f p (.mk k n ks))):=by
 induction N with
 | zero=>intro k n ks A c p P cp w hN;exact absurd hN (Nat.not_lt_zero _)
 | succ N ih=>
 intro k n ks A c p P cp w hN hM hpl hr hi;have hlen:=aJ ks;have h0:jP f p (.mk k n ks)=(if f (.mk k n ks)=true then [p] else [])++jC f p 0 ks:=by rw [jP]
 rw [h0];clear h0;obtain ⟨bf,hbf⟩:∃bf,f (.mk k n ks)=bf:=⟨_,rfl⟩;obtain ⟨ps0,hps0⟩:∃ps0,(if f (.mk k n ks)=true then [p] else [])=ps0:=⟨_,rfl⟩;have hps00:ps0.length≤1:=by rw [← hps0];split<;>simp
 rw [hps0];have hbf':=aD hbf;rw [hbf] at hps0;clear hbf;cases bf with
 | true=>
  have:ps0=[p]:=by rw [← hps0,if_pos rfl]
  subst this;clear hps0;go_enter func55,ntmps55;go_wp2_with (first
   | (at_builtin;refine qC (B:=w.heap.size+1) (ps:=[]) (p:=p) RowP.nil (by have:=hb3.size;have:=s2;omega) (by simp) hi3 hcl3 hn3 rfl (.tmp 13) (.tmp 16) rfl rfl rfl ?_;intro v0 w4 hR0 hb4;have hB0:Blk w4 w.heap.size (Ro k n A ks.length c):=hB3.below hb4 (by omega);have hb0:Bw w w4:=bW g3 hb4;clear hb4 g3 hB3 hi3 hn3 g2 hB2;rw [List.nil_append] at hR0;have c2:=hB0.at_ (i:=2) rfl)
   | (go_at_call 86;refine (jG p P cp _ (by omega) (hi.below g2)).mono ?_;rintro e w3 ⟨v3,rfl,hR3,hb3⟩;obtain ⟨A3,c3,rfl,hi3,hn3'⟩:=hR3.form2;have hcl3:=hR3.capP.1;have hn3:∀a,A3=some a→w.heap.size+1≤a.block∧(Value.slice none 0 0).ownBlock≠some a.block∧a.block<w3.heap.size:=fun a ha=>⟨by have:=(hn3' a ha).1;have:=hb2.size;simp at this;omega,by simp [Value.ownBlock],(hn3' a ha).2⟩;clear hR3 hn3';have hB3:=hB2.keep hb3;have g3:=g2.trans (hb3.mono g2.size))
   | (refine (hF k n ks A c _ (by omega) (hr.alloc _)).mono ?_;rw [hbf'.out];rintro e w2 ⟨rfl,hb2⟩;have hB2:=(aC w 25 (Ro k n A ks.length c) rfl).keep hb2;have g2:Bw w w2:=bW bw1 hb2;have s2:w.heap.size+1≤w2.heap.size:=(by have:=hb2.size;simpa using this);clear hbf'))
  go_loopw [7,21] (fun v i wr=>∃(j:Nat) (vv:Value),j≤ks.length∧vv=v∧i = .int .i64 j∧RowP (w.heap.size+1) wr vv ([p]++jC f p 0 (ks.take j))∧Blk wr w.heap.size (Ro k n A ks.length c)∧Bw w wr) (fun _ i _=>ks.length - (intOf i).toNat)
  case atStart=>exact ⟨0,_,Nat.zero_le _,rfl,rfl,by simpa [jC] using hR0,hB0,hb0⟩
  case round=>
   obtain ⟨j,vv,hj,rfl,rfl,hRv,hBr,hb⟩:=hrel;obtain ⟨ps1,hps1⟩:∃ps1,[p]++jC f p 0 (ks.take j)=ps1:=⟨_,rfl⟩;have hpl1:ps1.length≤1000001:=by rw [← hps1,List.length_append];have:=mZ f (ks.take j) p 0;have:=dB ks j;simp;omega
   rw [hps1] at hRv;by_cases hlt:j<ks.length
   ·obtain ⟨b1,off,k',n',ks',A',c',rfl,hkj,hc1,hc2,hc3,hl',hr'⟩:=(hr.below hb).at_ hlt;have hsz:=bY (fG hlt);have hbt:=uR f ks[j] (p++[(j:Int)]);rw [hkj] at hsz hbt;simp only [Tm.size] at hsz hbt
    have H3:=aD hkj;have hp1':=aD hps1;clear hkj hps1;have hvo:∀g,vv.ownBlock=some g→g<wr.heap.size:=fun g hg=>by obtain ⟨_,h1,_⟩:=hRv;exact (h1.lt g hg).2
    go_wp2_with fail
    refine aT ?_;intro wx hwx;have hXB:Blk wx wr.heap.size (Ro k' n' A' ks'.length c'):=by rw [hwx];exact aC _ _ _ rfl
    have hbx:Bw w wx:=by rw [hwx];exact hb.alloc hb.size _
    have hRx:RowP (w.heap.size+1) wx vv ps1:=by rw [hwx];exact hRv.alloc _
    have hBx:Blk wx w.heap.size (Ro k n (some ⟨b1,off,none⟩) ks.length c):=by rw [hwx];exact hBr.alloc _
    have hrx:Rd wx A' 0 ks':=by rw [hwx];exact hr'.alloc _
    have hsx:wr.heap.size<wx.heap.size:=by rw [hwx];simp
    have hsr:=hb.size;have hwr:=hBr.lt;clear hwx;obtain ⟨x0,x1,x2⟩:=hXB.three;obtain ⟨q,hq⟩:∃q,p++[(j:Int)]=q:=⟨_,rfl⟩;have hql:q.length=p.length+1:=by rw [← hq];simp
    rw [hq] at hbt;have hql2:q.length≤p.length+1:=by omega
    have hq':=aD hq;have hql':=aD hql;clear hq hql;have hix:=hi.below hbx;go_region_held3 (fun w'=>w'.cell? ⟨wr.heap.size,0,none⟩=some (.int .i64 k')∧w'.cell? ⟨wr.heap.size,1,none⟩=some (.int .i64 n')∧w'.cell? ⟨wr.heap.size,2,none⟩=some (.slice A' ks'.length c')) (go_keep) (first
     | (refine mE (B:=w.heap.size+1) (B2:=w5.heap.size) (qs:=jP f q (.mk k' n' ks')) (hRx.below hx6) hR6 (by omega) (fun g hg=>by obtain ⟨_,h1,_⟩:=hRx;have:=(h1.lt g hg).2;omega) hb6.size (by omega) rfl (.tmp 26) (.tmp 34) rfl rfl rfl ?_;intro v7 w7 hR7 hb7 hg7;have hX7:=(hXB.keep hx6).grown hg7 (fun e=>by have:=hvo _ e.symm;omega);clear x0 x1 x2;obtain ⟨x0,x1,x2⟩:=hX7.three)
     | (go_at_call 55;refine (ih k' n' ks' A' c' q A5 c5 _ (by omega) (by omega) (by omega) (hrx.below hx5) hi5).mono ?_;rintro e w6 ⟨v6,rfl,hR6,hb6⟩;have hx6:Bw wx w6:=hx5.trans (hb6.mono hx5.size);have hs6:=hb6.size;clear x0 x1 x2;obtain ⟨x0,x1,x2⟩:=(hXB.keep hx6).three)
     | (refine fS (B:=wx.heap.size) (xs:=p) (y:=(j:Int)) (hR3.alloc _) (by have:=hx3.size;simp;omega) (by omega) (by simp) rfl (.tmp 29) (.tmp 31) rfl rfl rfl ?_;intro v5 w5 hR5 hb5;have hx5:Bw wx w5:=(hx3.alloc hx3.size _).trans hb5;rw [hq'.out] at hR5;obtain ⟨A5,c5,rfl,hi5⟩:=hR5.form;have hs5:=hx5.size;clear x0 x1 x2;obtain ⟨x0,x1,x2⟩:=(hXB.keep hx5).three)
     | (refine fS (B:=wx.heap.size) (xs:=p) (y:=(j:Int)) hR3 hx3.size (by omega) hz3 rfl (.tmp 29) (.tmp 31) rfl rfl rfl ?_;intro v5 w5 hR5 hb5;have hx5:Bw wx w5:=hx3.trans hb5;rw [hq'.out] at hR5;obtain ⟨A5,c5,rfl,hi5⟩:=hR5.form;have hs5:=hx5.size;clear x0 x1 x2;obtain ⟨x0,x1,x2⟩:=(hXB.keep hx5).three)
     | (go_at_call 86;refine (jG p P cp (wx.alloc (.cells #[.int .i64 j] 3)).drew (by omega) (hix.alloc' _)).mono ?_;rintro e w3 ⟨v3,rfl,hR3,hb3⟩;have hz3:w3.cell? ⟨wx.heap.size,0,none⟩=some (.int .i64 j):=(hb3.cell (by simp)).trans (by simp);replace hR3:=hR3.mono (B':=wx.heap.size) (by simp);have hx3:Bw wx w3:=(bw1.drew).trans (hb3.mono (by simp));clear x0 x1 x2;obtain ⟨x0,x1,x2⟩:=(hXB.keep hx3).three)
     | (go_at_call 86;refine (jG p P cp wx.drew (by omega) hix).mono ?_;rintro e w3 ⟨v3,rfl,hR3,hb3⟩;have hx3:Bw wx w3:=(dV _ _).drew.trans hb3;clear x0 x1 x2;obtain ⟨x0,x1,x2⟩:=(hXB.keep hx3).three))
    all_goals
     have hx7:Below (w.heap.size+1) wx w7:=(hx6.mono (by omega)).trans hb7;have c2:=(hBx.below hx7 (by omega)).at_ (i:=2) rfl;go_wp2_with fail
     go_roundw
     case rel=>exact ⟨j+1,_,hlt,rfl,by go_num,by rw [nZ f p hlt,H3.out,hq'.out,← List.append_assoc,hp1'.out];exact hR7,hBx.below hx7 (by omega),hbx.trans (hx7.mono (by omega))⟩
     case measure=>simp [intOf];omega
   ·have hjl:j=ks.length:=by omega
    subst hjl;rw [List.take_length] at hps1;have hp1':=aD hps1;clear hps1;go_wp2_with fail
    go_ret
    exact ⟨vv,rfl,by have e:=hp1'.out;first|(rw [e];exact hRv.mono (by omega))|(rw [List.singleton_append] at e;rw [e];exact hRv.mono (by omega)),hb⟩
 | false=>
  have:ps0=[]:=by rw [← hps0];simp
  subst this;clear hps0;go_enter func55,ntmps55;go_wp2_with (refine (hF k n ks A c _ (by omega) (hr.alloc _)).mono ?_;rw [hbf'.out];rintro e w4 ⟨rfl,hb2⟩;have hB0:=(aC w 25 (Ro k n A ks.length c) rfl).keep hb2;have hb0:Bw w w4:=bW bw1 hb2;clear hbf' hb2;have c2:=hB0.at_ (i:=2) rfl)
  have hR0:RowP (w.heap.size+1) w4 (.slice none 0 0) []:=RowP.nil;revert hR0
  generalize hv0:Value.slice none 0 0=v0
  intro hR0;clear hv0;go_loopw [7,21] (fun v i wr=>∃(j:Nat) (vv:Value),j≤ks.length∧vv=v∧i = .int .i64 j∧RowP (w.heap.size+1) wr vv ([]++jC f p 0 (ks.take j))∧Blk wr w.heap.size (Ro k n A ks.length c)∧Bw w wr) (fun _ i _=>ks.length - (intOf i).toNat)
  case atStart=>exact ⟨0,_,Nat.zero_le _,rfl,rfl,by simpa [jC] using hR0,hB0,hb0⟩
  case round=>
   obtain ⟨j,vv,hj,rfl,rfl,hRv,hBr,hb⟩:=hrel;obtain ⟨ps1,hps1⟩:∃ps1,[]++jC f p 0 (ks.take j)=ps1:=⟨_,rfl⟩;have hpl1:ps1.length≤1000001:=by rw [← hps1,List.length_append];have:=mZ f (ks.take j) p 0;have:=dB ks j;simp;omega
   rw [hps1] at hRv;by_cases hlt:j<ks.length
   ·obtain ⟨b1,off,k',n',ks',A',c',rfl,hkj,hc1,hc2,hc3,hl',hr'⟩:=(hr.below hb).at_ hlt;have hsz:=bY (fG hlt);have hbt:=uR f ks[j] (p++[(j:Int)]);rw [hkj] at hsz hbt;simp only [Tm.size] at hsz hbt
    have H3:=aD hkj;have hp1':=aD hps1;clear hkj hps1;have hvo:∀g,vv.ownBlock=some g→g<wr.heap.size:=fun g hg=>by obtain ⟨_,h1,_⟩:=hRv;exact (h1.lt g hg).2
    go_wp2_with fail
    refine aT ?_;intro wx hwx;have hXB:Blk wx wr.heap.size (Ro k' n' A' ks'.length c'):=by rw [hwx];exact aC _ _ _ rfl
    have hbx:Bw w wx:=by rw [hwx];exact hb.alloc hb.size _
    have hRx:RowP (w.heap.size+1) wx vv ps1:=by rw [hwx];exact hRv.alloc _
    have hBx:Blk wx w.heap.size (Ro k n (some ⟨b1,off,none⟩) ks.length c):=by rw [hwx];exact hBr.alloc _
    have hrx:Rd wx A' 0 ks':=by rw [hwx];exact hr'.alloc _
    have hsx:wr.heap.size<wx.heap.size:=by rw [hwx];simp
    have hsr:=hb.size;have hwr:=hBr.lt;clear hwx;obtain ⟨x0,x1,x2⟩:=hXB.three;obtain ⟨q,hq⟩:∃q,p++[(j:Int)]=q:=⟨_,rfl⟩;have hql:q.length=p.length+1:=by rw [← hq];simp
    rw [hq] at hbt;have hql2:q.length≤p.length+1:=by omega
    have hq':=aD hq;have hql':=aD hql;clear hq hql;have hix:=hi.below hbx;go_region_held3 (fun w'=>w'.cell? ⟨wr.heap.size,0,none⟩=some (.int .i64 k')∧w'.cell? ⟨wr.heap.size,1,none⟩=some (.int .i64 n')∧w'.cell? ⟨wr.heap.size,2,none⟩=some (.slice A' ks'.length c')) (go_keep) (first
     | (refine mE (B:=w.heap.size+1) (B2:=w5.heap.size) (qs:=jP f q (.mk k' n' ks')) (hRx.below hx6) hR6 (by omega) (fun g hg=>by obtain ⟨_,h1,_⟩:=hRx;have:=(h1.lt g hg).2;omega) hb6.size (by omega) rfl (.tmp 26) (.tmp 34) rfl rfl rfl ?_;intro v7 w7 hR7 hb7 hg7;have hX7:=(hXB.keep hx6).grown hg7 (fun e=>by have:=hvo _ e.symm;omega);clear x0 x1 x2;obtain ⟨x0,x1,x2⟩:=hX7.three)
     | (go_at_call 55;refine (ih k' n' ks' A' c' q A5 c5 _ (by omega) (by omega) (by omega) (hrx.below hx5) hi5).mono ?_;rintro e w6 ⟨v6,rfl,hR6,hb6⟩;have hx6:Bw wx w6:=hx5.trans (hb6.mono hx5.size);have hs6:=hb6.size;clear x0 x1 x2;obtain ⟨x0,x1,x2⟩:=(hXB.keep hx6).three)
     | (refine fS (B:=wx.heap.size) (xs:=p) (y:=(j:Int)) (hR3.alloc _) (by have:=hx3.size;simp;omega) (by omega) (by simp) rfl (.tmp 29) (.tmp 31) rfl rfl rfl ?_;intro v5 w5 hR5 hb5;have hx5:Bw wx w5:=(hx3.alloc hx3.size _).trans hb5;rw [hq'.out] at hR5;obtain ⟨A5,c5,rfl,hi5⟩:=hR5.form;have hs5:=hx5.size;clear x0 x1 x2;obtain ⟨x0,x1,x2⟩:=(hXB.keep hx5).three)
     | (refine fS (B:=wx.heap.size) (xs:=p) (y:=(j:Int)) hR3 hx3.size (by omega) hz3 rfl (.tmp 29) (.tmp 31) rfl rfl rfl ?_;intro v5 w5 hR5 hb5;have hx5:Bw wx w5:=hx3.trans hb5;rw [hq'.out] at hR5;obtain ⟨A5,c5,rfl,hi5⟩:=hR5.form;have hs5:=hx5.size;clear x0 x1 x2;obtain ⟨x0,x1,x2⟩:=(hXB.keep hx5).three)
     | (go_at_call 86;refine (jG p P cp (wx.alloc (.cells #[.int .i64 j] 3)).drew (by omega) (hix.alloc' _)).mono ?_;rintro e w3 ⟨v3,rfl,hR3,hb3⟩;have hz3:w3.cell? ⟨wx.heap.size,0,none⟩=some (.int .i64 j):=(hb3.cell (by simp)).trans (by simp);replace hR3:=hR3.mono (B':=wx.heap.size) (by simp);have hx3:Bw wx w3:=(bw1.drew).trans (hb3.mono (by simp));clear x0 x1 x2;obtain ⟨x0,x1,x2⟩:=(hXB.keep hx3).three)
     | (go_at_call 86;refine (jG p P cp wx.drew (by omega) hix).mono ?_;rintro e w3 ⟨v3,rfl,hR3,hb3⟩;have hx3:Bw wx w3:=(dV _ _).drew.trans hb3;clear x0 x1 x2;obtain ⟨x0,x1,x2⟩:=(hXB.keep hx3).three))
    all_goals
     have hx7:Below (w.heap.size+1) wx w7:=(hx6.mono (by omega)).trans hb7;have c2:=(hBx.below hx7 (by omega)).at_ (i:=2) rfl;go_wp2_with fail
     go_roundw
     case rel=>exact ⟨j+1,_,hlt,rfl,by go_num,by rw [nZ f p hlt,H3.out,hq'.out,← List.append_assoc,hp1'.out];exact hR7,hBx.below hx7 (by omega),hbx.trans (hx7.mono (by omega))⟩
     case measure=>simp [intOf];omega
   ·have hjl:j=ks.length:=by omega
    subst hjl;rw [List.take_length] at hps1;rw [List.nil_append] at hps1;have hp1':=aD hps1;clear hps1;go_wp2_with fail
    go_ret
    exact ⟨vv,rfl,by have e:=hp1'.out;first|(rw [e];exact hRv.mono (by omega))|(rw [List.singleton_append] at e;rw [e];exact hRv.mono (by omega)),hb⟩
theorem wA (k n:Int)(ks:List Tm)(A:Option Addr)(c:Nat)(w:World):Calls prog 56 #[.agg (Ro k n A ks.length c)] w fun e w'=>e = .returned (.bool (eU (.mk k n ks)))∧Bw w w':=by
 go_enter func56,ntmps56;go_wp2
 go_ret
 exact ⟨rfl,bw1⟩
theorem aMm:aJq 56 eU:=fun k n ks A c w _ _=>wA k n ks A c w
theorem oZ (k n:Int)(ks:List Tm)(A:Option Addr)(c:Nat)(w:World)(hv:aE (.mk k n ks)=true)(hr:Rd w A 0 ks) :
  Calls prog 23 #[.agg (Ro k n A ks.length c)] w (aJv w (jP eU [] (.mk k n ks))):=by
 have hsz:=cF hv;rw [Tm.size] at hsz;have hrun:=eJ func56 (by kernel_rfl) (by kernel_rfl);have hv':=aD hv;clear hv;go_enter func23,ntmps23;go_wp2_with (first
  | (go_at_call 55;refine (aCj aMm hrun (aG ks+1) k n ks A c [] none 0 _ (by omega) (by omega) (by simp;omega) ((hr.alloc _).below hb1) (fun j hj=>absurd hj (Nat.not_lt_zero _))).mono ?_;rintro e w2 ⟨v2,rfl,hR2,hb2⟩)
  | (go_at_call 19;refine (aQ k n ks A c _ (by omega) (hr.alloc _)).mono ?_;rw [hv'.out];rintro e w1 ⟨rfl,hb1⟩;have hB1:=(aC w 25 (Ro k n A ks.length c) rfl).keep hb1;obtain ⟨p0,p1,p2⟩:=hB1.three))
 go_ret
 have hs1:w.heap.size≤w1.heap.size:=by have:=hb1.size;simp at this;omega
 exact ⟨_,rfl,hR2.mono hs1,(bw1.trans (hb1.mono (by simp))).trans (hb2.mono hs1)⟩
end Go.Proofs.YtddkehjdjfmhmaaGreat
