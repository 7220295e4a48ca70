/- Parts of the proof. No condition. -/
import Derived.Test.YtddkehjdjfmhmaaGreatK19
open Go.Proofs.Tryz
namespace Go.Proofs.YtddkehjdjfmhmaaGreat
open Go.RowKit
set_option maxHeartbeats 16000000
set_option maxRecDepth 100000
set_option linter.unusedSimpArgs false
set_option linter.unusedVariables false
theorem RdI.addr {w:World}{b off:Nat}{xs:List Int}(h:RdI w (some ⟨b,off,none⟩) xs):∀j (hj:j<xs.length),w.cell? ((⟨b,off,none⟩:Addr).add j)=some (.int .i64 xs[j]):=fun j hj=>by
 obtain ⟨b1,o1,hA,hc⟩:=h j hj;injection hA with hA;injection hA with e1 e2;subst e1 e2;by_cases h0:j=0
 ·subst h0;simpa [Addr.add] using hc
 ·simpa [Addr.add,h0] using hc
theorem Blk.oneI {w:World}{z:Nat}{x:Int}(h:Blk w z #[.int .i64 x]):∀j (hj:j<[x].length),w.cell? ((⟨z,0,none⟩:Addr).add j)=some (.int .i64 [x][j]):=fun j hj=>by
 have h0:j=0:=by simp at hj;exact hj
 subst h0;simpa [Addr.add] using h.at_ (i:=0) rfl
theorem RowI.some_ {B:Nat}{w:World}{v:Value}{xs:List Int}(h:RowI B w v xs)(hne:xs≠[]):∃g c,v = .slice (some ⟨g,0,none⟩) xs.length c∧RdI w (some ⟨g,0,none⟩) xs∧B≤g∧g<w.heap.size∧xs.length≤c:=by
 obtain ⟨A,c,rfl,hi⟩:=h.form;rcases h.2 with ⟨e,h0⟩|⟨g,cap,cur,e,hb,hg,hn,_⟩
 ·exact absurd (lEn h0) hne
 ·injection e with e1 e2 e3;subst e1 e3;exact ⟨g,c,rfl,hi,hb,(Array.getElem?_eq_some_iff.1 hg).1,hn⟩
theorem RowI.cap {B:Nat}{w:World}{A:Option Addr}{n c:Nat}{xs:List Int}(h:RowI B w (.slice A n c) xs):xs.length≤c∧n=xs.length:=by
 rcases h.2 with ⟨e,h0⟩|⟨g,cap,cur,e,hb,hg,hn,_⟩
 ·injection e with e1 e2 e3;exact ⟨by omega,by omega⟩
 ·injection e with e1 e2 e3;exact ⟨by omega,e2⟩
theorem RowP.own {B:Nat}{w:World}{v:Value}{ps:List (List Int)}(h:RowP B w v ps):∀g,v.ownBlock=some g→B≤g∧g<w.heap.size:=by
 obtain ⟨vs,h1,_⟩:=h;exact fun g hg=>h1.lt g hg
theorem RowP.drew {B:Nat}{w:World}{v:Value}{ps:List (List Int)}(h:RowP B w v ps):RowP B w.drew v ps:=h.below (dV _ _).drew
theorem RowP.empty (w:World){B:Nat}(hB:B≤w.heap.size):RowP B (w.alloc (.cells #[] 26)) (.slice (some ⟨w.heap.size,0,none⟩) 0 0) []:=
 ⟨[],⟨rfl,.inr ⟨w.heap.size,0,#[],rfl,hB,heap_alloc_new w _,iD _,by simp [maxLen],rfl,rfl⟩⟩,fun j hj=>absurd hj (Nat.not_lt_zero _)⟩
theorem fR {v vv:Value}{w w1 w2:World}(h:w.grownBy w1 v.ownBlock)(o:OwnTo w v vv)(k:w1.grownBy w2 vv.ownBlock):w.grownBy w2 v.ownBlock:=
 ⟨k.os.trans h.os,k.tape.trans h.tape,k.output.trans h.output,Nat.le_trans h.size k.size,fun i hi hne=>(k.block i (kT hi h.size) (fun e=>(o.ne hi (fun e2=>hne e2.symm)) e.symm)).trans (h.block i hi hne)⟩
theorem kH {B:Nat}{w:World}{v:Value}{ps:List (List Int)}{p:List Int}{A:Option Addr}{c:Nat}(hp:RowP B w v ps)(hB:B≤w.heap.size){m:Nat}(hpl:ps.length=m)(hm:m+1≤1099511627776)(hi:RdI w A p)(hcl:p.length≤c)
  (hne : ∀ a, A = some a → B ≤ a.block ∧ v.ownBlock ≠ some a.block ∧ a.block < w.heap.size) (g cc : Nat) (hb : Blk w g #[.slice A p.length c])
  {ops:Array Oper} {rest:List Oper} {o:Oper} {a:Act} {Q:Exit→Act→World→Prop} (hgd:o.guard=none) (s x:Operand)
  (ho : o.op = .call { callee := .builtin .append, args := #[s, x], argTypes := #[53, 53] }) (hs : a.eval s = v) (hx : a.eval x = .slice (some ⟨g, 0, none⟩) 1 cc)
  (h : ∀ A' c' w', RowP B w' (.slice A' (m + 1) c') (ps ++ [p]) → w.grownBy w' v.ownBlock → OwnTo w v (.slice A' (m + 1) c') → wpList prog ops Q rest (a.put o.dst (.slice A' (m + 1) c')) w') :
  wpList prog ops Q (o::rest) a w:=by
 subst hpl;refine wpList_plain hgd fun K hK=>?_
 obtain ⟨v',w',hrun,h2,_,h4,h5⟩:=iS (w:=w) (v:=v) (ps:=ps) (qs:=[p]) (ad:=⟨g,0,none⟩) (c:=cc) o.type hp hB (by simpa using hm) (by
  intro j hj;simp only [List.length_singleton] at hj
  obtain rfl:j=0:=by omega
  exact ⟨A,c,by simpa [Addr.add] using hb.at_ (i:=0) rfl,hi,hcl,hne⟩)
 unfold Oper.wp execOp
 simp only [List.length_singleton] at hrun
 simp only [ho,resolve,invoke,builtin,Sem.run_bind,Sem.run_pure,Result.andThen_ok,List.map_toArray,List.map_cons,List.map_nil,hs,hx,hrun]
 obtain ⟨A',c',rfl,_⟩:=h2.form;rw [List.length_append,List.length_singleton] at h2 h5⊢;exact hK _ _ (h A' c' w' h2 h4 (h5.imp id fun e=>⟨_,iD _,e⟩))
def aPn (B:Nat)(v:Value)(w:World)(ps:List (List Int))(e:Ending)(w':World):Prop:=
 ∃A c,e = .returned (.slice A ps.length c)∧RowP B w' (.slice A ps.length c) ps∧w.grownBy w' v.ownBlock∧OwnTo w v (.slice A ps.length c)
theorem yW (B:Nat)(N:Nat):∀(k n:Int) (ks:List Tm) (A:Option Addr) (c:Nat) (p:List Int) (pb cp:Nat) (ps:List (List Int)) (V:Option Addr) (cv:Nat) (w:World),aG ks<N→aG ks≤1000→p.length+aG ks≤2000→ps.length+aG ks+1≤1000000→B≤w.heap.size→RdP (fun b=>b<B) w A 0 ks→RdI w (some ⟨pb,0,none⟩) p→p.length≤cp→pb<w.heap.size→(Value.slice V ps.length cv).ownBlock≠some pb→RowP B w (.slice V ps.length cv) ps→
  Calls prog 82 #[.slice V ps.length cv,.agg (Ro k n A ks.length c),.slice (some ⟨pb,0,none⟩) p.length cp,.bool false] w (aPn B (.slice V ps.length cv) w (ps++jP eU p (.mk k n ks))):=by
 induction N with
 | zero=>intro k n ks A c p pb cp ps V cv w hN;exact absurd hN (Nat.not_lt_zero _)
 | succ N ih=>
 intro k n ks A c p pb cp ps V cv w hN hM hpl hps hB hr hi hcp hpb hvp hR;have hlen:=aJ ks;have hpt:jP eU p (.mk k n ks)=p::jC eU p 0 ks:=by rw [jP,if_pos (show eU (.mk k n ks)=true from rfl)];rfl
 have hpt':=aD hpt;clear hpt;have how:=hR.own;go_enter func82,ntmps82;go_wp2_with (first
  | (at_builtin;have _t:=tok1;refine lM ?_;intro wx hwx;have hBx:Blk wx w1.heap.size #[.slice A3 p.length c3]:=(by rw [hwx];exact aC _ _ _ rfl);have hRx:RowP B wx (.slice V ps.length cv) ps:=(by rw [hwx];exact hR1.alloc _);have hix:RdI wx A3 p:=(by rw [hwx];exact hi3.alloc _);have hKx:Blk wx w.heap.size (Ro k n A ks.length c):=(by rw [hwx];exact hK1.alloc _);have bx:Bw w wx:=(by rw [hwx];exact bE b1 _);clear hwx;have sx:=hBx.lt;refine kH (B:=B) hRx (by omega) rfl (by omega) hix hc3.1 (fun a ha=>⟨by have:=(hn3 a ha).1;omega,fun e=>by have:=(how _ e).2;have:=(hn3 a ha).1;omega,by have:=(hn3 a ha).2;omega⟩) _ 1 hBx rfl (.tmp 17) (.tmp 21) rfl rfl rfl ?_;intro A4 c4 w2 hR2 hg2 ho2;have hK2:=hKx.grown hg2 (fun e=>by have:=(how _ e.symm).2;omega);have g2:=eM (aR (gG _ _) bx) hg2;have o2:OwnTo w (.slice V ps.length cv) (.slice A4 (ps.length+1) c4):=ho2.imp id (fun ⟨g,h1,h2⟩=>⟨g,by omega,h2⟩);have n2:(Value.slice A4 (ps.length+1) c4).ownBlock≠some w.heap.size:=(ho2.ne (by omega) (fun e=>by have:=(how _ e).2;omega)))
  | (at_builtin;refine lM ?_;intro wa hwa;have hRa:RowI (w.heap.size+1) wa (.slice (some ⟨w.heap.size+1,0,none⟩) 0 0) []:=(by rw [hwa];simpa using RowI.empty (w.alloc (.cells (Ro k n A ks.length c) 25)) (B:=w.heap.size+1) (by simp));have hia:RdI wa (some ⟨pb,0,none⟩) p:=(by rw [hwa];exact (hi.alloc _).alloc _);have hKa:Blk wa w.heap.size (Ro k n A ks.length c):=(by rw [hwa];exact (aC _ 25 _ rfl).alloc _);have ba:Bw w wa:=(by rw [hwa];exact bE (bE (cW _) _) _);have hRoa:RowP B wa (.slice V ps.length cv) ps:=(by rw [hwa];exact (hR.below (bE (bE (cW _) _) _)));have sa:w.heap.size+1<wa.heap.size:=(by rw [hwa];simp);clear hwa;refine aV (B:=w.heap.size+1) (ys:=p) (ad:=⟨pb,0,none⟩) (c:=cp) hRa (by omega) (by simp;omega) hia.addr rfl (.tmp 18) (.tmp 19) rfl rfl rfl ?_;intro v3 w1 hR3 hb3 hg3;rw [List.nil_append] at hR3;obtain ⟨A3,c3,rfl,hi3,hn3⟩:=hR3.form2;have hc3:=hR3.cap;have b1:=ba.trans (hb3.mono (by omega));have hK1:=hKa.below hb3 (by omega);have hR1:RowP B w1 (.slice V ps.length cv) ps:=hR.below b1;have s1:=hb3.size;have tok1:=trivial))
 go_loopw [0,9] (fun vv iv wr=>∃(j:Nat) (A5:Option Addr) (c5:Nat) (ps5:List (List Int)),j≤ks.length∧iv = .int .i64 j∧vv = .slice A5 ps5.length c5∧ps5=ps++[p]++jC eU p 0 (ks.take j)∧RowP B wr (.slice A5 ps5.length c5) ps5∧Blk wr w.heap.size (Ro k n A ks.length c)∧w.grownBy wr (Value.slice V ps.length cv).ownBlock∧OwnTo w (.slice V ps.length cv) (.slice A5 ps5.length c5)∧(Value.slice A5 ps5.length c5).ownBlock≠some w.heap.size)
  (fun _ iv _ => ks.length - (intOf iv).toNat)
 case atStart=>exact ⟨0,A4,c4,ps++[p],Nat.zero_le _,rfl,by simp,by simp [jC],by simpa [jC] using hR2,hK2,g2,by simpa using o2,by simpa using n2⟩
 case round=>
  obtain ⟨j,A5,c5,ps5,hj,rfl,rfl,hps5,hR5,hK5,g5,o5,n5⟩:=hrel;have hpl5:ps5.length≤ps.length+1+aG ks:=by rw [hps5];have:=mZ eU (ks.take j) p 0;have:=eS ks j;simp;omega
  have hps5':=aD hps5;clear hps5;have s5:=g5.size;have how5:=hR5.own;have lK:=hK5.lt;have hr5:RdP (fun b=>b<B) _ A 0 ks:=hr.grown g5 (fun b hb e=>by have:=(how b e.symm).1;omega);have hi5:=hi.grown g5 (fun a ha e=>by injection ha with ha;subst ha;exact hvp e);have hvp5:(Value.slice A5 ps5.length c5).ownBlock≠some pb:=o5.ne hpb hvp;obtain ⟨x0,x1,x2⟩:=hK5.three;by_cases hlt:j<ks.length
  ·have hszj:=nV hlt;have hle:=eS ks (j+1);obtain ⟨b,off,k',n',ks',A',c',rfl,hkj,hbl,hc1,hc2,hc3',hl',hr'⟩:=hr5.atp hlt;rw [hkj] at hszj;simp only [Tm.size] at hszj
   have hplt:=nZ eU p hlt;rw [hkj] at hplt;obtain ⟨q,hq0⟩:∃q,p++[(j:Int)]=q:=⟨_,rfl⟩;have hqq:=aD hq0;have hql:q.length≤p.length+1:=by rw [← hq0];simp
   have hqn:q≠[]:=by rw [← hq0];simp
   have hqn':=aD hqn;rw [hq0] at hplt;clear hq0 hqn;have hplt':=aD hplt;have hq:=mZ eU (ks.take j) p 0;have hlps:ps5.length≤ps.length+1+aG (ks.take j):=by rw [hps5'.out];simp;omega
   have hlj:(j:Int)<(ks.length:Int):=by omega
   clear hplt hkj;go_upto_region 6 with fail
   have y0:=aF hK5.three.2.2;obtain ⟨y1,y2,y3⟩:=pW hc1 hc2 hc3';clear x0 x1 x2 hc1 hc2 hc3';obtain ⟨q0,hq0⟩:∃q0,q0=wr.drew:=⟨_,rfl⟩;have bq0:Bw wr q0:=by rw [hq0];exact yO (cW _)
   refine gA (fun w'=>Bw wr w') [13,14] 15 (by kernel_rfl) rfl ?_;refine iH [0,1,2,3,4,5,7,9,12] (f:=6) (l':=#[true,true,true,true,true,true,false,true,false,true,false,false,true,false,false]) (lT:=[_,_,_,_,_,_,_,_,_]) (by rw [← hq0];exact bq0) rfl (by kernel_rfl) (by kernel_rfl) (by kernel_rfl) rfl (fun _ _ d _ _ h=>by cases d<;>exact h) ?_;refine cL (aD ?_);rw [← hq0];clear hq0 y0 y1 y2 y3;refine oC 6 10 ?_ ?_
   ·go_wp2_with fail
    refine bI ?_;intro p1 hn;have bp1:Bw wr p1:=by rw [hn];exact bE bq0 _
    have sp1:=bq0.size;have ltp1:q0.heap.size<p1.heap.size:=by rw [hn];simp
    have ep1:RowI wr.heap.size p1 (.slice (some ⟨q0.heap.size,0,none⟩) 0 0) []:=by rw [hn];exact RowI.empty q0 bq0.size
    clear hn;refine aH bp1 ?_;refine oC 8 10 ?_ ?_
    ·have sp2:=bp1.size;refine aV (B:=wr.heap.size) (ys:=p) (ad:=⟨pb,0,none⟩) (c:=cp) ep1 sp2 (by simp;omega) (hi5.below bp1).addr rfl (.tmp 36) (.tmp 37) rfl rfl rfl ?_;intro vp2 p2 rp2 hp2 hgp2;rw [List.nil_append] at rp2;obtain ⟨Ap2,cp2,hvp2,-,-⟩:=rp2.form2;subst hvp2;go_wp2_with fail
     have bp2:Bw wr p2:=bp1.trans hp2;refine aH bp2 ?_;refine bG 10 ?_
     ·go_wp2_with fail
      refine bI ?_;intro p3 hn;have bp3:Bw wr p3:=by rw [hn];exact bE bp2 _
      have sp3:=bp2.size;have ltp3:p2.heap.size<p3.heap.size:=by rw [hn];simp
      have zp3:Blk p3 p2.heap.size #[.int .i64 j]:=by rw [hn];exact aC _ 3 _ rfl
      have rp3:=rp2.alloc (.cells #[.int .i64 j] 3);rw [← hn] at rp3;clear hn;refine aH bp3 ?_;refine bG 11 ?_
      ·have sp4:=bp3.size;refine aV (B:=wr.heap.size) (xs:=p) (ys:=[(j:Int)]) (ad:=⟨p2.heap.size,0,none⟩) (c:=1) rp3 sp4 (by simp;omega) zp3.oneI rfl (.tmp 38) (.tmp 40) rfl rfl rfl ?_;intro vp4 p4 rp4 hp4 hgp4;rw [hqq.out] at rp4;obtain ⟨gp4,cp4,hvp4,hip4,hgBp4,hglp4,hgcp4⟩:=rp4.some_ hqn'.out;subst hvp4;go_wp2_with fail
       have bp4:Bw wr p4:=bp3.trans hp4;refine aH bp4 ?_;refine cY [13,14] (lB:=[_,_]) ?_;have hRw:=hR5.below bp4;have sw:=bp4.size;go_wp2_with (go_at_call 82;refine (ih k' n' ks' A' c' q gp4 cp4 ps5 A5 c5 p4 (by omega) (by omega) (by omega) (by omega) (by omega) (hr'.below bp4) hip4 hgcp4 hglp4 (fun e=>by have:=(how5 _ e).2;omega) hRw).mono ?_;rintro e w9 ⟨A9,c9,rfl,hR9,hg9,ho9⟩)
       go_roundw
       case rel=>
        have gw:w.grownBy p4 (Value.slice V ps.length cv).ownBlock:=aR g5 bp4;refine ⟨j+1,A9,c9,_,hlt,by go_num,by rw [List.length_append],?_,hR9,?_,fR gw o5 hg9,o5.trans ho9 gw.size,?_⟩
        ·rw [hplt'.out,← List.append_assoc,← hps5'.out]
        ·exact (hK5.keep bp4).grown hg9 (fun e=>n5 e.symm)
        ·exact ho9.ne (by omega) n5
       case measure=>simp [intOf];omega
    ·go_wp2_with fail
     refine bI ?_;intro p5 hn;have bp5:Bw wr p5:=by rw [hn];exact bE bp1 _
     have sp5:=bp1.size;have ltp5:p1.heap.size<p5.heap.size:=by rw [hn];simp
     have zp5:Blk p5 p1.heap.size #[.int .i64 j]:=by rw [hn];exact aC _ 3 _ rfl
     have ep5:=ep1.alloc (.cells #[.int .i64 j] 3);rw [← hn] at ep5;clear hn;refine aH bp5 ?_;refine bG 8 ?_
     ·have sp6:=bp5.size;refine aV (B:=wr.heap.size) (ys:=p) (ad:=⟨pb,0,none⟩) (c:=cp) ep5 sp6 (by simp;omega) (hi5.below bp5).addr rfl (.tmp 36) (.tmp 37) rfl rfl rfl ?_;intro vp6 p6 rp6 hp6 hgp6;rw [List.nil_append] at rp6;obtain ⟨Ap6,cp6,hvp6,-,-⟩:=rp6.form2;subst hvp6;go_wp2_with fail
      have bp6:Bw wr p6:=bp5.trans hp6;have zp6:=zp5.grown hgp6 (by simp [Value.ownBlock];omega);refine aH bp6 ?_;refine bG 11 ?_
      ·have sp7:=bp6.size;refine aV (B:=wr.heap.size) (xs:=p) (ys:=[(j:Int)]) (ad:=⟨p1.heap.size,0,none⟩) (c:=1) rp6 sp7 (by simp;omega) zp6.oneI rfl (.tmp 38) (.tmp 40) rfl rfl rfl ?_;intro vp7 p7 rp7 hp7 hgp7;rw [hqq.out] at rp7;obtain ⟨gp7,cp7,hvp7,hip7,hgBp7,hglp7,hgcp7⟩:=rp7.some_ hqn'.out;subst hvp7;go_wp2_with fail
       have bp7:Bw wr p7:=bp6.trans hp7;refine aH bp7 ?_;refine cY [13,14] (lB:=[_,_]) ?_;have hRw:=hR5.below bp7;have sw:=bp7.size;go_wp2_with (go_at_call 82;refine (ih k' n' ks' A' c' q gp7 cp7 ps5 A5 c5 p7 (by omega) (by omega) (by omega) (by omega) (by omega) (hr'.below bp7) hip7 hgcp7 hglp7 (fun e=>by have:=(how5 _ e).2;omega) hRw).mono ?_;rintro e w9 ⟨A9,c9,rfl,hR9,hg9,ho9⟩)
       go_roundw
       case rel=>
        have gw:w.grownBy p7 (Value.slice V ps.length cv).ownBlock:=aR g5 bp7;refine ⟨j+1,A9,c9,_,hlt,by go_num,by rw [List.length_append],?_,hR9,?_,fR gw o5 hg9,o5.trans ho9 gw.size,?_⟩
        ·rw [hplt'.out,← List.append_assoc,← hps5'.out]
        ·exact (hK5.keep bp7).grown hg9 (fun e=>n5 e.symm)
        ·exact ho9.ne (by omega) n5
       case measure=>simp [intOf];omega
   ·go_wp2_with fail
    refine bI ?_;intro p8 hn;have bp8:Bw wr p8:=by rw [hn];exact bE bq0 _
    have sp8:=bq0.size;have ltp8:q0.heap.size<p8.heap.size:=by rw [hn];simp
    have zp8:Blk p8 q0.heap.size #[.int .i64 j]:=by rw [hn];exact aC _ 3 _ rfl
    clear hn;refine aH bp8 ?_;refine bG 6 ?_
    ·go_wp2_with fail
     refine bI ?_;intro p9 hn;have bp9:Bw wr p9:=by rw [hn];exact bE bp8 _
     have sp9:=bp8.size;have ltp9:p8.heap.size<p9.heap.size:=by rw [hn];simp
     have ep9:RowI wr.heap.size p9 (.slice (some ⟨p8.heap.size,0,none⟩) 0 0) []:=by rw [hn];exact RowI.empty p8 bp8.size
     have zzp9:=zp8.alloc (.cells #[] 3);rw [← hn] at zzp9;clear hn;refine aH bp9 ?_;refine bG 8 ?_
     ·have sp10:=bp9.size;refine aV (B:=wr.heap.size) (ys:=p) (ad:=⟨pb,0,none⟩) (c:=cp) ep9 sp10 (by simp;omega) (hi5.below bp9).addr rfl (.tmp 36) (.tmp 37) rfl rfl rfl ?_;intro vp10 p10 rp10 hp10 hgp10;rw [List.nil_append] at rp10;obtain ⟨Ap10,cp10,hvp10,-,-⟩:=rp10.form2;subst hvp10;go_wp2_with fail
      have bp10:Bw wr p10:=bp9.trans hp10;have zp10:=zzp9.grown hgp10 (by simp [Value.ownBlock];omega);refine aH bp10 ?_;refine bG 11 ?_
      ·have sp11:=bp10.size;refine aV (B:=wr.heap.size) (xs:=p) (ys:=[(j:Int)]) (ad:=⟨q0.heap.size,0,none⟩) (c:=1) rp10 sp11 (by simp;omega) zp10.oneI rfl (.tmp 38) (.tmp 40) rfl rfl rfl ?_;intro vp11 p11 rp11 hp11 hgp11;rw [hqq.out] at rp11;obtain ⟨gp11,cp11,hvp11,hip11,hgBp11,hglp11,hgcp11⟩:=rp11.some_ hqn'.out;subst hvp11;go_wp2_with fail
       have bp11:Bw wr p11:=bp10.trans hp11;refine aH bp11 ?_;refine cY [13,14] (lB:=[_,_]) ?_;have hRw:=hR5.below bp11;have sw:=bp11.size;go_wp2_with (go_at_call 82;refine (ih k' n' ks' A' c' q gp11 cp11 ps5 A5 c5 p11 (by omega) (by omega) (by omega) (by omega) (by omega) (hr'.below bp11) hip11 hgcp11 hglp11 (fun e=>by have:=(how5 _ e).2;omega) hRw).mono ?_;rintro e w9 ⟨A9,c9,rfl,hR9,hg9,ho9⟩)
       go_roundw
       case rel=>
        have gw:w.grownBy p11 (Value.slice V ps.length cv).ownBlock:=aR g5 bp11;refine ⟨j+1,A9,c9,_,hlt,by go_num,by rw [List.length_append],?_,hR9,?_,fR gw o5 hg9,o5.trans ho9 gw.size,?_⟩
        ·rw [hplt'.out,← List.append_assoc,← hps5'.out]
        ·exact (hK5.keep bp11).grown hg9 (fun e=>n5 e.symm)
        ·exact ho9.ne (by omega) n5
       case measure=>simp [intOf];omega
  ·have hjl:j=ks.length:=by omega
   subst hjl;go_wp2_with fail
   go_ret
   have e:ps5=ps++jP eU p (.mk k n ks):=by rw [hps5'.out,hpt'.out,List.take_length];simp
   subst e;exact ⟨A5,c5,rfl,hR5,g5,o5⟩
theorem aNi (t:Tm):∀(p x:List Int),x∈jP eU p t→x.length≤p.length+t.size:=by
 refine (bM (p:=fun t=>∀(p x:List Int),x∈jP eU p t→x.length≤p.length+t.size) (q:=fun ts=>∀(p:List Int) (i:Nat) (x:List Int),x∈jC eU p i ts→x.length≤p.length+1+aG ts) ?_ ?_ ?_).1 t
 ·intro k n ks ih p x hx;rw [jP,if_pos (show eU (.mk k n ks)=true from rfl)] at hx;rw [Tm.size];rcases List.mem_append.1 hx with hx|hx
  ·rw [List.mem_singleton] at hx;subst hx;omega
  ·have:=ih p 0 x hx;omega
 ·intro p i x hx;rw [jC] at hx;cases hx
 ·intro t ts h1 h2 p i x hx;rw [jC] at hx;rw [aG];rcases List.mem_append.1 hx with hx|hx
  ·have:=h1 _ x hx;simp at this;omega
  ·have:=h2 p (i+1) x hx;omega
def aUe (w:World)(ps:List (List Int))(e:Ending)(w':World):Prop:=
 ∃g c,e = .returned (.slice (some ⟨g,0,none⟩) ps.length c)∧w.heap.size≤g∧g<w'.heap.size∧Bw w w'∧
  ∀j (hj:j<ps.length),∃P cp,w'.cell? ⟨g,j,none⟩=some (.slice P ps[j].length cp)∧RdI w' P ps[j]∧ps[j].length≤cp∧∀a,P=some a→w.heap.size≤a.block
theorem zF (k n:Int)(ks:List Tm)(A:Option Addr)(c:Nat)(w:World)(hv:aE (.mk k n ks)=true)(hr:Rd w A 0 ks) :
  Calls prog 51 #[.agg (Ro k n A ks.length c)] w (aUe w (jP eU [] (.mk k n ks))):=by
 have hlen:=aJ ks;have hzk:=cF hv;rw [Tm.size] at hzk;have hv':=aD hv;clear hv;go_enter func51,ntmps51;go_wp2_with (first
  | (go_at_call 82;refine sV ?_;intro wx hwx;have bx:Bw w1 wx:=(by rw [hwx];exact bE (bE (cW _) _) _);have hRx:RowP w.heap.size wx (.slice (some ⟨w1.heap.size,0,none⟩) 0 0) []:=(by rw [hwx];exact (RowP.empty w1 g1.size).alloc _);have lx1:w1.heap.size+1<wx.heap.size:=(by rw [hwx];simp);clear hwx;have rx:=((hr.rdp.mono (q:=fun b=>b<w.heap.size) (fun b hb=>hb)).below g1).below bx;refine (yW w.heap.size _ k n ks A c [] (w1.heap.size+1) 0 [] (some ⟨w1.heap.size,0,none⟩) 0 wx (nH _) (by omega) (by simp;omega) (by simp;omega) (by have:=g1.size;omega) rx (fun j hj=>absurd hj (Nat.not_lt_zero _)) (iD _) (by omega) (by simp [Value.ownBlock]) hRx).mono ?_;rintro e w2 ⟨A2,c2,rfl,hR2,hg2,ho2⟩)
  | (go_at_call 46;refine (aN k n ks A c _ (by omega) (hr.alloc _)).mono ?_;rw [hv'.out];rintro e w1 ⟨rfl,hb1⟩;have hX:=(aC w 25 (Ro k n A ks.length c) rfl).keep hb1;obtain ⟨x0,x1,x2⟩:=hX.three;have lX:=hX.lt;have lX1:w.heap.size<w1.heap.size+1:=(by omega);have g1:Bw w w1:=(bE (cW _) _).trans (hb1.mono (by simp))))
 go_ret
 rw [List.nil_append] at hR2;obtain ⟨vs,h1,h2⟩:=hR2;have s1:=g1.size;have sx:=bx.size;have hb2:Bw w w2:=by
  have hbx:=g1.trans (bx.mono s1);exact ⟨hg2.os.trans hbx.os,hg2.tape.trans hbx.tape,hg2.output.trans hbx.output,Nat.le_trans hbx.size hg2.size,fun i hi=>(hg2.block i (by omega) (by simp [Value.ownBlock];omega)).trans (hbx.block i hi)⟩
 have hln:(jP eU [] (.mk k n ks)).length≠0:=by rw [sG,Tm.size];omega
 rcases h1.2 with ⟨e,h0⟩|⟨g,cap,cur,e,hgB,hg,hn,hm,hs,htk⟩
 ·exact absurd h0 hln
 ·injection e with e1 e2 e3;subst e1 e3;refine ⟨g,c2,rfl,hgB,(Array.getElem?_eq_some_iff.1 hg).1,hb2,fun j hj=>?_⟩;obtain ⟨P,cp,e,hi,hcl,hne⟩:=h2 j hj;refine ⟨P,cp,?_,hi,hcl,fun a ha=>(hne a ha).1⟩;rw [cell_of_row w2 g j cur 26 (0,0) hg];rw [← htk,Nat.mul_one,List.getElem?_take,if_pos hj] at e;simpa using e
def xO (t:Tm):Bool:=decide (cT t.k t.kids≠0)
theorem aHm (B:Nat)(N:Nat):∀(k n:Int) (ks:List Tm) (A:Option Addr) (c:Nat) (p:List Int) (pb cp:Nat) (ps:List (List Int)) (V:Option Addr) (cv:Nat) (w:World),aE (.mk k n ks)=true→aG ks<N→aG ks≤1000→p.length+aG ks≤2000→ps.length+aG ks+1≤1000000→B≤w.heap.size→RdP (fun b=>b<B) w A 0 ks→RdI w (some ⟨pb,0,none⟩) p→p.length≤cp→pb<w.heap.size→(Value.slice V ps.length cv).ownBlock≠some pb→RowP B w (.slice V ps.length cv) ps→
  Calls prog 82 #[.slice V ps.length cv,.agg (Ro k n A ks.length c),.slice (some ⟨pb,0,none⟩) p.length cp,.bool true] w (aPn B (.slice V ps.length cv) w (ps++jP xO p (.mk k n ks))):=by
 induction N with
 | zero=>intro k n ks A c p pb cp ps V cv w hv hN;exact absurd hN (Nat.not_lt_zero _)
 | succ N ih=>
 intro k n ks A c p pb cp ps V cv w hv hN hM hpl hps hB hr hi hcp hpb hvp hR;have hlen:=aJ ks;have ha':=aD (eW hv);have hv':=aD hv;clear hv;have how:=hR.own;have hxx:∃P0:List (List Int),P0=(if xO (.mk k n ks)=true then [p] else []):=⟨_,rfl⟩;obtain ⟨P0,hP0⟩:=hxx;have hpt:jP xO p (.mk k n ks)=P0++jC xO p 0 ks:=by rw [jP,hP0]
 have hpt':=aD hpt;clear hpt;have hP1:P0.length≤1:=by rw [hP0];split<;>simp
 by_cases hx:cT k ks=0
 ·have hz':=aD hx;have hP2:P0=[]:=by rw [hP0,if_neg];simp [xO,Tm.k,Tm.kids,hx]
  clear hx hP0;have tokA:=trivial;go_enter func82,ntmps82;go_wp2_with (go_at_call 113;have _t:=tokA;refine (dI k n ks A c _ (by omega) ha'.out (hr.rd.alloc _)).mono ?_;rw [hz'.out];rintro e w0 ⟨rfl,hb0⟩;have hK0:=nJ hb0;have g0:Bw w w0:=(bE (cW _) _).trans (hb0.mono (by simp));have hi0:RdI w0 (some ⟨pb,0,none⟩) p:=hi.below g0;have hR0:RowP B w0 (.slice V ps.length cv) ps:=hR.below g0;have l0:=hK0.lt;have hr0:RdP (fun b=>b<B) w0 A 0 ks:=hr.below g0;have s0:=g0.size;obtain ⟨x0,x1,x2⟩:=hK0.three;have how0:=hR0.own;clear tokA _t;have tokB:=trivial)
  have g0g:=aR (gG w (Value.slice V ps.length cv).ownBlock) g0;have n0:(Value.slice V ps.length cv).ownBlock≠some w.heap.size:=fun e=>by have:=(how _ e).2;omega
  go_loopw [0,9] (fun vv iv wr=>∃(j:Nat) (A5:Option Addr) (c5:Nat) (ps5:List (List Int)),j≤ks.length∧iv = .int .i64 j∧vv = .slice A5 ps5.length c5∧ps5=ps++P0++jC xO p 0 (ks.take j)∧RowP B wr (.slice A5 ps5.length c5) ps5∧Blk wr w.heap.size (Ro k n A ks.length c)∧w.grownBy wr (Value.slice V ps.length cv).ownBlock∧OwnTo w (.slice V ps.length cv) (.slice A5 ps5.length c5)∧(Value.slice A5 ps5.length c5).ownBlock≠some w.heap.size)
   (fun _ iv _=>ks.length - (intOf iv).toNat)
  case atStart=>exact ⟨0,V,cv,ps,Nat.zero_le _,rfl,rfl,by rw [hP2];simp [jC],hR0,hK0,g0g,.inl rfl,n0⟩
  case round=>
   obtain ⟨j,A5,c5,ps5,hj,rfl,rfl,hps5,hR5,hK5,g5,o5,n5⟩:=hrel;have hpl5:ps5.length≤ps.length+1+aG ks:=by rw [hps5];have:=mZ xO (ks.take j) p 0;have:=eS ks j;rw [List.length_append,List.length_append];omega
   have hps5':=aD hps5;clear hps5;have s5:=g5.size;have how5:=hR5.own;have lK:=hK5.lt;have hr5:RdP (fun b=>b<B) _ A 0 ks:=hr.grown g5 (fun b hb e=>by have:=(how b e.symm).1;omega);have hi5:=hi.grown g5 (fun a ha e=>by injection ha with ha;subst ha;exact hvp e);have hvp5:(Value.slice A5 ps5.length c5).ownBlock≠some pb:=o5.ne hpb hvp;obtain ⟨x0,x1,x2⟩:=hK5.three;by_cases hlt:j<ks.length
   ·have hszj:=nV hlt;have hle:=eS ks (j+1);obtain ⟨b,off,k',n',ks',A',c',rfl,hkj,hbl,hc1,hc2,hc3',hl',hr'⟩:=hr5.atp hlt;rw [hkj] at hszj;have hvk:=aX hv'.out (fG hlt);rw [hkj] at hvk;have hvk':=aD hvk;clear hvk;simp only [Tm.size] at hszj
    have hplt:=nZ xO p hlt;rw [hkj] at hplt;obtain ⟨q,hq0⟩:∃q,p++[(j:Int)]=q:=⟨_,rfl⟩;have hqq:=aD hq0;have hql:q.length≤p.length+1:=by rw [← hq0];simp
    have hqn:q≠[]:=by rw [← hq0];simp
    have hqn':=aD hqn;rw [hq0] at hplt;clear hq0 hqn;have hplt':=aD hplt;have hq:=mZ xO (ks.take j) p 0;have hlps:ps5.length≤ps.length+1+aG (ks.take j):=by rw [hps5'.out,List.length_append,List.length_append];omega
    have hlj:(j:Int)<(ks.length:Int):=by omega
    clear hplt hkj;go_upto_region 6 with fail
    have y0:=aF hK5.three.2.2;obtain ⟨y1,y2,y3⟩:=pW hc1 hc2 hc3';clear x0 x1 x2 hc1 hc2 hc3';obtain ⟨q0,hq0⟩:∃q0,q0=wr.drew:=⟨_,rfl⟩;have bq0:Bw wr q0:=by rw [hq0];exact yO (cW _)
    refine gA (fun w'=>Bw wr w') [13,14] 15 (by kernel_rfl) rfl ?_;refine iH [0,1,2,3,4,5,7,9,12] (f:=6) (l':=#[true,true,true,true,true,true,false,true,false,true,false,false,true,false,false]) (lT:=[_,_,_,_,_,_,_,_,_]) (by rw [← hq0];exact bq0) rfl (by kernel_rfl) (by kernel_rfl) (by kernel_rfl) rfl (fun _ _ d _ _ h=>by cases d<;>exact h) ?_;refine cL (aD ?_);rw [← hq0];clear hq0 y0 y1 y2 y3;refine oC 6 10 ?_ ?_
    ·go_wp2_with fail
     refine bI ?_;intro p1 hn;have bp1:Bw wr p1:=by rw [hn];exact bE bq0 _
     have sp1:=bq0.size;have ltp1:q0.heap.size<p1.heap.size:=by rw [hn];simp
     have ep1:RowI wr.heap.size p1 (.slice (some ⟨q0.heap.size,0,none⟩) 0 0) []:=by rw [hn];exact RowI.empty q0 bq0.size
     clear hn;refine aH bp1 ?_;refine oC 8 10 ?_ ?_
     ·have sp2:=bp1.size;refine aV (B:=wr.heap.size) (ys:=p) (ad:=⟨pb,0,none⟩) (c:=cp) ep1 sp2 (by simp;omega) (hi5.below bp1).addr rfl (.tmp 36) (.tmp 37) rfl rfl rfl ?_;intro vp2 p2 rp2 hp2 hgp2;rw [List.nil_append] at rp2;obtain ⟨Ap2,cp2,hvp2,-,-⟩:=rp2.form2;subst hvp2;go_wp2_with fail
      have bp2:Bw wr p2:=bp1.trans hp2;refine aH bp2 ?_;refine bG 10 ?_
      ·go_wp2_with fail
       refine bI ?_;intro p3 hn;have bp3:Bw wr p3:=by rw [hn];exact bE bp2 _
       have sp3:=bp2.size;have ltp3:p2.heap.size<p3.heap.size:=by rw [hn];simp
       have zp3:Blk p3 p2.heap.size #[.int .i64 j]:=by rw [hn];exact aC _ 3 _ rfl
       have rp3:=rp2.alloc (.cells #[.int .i64 j] 3);rw [← hn] at rp3;clear hn;refine aH bp3 ?_;refine bG 11 ?_
       ·have sp4:=bp3.size;refine aV (B:=wr.heap.size) (xs:=p) (ys:=[(j:Int)]) (ad:=⟨p2.heap.size,0,none⟩) (c:=1) rp3 sp4 (by simp;omega) zp3.oneI rfl (.tmp 38) (.tmp 40) rfl rfl rfl ?_;intro vp4 p4 rp4 hp4 hgp4;rw [hqq.out] at rp4;obtain ⟨gp4,cp4,hvp4,hip4,hgBp4,hglp4,hgcp4⟩:=rp4.some_ hqn'.out;subst hvp4;go_wp2_with fail
        have bp4:Bw wr p4:=bp3.trans hp4;refine aH bp4 ?_;refine cY [13,14] (lB:=[_,_]) ?_;have hRw:=hR5.below bp4;have sw:=bp4.size;go_wp2_with (go_at_call 82;refine (ih k' n' ks' A' c' q gp4 cp4 ps5 A5 c5 p4 hvk'.out (by omega) (by omega) (by omega) (by omega) (by omega) (hr'.below bp4) hip4 hgcp4 hglp4 (fun e=>by have:=(how5 _ e).2;omega) hRw).mono ?_;rintro e w9 ⟨A9,c9,rfl,hR9,hg9,ho9⟩)
        go_roundw
        case rel=>
         have gw:w.grownBy p4 (Value.slice V ps.length cv).ownBlock:=aR g5 bp4;refine ⟨j+1,A9,c9,_,hlt,by go_num,by rw [List.length_append],?_,hR9,?_,fR gw o5 hg9,o5.trans ho9 gw.size,?_⟩
         ·rw [hplt'.out,← List.append_assoc,← hps5'.out]
         ·exact (hK5.keep bp4).grown hg9 (fun e=>n5 e.symm)
         ·exact ho9.ne (by omega) n5
        case measure=>simp [intOf];omega
     ·go_wp2_with fail
      refine bI ?_;intro p5 hn;have bp5:Bw wr p5:=by rw [hn];exact bE bp1 _
      have sp5:=bp1.size;have ltp5:p1.heap.size<p5.heap.size:=by rw [hn];simp
      have zp5:Blk p5 p1.heap.size #[.int .i64 j]:=by rw [hn];exact aC _ 3 _ rfl
      have ep5:=ep1.alloc (.cells #[.int .i64 j] 3);rw [← hn] at ep5;clear hn;refine aH bp5 ?_;refine bG 8 ?_
      ·have sp6:=bp5.size;refine aV (B:=wr.heap.size) (ys:=p) (ad:=⟨pb,0,none⟩) (c:=cp) ep5 sp6 (by simp;omega) (hi5.below bp5).addr rfl (.tmp 36) (.tmp 37) rfl rfl rfl ?_;intro vp6 p6 rp6 hp6 hgp6;rw [List.nil_append] at rp6;obtain ⟨Ap6,cp6,hvp6,-,-⟩:=rp6.form2;subst hvp6;go_wp2_with fail
       have bp6:Bw wr p6:=bp5.trans hp6;have zp6:=zp5.grown hgp6 (by simp [Value.ownBlock];omega);refine aH bp6 ?_;refine bG 11 ?_
       ·have sp7:=bp6.size;refine aV (B:=wr.heap.size) (xs:=p) (ys:=[(j:Int)]) (ad:=⟨p1.heap.size,0,none⟩) (c:=1) rp6 sp7 (by simp;omega) zp6.oneI rfl (.tmp 38) (.tmp 40) rfl rfl rfl ?_;intro vp7 p7 rp7 hp7 hgp7;rw [hqq.out] at rp7;obtain ⟨gp7,cp7,hvp7,hip7,hgBp7,hglp7,hgcp7⟩:=rp7.some_ hqn'.out;subst hvp7;go_wp2_with fail
        have bp7:Bw wr p7:=bp6.trans hp7;refine aH bp7 ?_;refine cY [13,14] (lB:=[_,_]) ?_;have hRw:=hR5.below bp7;have sw:=bp7.size;go_wp2_with (go_at_call 82;refine (ih k' n' ks' A' c' q gp7 cp7 ps5 A5 c5 p7 hvk'.out (by omega) (by omega) (by omega) (by omega) (by omega) (hr'.below bp7) hip7 hgcp7 hglp7 (fun e=>by have:=(how5 _ e).2;omega) hRw).mono ?_;rintro e w9 ⟨A9,c9,rfl,hR9,hg9,ho9⟩)
        go_roundw
        case rel=>
         have gw:w.grownBy p7 (Value.slice V ps.length cv).ownBlock:=aR g5 bp7;refine ⟨j+1,A9,c9,_,hlt,by go_num,by rw [List.length_append],?_,hR9,?_,fR gw o5 hg9,o5.trans ho9 gw.size,?_⟩
         ·rw [hplt'.out,← List.append_assoc,← hps5'.out]
         ·exact (hK5.keep bp7).grown hg9 (fun e=>n5 e.symm)
         ·exact ho9.ne (by omega) n5
        case measure=>simp [intOf];omega
    ·go_wp2_with fail
     refine bI ?_;intro p8 hn;have bp8:Bw wr p8:=by rw [hn];exact bE bq0 _
     have sp8:=bq0.size;have ltp8:q0.heap.size<p8.heap.size:=by rw [hn];simp
     have zp8:Blk p8 q0.heap.size #[.int .i64 j]:=by rw [hn];exact aC _ 3 _ rfl
     clear hn;refine aH bp8 ?_;refine bG 6 ?_
     ·go_wp2_with fail
      refine bI ?_;intro p9 hn;have bp9:Bw wr p9:=by rw [hn];exact bE bp8 _
      have sp9:=bp8.size;have ltp9:p8.heap.size<p9.heap.size:=by rw [hn];simp
      have ep9:RowI wr.heap.size p9 (.slice (some ⟨p8.heap.size,0,none⟩) 0 0) []:=by rw [hn];exact RowI.empty p8 bp8.size
      have zzp9:=zp8.alloc (.cells #[] 3);rw [← hn] at zzp9;clear hn;refine aH bp9 ?_;refine bG 8 ?_
      ·have sp10:=bp9.size;refine aV (B:=wr.heap.size) (ys:=p) (ad:=⟨pb,0,none⟩) (c:=cp) ep9 sp10 (by simp;omega) (hi5.below bp9).addr rfl (.tmp 36) (.tmp 37) rfl rfl rfl ?_;intro vp10 p10 rp10 hp10 hgp10;rw [List.nil_append] at rp10;obtain ⟨Ap10,cp10,hvp10,-,-⟩:=rp10.form2;subst hvp10;go_wp2_with fail
       have bp10:Bw wr p10:=bp9.trans hp10;have zp10:=zzp9.grown hgp10 (by simp [Value.ownBlock];omega);refine aH bp10 ?_;refine bG 11 ?_
       ·have sp11:=bp10.size;refine aV (B:=wr.heap.size) (xs:=p) (ys:=[(j:Int)]) (ad:=⟨q0.heap.size,0,none⟩) (c:=1) rp10 sp11 (by simp;omega) zp10.oneI rfl (.tmp 38) (.tmp 40) rfl rfl rfl ?_;intro vp11 p11 rp11 hp11 hgp11;rw [hqq.out] at rp11;obtain ⟨gp11,cp11,hvp11,hip11,hgBp11,hglp11,hgcp11⟩:=rp11.some_ hqn'.out;subst hvp11;go_wp2_with fail
        have bp11:Bw wr p11:=bp10.trans hp11;refine aH bp11 ?_;refine cY [13,14] (lB:=[_,_]) ?_;have hRw:=hR5.below bp11;have sw:=bp11.size;go_wp2_with (go_at_call 82;refine (ih k' n' ks' A' c' q gp11 cp11 ps5 A5 c5 p11 hvk'.out (by omega) (by omega) (by omega) (by omega) (by omega) (hr'.below bp11) hip11 hgcp11 hglp11 (fun e=>by have:=(how5 _ e).2;omega) hRw).mono ?_;rintro e w9 ⟨A9,c9,rfl,hR9,hg9,ho9⟩)
        go_roundw
        case rel=>
         have gw:w.grownBy p11 (Value.slice V ps.length cv).ownBlock:=aR g5 bp11;refine ⟨j+1,A9,c9,_,hlt,by go_num,by rw [List.length_append],?_,hR9,?_,fR gw o5 hg9,o5.trans ho9 gw.size,?_⟩
         ·rw [hplt'.out,← List.append_assoc,← hps5'.out]
         ·exact (hK5.keep bp11).grown hg9 (fun e=>n5 e.symm)
         ·exact ho9.ne (by omega) n5
        case measure=>simp [intOf];omega
   ·have hjl:j=ks.length:=by omega
    subst hjl;go_wp2_with fail
    go_ret
    have e:ps5=ps++jP xO p (.mk k n ks):=by rw [hps5'.out,hpt'.out,List.take_length,List.append_assoc]
    subst e;exact ⟨A5,c5,rfl,hR5,g5,o5⟩
 ·obtain ⟨r,hr9⟩:∃r,cT k ks=r:=⟨_,rfl⟩;have hP2:P0=[p]:=by rw [hP0,if_pos];simp [xO,Tm.k,Tm.kids,hx]
  rw [hr9] at hx;have hx2:(r==0)=false:=by simpa using hx
  have hz':=aD hr9;clear hr9 hP0;have tokA:=trivial;go_enter func82,ntmps82;go_wp2_with (first
   | (go_at_call 113;have _t:=tokA;refine (dI k n ks A c _ (by omega) ha'.out (hr.rd.alloc _)).mono ?_;rw [hz'.out];rintro e w0 ⟨rfl,hb0⟩;have hK0:=nJ hb0;have g0:Bw w w0:=(bE (cW _) _).trans (hb0.mono (by simp));have hi0:RdI w0 (some ⟨pb,0,none⟩) p:=hi.below g0;have hR0:RowP B w0 (.slice V ps.length cv) ps:=hR.below g0;have l0:=hK0.lt;have hr0:RdP (fun b=>b<B) w0 A 0 ks:=hr.below g0;have s0:=g0.size;obtain ⟨x0,x1,x2⟩:=hK0.three;have how0:=hR0.own;clear tokA _t;have tokB:=trivial)
   | (at_builtin;have _t:=tokB;refine lM ?_;intro wa hwa;have ba:Bw w0 wa:=(by rw [hwa];exact bE (cW _) _);have hRa:RowI w0.heap.size wa (.slice (some ⟨w0.heap.size,0,none⟩) 0 0) []:=(by rw [hwa];exact RowI.empty w0 (iD _));have hia:RdI wa (some ⟨pb,0,none⟩) p:=(by rw [hwa];exact hi0.alloc _);have hKa:Blk wa w.heap.size (Ro k n A ks.length c):=hK0.keep ba;have hRoa:RowP B wa (.slice V ps.length cv) ps:=hR0.below ba;have sa:w0.heap.size<wa.heap.size:=(by rw [hwa];simp);clear hwa;refine aV (B:=w0.heap.size) (ys:=p) (ad:=⟨pb,0,none⟩) (c:=cp) hRa (by omega) (by simp;omega) hia.addr rfl (.tmp 18) (.tmp 19) rfl rfl rfl ?_;intro v3 w1 hR3 hb3 hg3;rw [List.nil_append] at hR3;obtain ⟨A3,c3,rfl,hi3,hn3⟩:=hR3.form2;have hc3:=hR3.cap;have b1:=ba.trans hb3;have hK1:=hK0.keep b1;have hR1:RowP B w1 (.slice V ps.length cv) ps:=hR0.below b1;have s1:=hb3.size;clear tokB _t;have tokC:=trivial)
   | (at_builtin;have _t:=tokC;refine lM ?_;intro wx hwx;have hBx:Blk wx w1.heap.size #[.slice A3 p.length c3]:=(by rw [hwx];exact aC _ _ _ rfl);have hRx:RowP B wx (.slice V ps.length cv) ps:=(by rw [hwx];exact hR1.alloc _);have hix:RdI wx A3 p:=(by rw [hwx];exact hi3.alloc _);have hKx:Blk wx w.heap.size (Ro k n A ks.length c):=(by rw [hwx];exact hK1.alloc _);have bx:Bw w0 wx:=(by rw [hwx];exact bE b1 _);clear hwx;have sx:=hBx.lt;refine kH (B:=B) hRx (by omega) rfl (by omega) hix hc3.1 (fun a ha=>⟨by have:=(hn3 a ha).1;omega,fun e=>by have:=(how0 _ e).2;have:=(hn3 a ha).1;omega,by have:=(hn3 a ha).2;omega⟩) _ 1 hBx rfl (.tmp 17) (.tmp 21) rfl rfl rfl ?_;intro A4 c4 w2 hR2 hg2 ho2;have hK2:=hKx.grown hg2 (fun e=>by have:=(how _ e.symm).2;omega);have g2:=eM (aR (gG _ _) (g0.trans (bx.mono s0))) hg2;have o2:OwnTo w (.slice V ps.length cv) (.slice A4 (ps.length+1) c4):=ho2.imp id (fun ⟨g,h1,h2⟩=>⟨g,by omega,h2⟩);have n2:(Value.slice A4 (ps.length+1) c4).ownBlock≠some w.heap.size:=(ho2.ne (by omega) (fun e=>by have:=(how _ e).2;omega));clear tokC _t))
  go_loopw [0,9] (fun vv iv wr=>∃(j:Nat) (A5:Option Addr) (c5:Nat) (ps5:List (List Int)),j≤ks.length∧iv = .int .i64 j∧vv = .slice A5 ps5.length c5∧ps5=ps++P0++jC xO p 0 (ks.take j)∧RowP B wr (.slice A5 ps5.length c5) ps5∧Blk wr w.heap.size (Ro k n A ks.length c)∧w.grownBy wr (Value.slice V ps.length cv).ownBlock∧OwnTo w (.slice V ps.length cv) (.slice A5 ps5.length c5)∧(Value.slice A5 ps5.length c5).ownBlock≠some w.heap.size)
   (fun _ iv _=>ks.length - (intOf iv).toNat)
  case atStart=>exact ⟨0,A4,c4,ps++[p],Nat.zero_le _,rfl,by simp,by rw [hP2];simp [jC],by simpa using hR2,hK2,g2,by simpa using o2,by simpa using n2⟩
  case round=>
   obtain ⟨j,A5,c5,ps5,hj,rfl,rfl,hps5,hR5,hK5,g5,o5,n5⟩:=hrel;have hpl5:ps5.length≤ps.length+1+aG ks:=by rw [hps5];have:=mZ xO (ks.take j) p 0;have:=eS ks j;rw [List.length_append,List.length_append];omega
   have hps5':=aD hps5;clear hps5;have s5:=g5.size;have how5:=hR5.own;have lK:=hK5.lt;have hr5:RdP (fun b=>b<B) _ A 0 ks:=hr.grown g5 (fun b hb e=>by have:=(how b e.symm).1;omega);have hi5:=hi.grown g5 (fun a ha e=>by injection ha with ha;subst ha;exact hvp e);have hvp5:(Value.slice A5 ps5.length c5).ownBlock≠some pb:=o5.ne hpb hvp;obtain ⟨x0,x1,x2⟩:=hK5.three;by_cases hlt:j<ks.length
   ·have hszj:=nV hlt;have hle:=eS ks (j+1);obtain ⟨b,off,k',n',ks',A',c',rfl,hkj,hbl,hc1,hc2,hc3',hl',hr'⟩:=hr5.atp hlt;rw [hkj] at hszj;have hvk:=aX hv'.out (fG hlt);rw [hkj] at hvk;have hvk':=aD hvk;clear hvk;simp only [Tm.size] at hszj
    have hplt:=nZ xO p hlt;rw [hkj] at hplt;obtain ⟨q,hq0⟩:∃q,p++[(j:Int)]=q:=⟨_,rfl⟩;have hqq:=aD hq0;have hql:q.length≤p.length+1:=by rw [← hq0];simp
    have hqn:q≠[]:=by rw [← hq0];simp
    have hqn':=aD hqn;rw [hq0] at hplt;clear hq0 hqn;have hplt':=aD hplt;have hq:=mZ xO (ks.take j) p 0;have hlps:ps5.length≤ps.length+1+aG (ks.take j):=by rw [hps5'.out,List.length_append,List.length_append];omega
    have hlj:(j:Int)<(ks.length:Int):=by omega
    clear hplt hkj;go_upto_region 6 with fail
    have y0:=aF hK5.three.2.2;obtain ⟨y1,y2,y3⟩:=pW hc1 hc2 hc3';clear x0 x1 x2 hc1 hc2 hc3';obtain ⟨q0,hq0⟩:∃q0,q0=wr.drew:=⟨_,rfl⟩;have bq0:Bw wr q0:=by rw [hq0];exact yO (cW _)
    refine gA (fun w'=>Bw wr w') [13,14] 15 (by kernel_rfl) rfl ?_;refine iH [0,1,2,3,4,5,7,9,12] (f:=6) (l':=#[true,true,true,true,true,true,false,true,false,true,false,false,true,false,false]) (lT:=[_,_,_,_,_,_,_,_,_]) (by rw [← hq0];exact bq0) rfl (by kernel_rfl) (by kernel_rfl) (by kernel_rfl) rfl (fun _ _ d _ _ h=>by cases d<;>exact h) ?_;refine cL (aD ?_);rw [← hq0];clear hq0 y0 y1 y2 y3;refine oC 6 10 ?_ ?_
    ·go_wp2_with fail
     refine bI ?_;intro p1 hn;have bp1:Bw wr p1:=by rw [hn];exact bE bq0 _
     have sp1:=bq0.size;have ltp1:q0.heap.size<p1.heap.size:=by rw [hn];simp
     have ep1:RowI wr.heap.size p1 (.slice (some ⟨q0.heap.size,0,none⟩) 0 0) []:=by rw [hn];exact RowI.empty q0 bq0.size
     clear hn;refine aH bp1 ?_;refine oC 8 10 ?_ ?_
     ·have sp2:=bp1.size;refine aV (B:=wr.heap.size) (ys:=p) (ad:=⟨pb,0,none⟩) (c:=cp) ep1 sp2 (by simp;omega) (hi5.below bp1).addr rfl (.tmp 36) (.tmp 37) rfl rfl rfl ?_;intro vp2 p2 rp2 hp2 hgp2;rw [List.nil_append] at rp2;obtain ⟨Ap2,cp2,hvp2,-,-⟩:=rp2.form2;subst hvp2;go_wp2_with fail
      have bp2:Bw wr p2:=bp1.trans hp2;refine aH bp2 ?_;refine bG 10 ?_
      ·go_wp2_with fail
       refine bI ?_;intro p3 hn;have bp3:Bw wr p3:=by rw [hn];exact bE bp2 _
       have sp3:=bp2.size;have ltp3:p2.heap.size<p3.heap.size:=by rw [hn];simp
       have zp3:Blk p3 p2.heap.size #[.int .i64 j]:=by rw [hn];exact aC _ 3 _ rfl
       have rp3:=rp2.alloc (.cells #[.int .i64 j] 3);rw [← hn] at rp3;clear hn;refine aH bp3 ?_;refine bG 11 ?_
       ·have sp4:=bp3.size;refine aV (B:=wr.heap.size) (xs:=p) (ys:=[(j:Int)]) (ad:=⟨p2.heap.size,0,none⟩) (c:=1) rp3 sp4 (by simp;omega) zp3.oneI rfl (.tmp 38) (.tmp 40) rfl rfl rfl ?_;intro vp4 p4 rp4 hp4 hgp4;rw [hqq.out] at rp4;obtain ⟨gp4,cp4,hvp4,hip4,hgBp4,hglp4,hgcp4⟩:=rp4.some_ hqn'.out;subst hvp4;go_wp2_with fail
        have bp4:Bw wr p4:=bp3.trans hp4;refine aH bp4 ?_;refine cY [13,14] (lB:=[_,_]) ?_;have hRw:=hR5.below bp4;have sw:=bp4.size;go_wp2_with (go_at_call 82;refine (ih k' n' ks' A' c' q gp4 cp4 ps5 A5 c5 p4 hvk'.out (by omega) (by omega) (by omega) (by omega) (by omega) (hr'.below bp4) hip4 hgcp4 hglp4 (fun e=>by have:=(how5 _ e).2;omega) hRw).mono ?_;rintro e w9 ⟨A9,c9,rfl,hR9,hg9,ho9⟩)
        go_roundw
        case rel=>
         have gw:w.grownBy p4 (Value.slice V ps.length cv).ownBlock:=aR g5 bp4;refine ⟨j+1,A9,c9,_,hlt,by go_num,by rw [List.length_append],?_,hR9,?_,fR gw o5 hg9,o5.trans ho9 gw.size,?_⟩
         ·rw [hplt'.out,← List.append_assoc,← hps5'.out]
         ·exact (hK5.keep bp4).grown hg9 (fun e=>n5 e.symm)
         ·exact ho9.ne (by omega) n5
        case measure=>simp [intOf];omega
     ·go_wp2_with fail
      refine bI ?_;intro p5 hn;have bp5:Bw wr p5:=by rw [hn];exact bE bp1 _
      have sp5:=bp1.size;have ltp5:p1.heap.size<p5.heap.size:=by rw [hn];simp
      have zp5:Blk p5 p1.heap.size #[.int .i64 j]:=by rw [hn];exact aC _ 3 _ rfl
      have ep5:=ep1.alloc (.cells #[.int .i64 j] 3);rw [← hn] at ep5;clear hn;refine aH bp5 ?_;refine bG 8 ?_
      ·have sp6:=bp5.size;refine aV (B:=wr.heap.size) (ys:=p) (ad:=⟨pb,0,none⟩) (c:=cp) ep5 sp6 (by simp;omega) (hi5.below bp5).addr rfl (.tmp 36) (.tmp 37) rfl rfl rfl ?_;intro vp6 p6 rp6 hp6 hgp6;rw [List.nil_append] at rp6;obtain ⟨Ap6,cp6,hvp6,-,-⟩:=rp6.form2;subst hvp6;go_wp2_with fail
       have bp6:Bw wr p6:=bp5.trans hp6;have zp6:=zp5.grown hgp6 (by simp [Value.ownBlock];omega);refine aH bp6 ?_;refine bG 11 ?_
       ·have sp7:=bp6.size;refine aV (B:=wr.heap.size) (xs:=p) (ys:=[(j:Int)]) (ad:=⟨p1.heap.size,0,none⟩) (c:=1) rp6 sp7 (by simp;omega) zp6.oneI rfl (.tmp 38) (.tmp 40) rfl rfl rfl ?_;intro vp7 p7 rp7 hp7 hgp7;rw [hqq.out] at rp7;obtain ⟨gp7,cp7,hvp7,hip7,hgBp7,hglp7,hgcp7⟩:=rp7.some_ hqn'.out;subst hvp7;go_wp2_with fail
        have bp7:Bw wr p7:=bp6.trans hp7;refine aH bp7 ?_;refine cY [13,14] (lB:=[_,_]) ?_;have hRw:=hR5.below bp7;have sw:=bp7.size;go_wp2_with (go_at_call 82;refine (ih k' n' ks' A' c' q gp7 cp7 ps5 A5 c5 p7 hvk'.out (by omega) (by omega) (by omega) (by omega) (by omega) (hr'.below bp7) hip7 hgcp7 hglp7 (fun e=>by have:=(how5 _ e).2;omega) hRw).mono ?_;rintro e w9 ⟨A9,c9,rfl,hR9,hg9,ho9⟩)
        go_roundw
        case rel=>
         have gw:w.grownBy p7 (Value.slice V ps.length cv).ownBlock:=aR g5 bp7;refine ⟨j+1,A9,c9,_,hlt,by go_num,by rw [List.length_append],?_,hR9,?_,fR gw o5 hg9,o5.trans ho9 gw.size,?_⟩
         ·rw [hplt'.out,← List.append_assoc,← hps5'.out]
         ·exact (hK5.keep bp7).grown hg9 (fun e=>n5 e.symm)
         ·exact ho9.ne (by omega) n5
        case measure=>simp [intOf];omega
    ·go_wp2_with fail
     refine bI ?_;intro p8 hn;have bp8:Bw wr p8:=by rw [hn];exact bE bq0 _
     have sp8:=bq0.size;have ltp8:q0.heap.size<p8.heap.size:=by rw [hn];simp
     have zp8:Blk p8 q0.heap.size #[.int .i64 j]:=by rw [hn];exact aC _ 3 _ rfl
     clear hn;refine aH bp8 ?_;refine bG 6 ?_
     ·go_wp2_with fail
      refine bI ?_;intro p9 hn;have bp9:Bw wr p9:=by rw [hn];exact bE bp8 _
      have sp9:=bp8.size;have ltp9:p8.heap.size<p9.heap.size:=by rw [hn];simp
      have ep9:RowI wr.heap.size p9 (.slice (some ⟨p8.heap.size,0,none⟩) 0 0) []:=by rw [hn];exact RowI.empty p8 bp8.size
      have zzp9:=zp8.alloc (.cells #[] 3);rw [← hn] at zzp9;clear hn;refine aH bp9 ?_;refine bG 8 ?_
      ·have sp10:=bp9.size;refine aV (B:=wr.heap.size) (ys:=p) (ad:=⟨pb,0,none⟩) (c:=cp) ep9 sp10 (by simp;omega) (hi5.below bp9).addr rfl (.tmp 36) (.tmp 37) rfl rfl rfl ?_;intro vp10 p10 rp10 hp10 hgp10;rw [List.nil_append] at rp10;obtain ⟨Ap10,cp10,hvp10,-,-⟩:=rp10.form2;subst hvp10;go_wp2_with fail
       have bp10:Bw wr p10:=bp9.trans hp10;have zp10:=zzp9.grown hgp10 (by simp [Value.ownBlock];omega);refine aH bp10 ?_;refine bG 11 ?_
       ·have sp11:=bp10.size;refine aV (B:=wr.heap.size) (xs:=p) (ys:=[(j:Int)]) (ad:=⟨q0.heap.size,0,none⟩) (c:=1) rp10 sp11 (by simp;omega) zp10.oneI rfl (.tmp 38) (.tmp 40) rfl rfl rfl ?_;intro vp11 p11 rp11 hp11 hgp11;rw [hqq.out] at rp11;obtain ⟨gp11,cp11,hvp11,hip11,hgBp11,hglp11,hgcp11⟩:=rp11.some_ hqn'.out;subst hvp11;go_wp2_with fail
        have bp11:Bw wr p11:=bp10.trans hp11;refine aH bp11 ?_;refine cY [13,14] (lB:=[_,_]) ?_;have hRw:=hR5.below bp11;have sw:=bp11.size;go_wp2_with (go_at_call 82;refine (ih k' n' ks' A' c' q gp11 cp11 ps5 A5 c5 p11 hvk'.out (by omega) (by omega) (by omega) (by omega) (by omega) (hr'.below bp11) hip11 hgcp11 hglp11 (fun e=>by have:=(how5 _ e).2;omega) hRw).mono ?_;rintro e w9 ⟨A9,c9,rfl,hR9,hg9,ho9⟩)
        go_roundw
        case rel=>
         have gw:w.grownBy p11 (Value.slice V ps.length cv).ownBlock:=aR g5 bp11;refine ⟨j+1,A9,c9,_,hlt,by go_num,by rw [List.length_append],?_,hR9,?_,fR gw o5 hg9,o5.trans ho9 gw.size,?_⟩
         ·rw [hplt'.out,← List.append_assoc,← hps5'.out]
         ·exact (hK5.keep bp11).grown hg9 (fun e=>n5 e.symm)
         ·exact ho9.ne (by omega) n5
        case measure=>simp [intOf];omega
   ·have hjl:j=ks.length:=by omega
    subst hjl;go_wp2_with fail
    go_ret
    have e:ps5=ps++jP xO p (.mk k n ks):=by rw [hps5'.out,hpt'.out,List.take_length,List.append_assoc]
    subst e;exact ⟨A5,c5,rfl,hR5,g5,o5⟩
def RdPF (B:Nat)(w:World)(A:Option Addr)(ps:List (List Int)):Prop:=∀j (hj:j<ps.length),∃b off P c,A=some ⟨b,off,none⟩∧B≤b∧w.cell? ⟨b,off+j,none⟩=some (.slice P ps[j].length c)∧RdI w P ps[j]∧ps[j].length≤c∧∀a,P=some a→B≤a.block
theorem RowP.formF {B:Nat}{w:World}{v:Value}{ps:List (List Int)}(h:RowP B w v ps):∃A c,v = .slice A ps.length c∧RdPF B w A ps:=by
 obtain ⟨vs,h1,h2⟩:=h;rcases h1.2 with ⟨rfl,h0⟩|⟨g,cap,cur,rfl,hb,hg,hn,hm,hs,htk⟩
 ·have:ps=[]:=lEn h0;subst this;exact ⟨none,0,rfl,fun j hj=>absurd hj (Nat.not_lt_zero _)⟩
 ·refine ⟨some ⟨g,0,none⟩,cap,rfl,fun j hj=>?_⟩;obtain ⟨A,c,e,hi,hcl,hne⟩:=h2 j hj;refine ⟨g,0,A,c,rfl,hb,?_,hi,hcl,fun a ha=>(hne a ha).1⟩;rw [Nat.zero_add,cell_of_row w g j cur 26 (0,0) hg];rw [← htk,Nat.mul_one,List.getElem?_take,if_pos hj] at e;simpa using e
theorem RdPF.below {B:Nat}{w w':World}{A:Option Addr}{ps:List (List Int)}(h:RdPF B w A ps)(hb:Bw w w'):RdPF B w' A ps:=fun j hj=>by
 obtain ⟨b,off,P,c,hA,h1,hc,hi,hcl,h2⟩:=h j hj;have hk:Keeps w w':=.of_below hb;exact ⟨b,off,P,c,hA,h1,hk _ _ hc,hi.keeps hk,hcl,h2⟩
theorem RdPF.grown {B r:Nat}{w w':World}{A:Option Addr}{ps:List (List Int)}(h:RdPF B w A ps)(hb:w.grownBy w' (some r))(hr:r<B):RdPF B w' A ps:=fun j hj=>by
 obtain ⟨b,off,P,c,hA,h1,hc,hi,hcl,h2⟩:=h j hj;refine ⟨b,off,P,c,hA,h1,?_,hi.grown hb (fun a ha e=>by have:=h2 a ha;injection e;omega),hcl,h2⟩;exact (World.cell?_of_block (w:=w) (a:=⟨b,off+j,none⟩) (hb.block b (jN w _ hc) (fun e=>by injection e;omega))).trans hc
theorem RdPF.at_ {B:Nat}{w:World}{A:Option Addr}{ps:List (List Int)}(h:RdPF B w A ps)(j:Nat)(hj:j<ps.length):∃b off P c xs,A=some ⟨b,off,none⟩∧B≤b∧xs∈ps∧w.cell? ⟨b,off+j,none⟩=some (.slice P xs.length c)∧RdI w P xs∧xs.length≤c∧∀a,P=some a→B≤a.block:=by
 obtain ⟨b,off,P,c,hA,h1,hc,hi,hcl,h2⟩:=h j hj;exact ⟨b,off,P,c,ps[j],hA,h1,fG hj,hc,hi,hcl,h2⟩
mutual
theorem aEk (f:Tm→Bool):∀(t:Tm) (p x:List Int),x∈jP f p t→x∈jP eU p t
 | .mk k n ks,p,x,h=>by
  rw [jP,if_pos (show eU (.mk k n ks)=true from rfl)];rw [jP] at h;rcases List.mem_append.1 h with h|h
  ·split at h
   ·exact List.mem_append.2 (.inl h)
   ·cases h
  ·exact List.mem_append.2 (.inr (aDz f ks p 0 x h))
theorem aDz (f:Tm→Bool):∀(ts:List Tm) (p:List Int) (i:Nat) (x:List Int),x∈jC f p i ts→x∈jC eU p i ts
 | [],p,i,x,h=>by rw [jC] at h;cases h
 | t::ts,p,i,x,h=>by
  rw [jC] at h⊢;rcases List.mem_append.1 h with h|h
  ·exact List.mem_append.2 (.inl (aEk f t _ x h))
  ·exact List.mem_append.2 (.inr (aDz f ts _ _ x h))
end
theorem uX (k n:Int)(ks:List Tm)(A:Option Addr)(c:Nat)(w:World)(hv:aE (.mk k n ks)=true)(hr:Rd w A 0 ks) :
  Calls prog 52 #[.agg (Ro k n A ks.length c)] w (fun e w'=>∃g c2,e = .returned (.slice g (jP xO [] (.mk k n ks)).length c2)∧Bw w w'∧RdPF w.heap.size w' g (jP xO [] (.mk k n ks))):=by
 have hlen:=aJ ks;have hzk:=cF hv;rw [Tm.size] at hzk;have hv':=aD hv;clear hv;go_enter func52,ntmps52;go_wp2_with (first
  | (go_at_call 82;refine sV ?_;intro wx hwx;have bx:Bw w1 wx:=(by rw [hwx];exact bE (bE (cW _) _) _);have hRx:RowP w.heap.size wx (.slice (some ⟨w1.heap.size,0,none⟩) 0 0) []:=(by rw [hwx];exact (RowP.empty w1 g1.size).alloc _);have lx1:w1.heap.size+1<wx.heap.size:=(by rw [hwx];simp);clear hwx;have rx:=((hr.rdp.mono (q:=fun b=>b<w.heap.size) (fun b hb=>hb)).below g1).below bx;refine (aHm w.heap.size _ k n ks A c [] (w1.heap.size+1) 0 [] (some ⟨w1.heap.size,0,none⟩) 0 wx hv'.out (nH _) (by omega) (by simp;omega) (by simp;omega) (by have:=g1.size;omega) rx (fun j hj=>absurd hj (Nat.not_lt_zero _)) (iD _) (by omega) (by simp [Value.ownBlock]) hRx).mono ?_;rintro e w2 ⟨A2,c2,rfl,hR2,hg2,ho2⟩)
  | (go_at_call 46;refine (aN k n ks A c _ (by omega) (hr.alloc _)).mono ?_;rw [hv'.out];rintro e w1 ⟨rfl,hb1⟩;have hX:=(aC w 25 (Ro k n A ks.length c) rfl).keep hb1;obtain ⟨x0,x1,x2⟩:=hX.three;have lX:=hX.lt;have lX1:w.heap.size<w1.heap.size+1:=(by omega);have g1:Bw w w1:=(bE (cW _) _).trans (hb1.mono (by simp))))
 go_ret
 rw [List.nil_append] at hR2;have s1:=g1.size;have sx:=bx.size;have hb2:Bw w w2:=by
  have hbx:=g1.trans (bx.mono s1);exact ⟨hg2.os.trans hbx.os,hg2.tape.trans hbx.tape,hg2.output.trans hbx.output,Nat.le_trans hbx.size hg2.size,fun i hi=>(hg2.block i (by omega) (by simp [Value.ownBlock];omega)).trans (hbx.block i hi)⟩
 obtain ⟨A3,c3,e3,h3⟩:=hR2.formF;injection e3 with e4 e5 e6;subst e4 e6;exact ⟨A2,c2,rfl,hb2,h3⟩
theorem RdPF.mono {B B':Nat}{w:World}{A:Option Addr}{ps:List (List Int)}(h:RdPF B w A ps)(hB:B'≤B):RdPF B' w A ps:=fun j hj=>by
 obtain ⟨b,off,P,c,hA,h1,hc,hi,hcl,h2⟩:=h j hj;exact ⟨b,off,P,c,hA,by omega,hc,hi,hcl,fun a ha=>by have:=h2 a ha;omega⟩
theorem tC (k n:Int)(ks:List Tm)(A:Option Addr)(c:Nat)(w:World)(hv:aE (.mk k n ks)=true)(hr:Rd w A 0 ks) :
  Calls prog 51 #[.agg (Ro k n A ks.length c)] w (fun e w'=>∃g c2,e = .returned (.slice (some ⟨g,0,none⟩) (jP eU [] (.mk k n ks)).length c2)∧Bw w w'∧RdPF w.heap.size w' (some ⟨g,0,none⟩) (jP eU [] (.mk k n ks))):=by
 refine (zF k n ks A c w hv hr).mono ?_;rintro e w1 ⟨g,c1,rfl,hgB,hgl,hb1,hrow⟩;refine ⟨g,c1,rfl,hb1,fun j hj=>?_⟩;obtain ⟨P,cp,h1,h2,h3,h4⟩:=hrow j hj;exact ⟨g,0,P,cp,rfl,hgB,by simpa using h1,h2,h3,fun a ha=>h4 a ha⟩
def aRk (B:Nat)(w:World)(r p:Nat)(e:Ending)(w':World):Prop:=
 ∃(P:Option Addr) (xs:List Int) (cp p':Nat),e = .returned (.slice P xs.length cp)∧xs.length≤cp∧xs.length≤401∧RdI w' P xs∧(∀a,P=some a→w.heap.size≤a.block)∧p'≤p+5∧Rdr B w' r p'∧w.grownBy w' (some r)
theorem xM {k n:Int}{ks:List Tm}(hz:aG ks≤400){f:Tm→Bool}{x:List Int}(hx:x∈jP f [] (.mk k n ks)):x.length≤401:=by
 have h:=aNi (.mk k n ks) [] x (aEk f _ _ _ hx);rw [Tm.size] at h;simp at h
 omega
theorem qN (B r p:Nat)(k n:Int)(ks:List Tm)(A:Option Addr)(c:Nat)(w:World)(hp:p≤900000000)(hB:B≤w.heap.size)(hR:Rdr B w r p)(hv:aE (.mk k n ks)=true)(hr:Rd w A 0 ks) :
  Calls prog 18 #[.pointer (some ⟨r,0,none⟩),.agg (Ro k n A ks.length c)] w (aRk B w r p):=by
 have hz4:=aI hv;have hrl:=hR.lt;have hv':=aD hv;clear hv;obtain ⟨rs,hrs⟩:∃rs,jP xO [] (.mk k n ks)=rs:=⟨_,rfl⟩;obtain ⟨ps,hps⟩:∃ps,jP eU [] (.mk k n ks)=ps:=⟨_,rfl⟩;have hrm:Hid (∀x∈rs,x.length≤401):=aD (fun x hx=>xM hz4 (by rw [hrs];exact hx));have hpm:Hid (∀x∈ps,x.length≤401):=aD (fun x hx=>xM hz4 (by rw [hps];exact hx));have hpl:ps.length=aG ks+1:=by rw [← hps,sG,Tm.size]
 have hpl1:1≤ps.length:=by omega
 have hpl2:ps.length≤401:=by omega
 have hrl2:rs.length≤401:=by rw [← hrs];have:=uR xO (.mk k n ks) [];rw [Tm.size] at this;omega
 have hrs':=aD hrs;have hps':=aD hps;clear hrs hps hpl;by_cases hr0:rs=[]
 ·subst hr0;have tokA:=trivial;go_enter func18,ntmps18;go_wp2_with (first
  | (go_at_call 52;have _t:=tokB;refine (uX k n ks A c _ hv'.out hr1).mono ?_;rw [hrs'.out];rintro e w2 ⟨gr,c2,rfl,hb2,hrF2⟩;replace hrF2:=hrF2.mono s1;have g2:Bw w w2:=g1.trans (hb2.mono s1);have hpF2:=hpF1.below hb2;have hX2:=hX1.keep hb2;have s2:=hb2.size;have hR2:=hR.below g2 hB;clear tokB _t;have tokC:=trivial)
  | (go_at_call 51;have _t:=tokA;refine (tC k n ks A c _ hv'.out (hr.alloc _)).mono ?_;rw [hps'.out];rintro e w1 ⟨g,c1,rfl,hb1,hpF1⟩;replace hpF1:RdPF w.heap.size w1 (some ⟨g,0,none⟩) ps:=hpF1.mono (by simp);have hX1:=(aC w 25 (Ro k n A ks.length c) rfl).keep hb1;obtain ⟨x0,x1,x2⟩:=hX1.three;have lX:=hX1.lt;have g1:Bw w w1:=(bE (cW _) _).trans (hb1.mono (by simp));have s1:=g1.size;have hr1:=hr.below g1;clear tokA _t;have tokB:=trivial))
  have gw2:w.grownBy w2 (some r):=aR (gG _ _) g2;have s2w:=g2.size;refine (eB B r (p) 10 _ (by omega) (by omega) (by omega) hR2).mono ?_;rintro e w4 ⟨m4,rfl,hm4,-,hR4,hg4⟩;clear hm4;have g4:=aU gw2 hg4;have hpF4:=hpF2.grown hg4 (by omega);have s4:=g4.size;by_cases h4:m4=0
  ·subst h4;have tokN:=trivial;go_wp2_with (first
    | (go_at_call 43;have _t:=tokM;refine (mM [0,1,9223372036854775807] B r (p+1+1) w5.heap.size _ (by decide) (by decide) (by omega) (by simp;omega) (hR5.alloc (by omega) _) (aC _ 3 (aDk [0,1,9223372036854775807]) (by simp)) (by omega)).mono ?_;rintro e w6 ⟨i6,-,rfl,hR6,hg6⟩;have g6:=aU (aM g5 _) hg6;have s6:=g6.size;clear tokM _t)
    | (go_at_call 43;have _t:=tokN;refine (mM [0,1,4,-1] B r (p+1) w4.heap.size _ (by decide) (by decide) (by omega) (by simp;omega) (hR4.alloc (by omega) _) (aC _ 3 (aDk [0,1,4,-1]) (by simp)) (by omega)).mono ?_;rintro e w5 ⟨i5,-,rfl,hR5,hg5⟩;have g5:=aU (aM g4 _) hg5;have s5:=g5.size;clear tokN _t;have tokM:=trivial))
   go_ret
   refine ⟨some ⟨w6.heap.size,0,none⟩,[i5,i6],2,p+1+1+1,rfl,by simp,by simp,?_,fun a ha=>by injection ha with ha;rw [← ha];show w.heap.size≤w6.heap.size;omega,by omega,hR6.alloc (by omega) _,aM g6 _⟩;intro j hj;refine ⟨w6.heap.size,0,rfl,?_⟩;have hN:Blk (w6.alloc (.cells #[.int .i64 i5,.int .i64 i6] 3)) w6.heap.size #[.int .i64 i5,.int .i64 i6]:=aC _ 3 _ (by simp);have h2:j<2:=hj;rcases j with _|_|j
   ·exact hN.at_ (i:=0) rfl
   ·exact hN.at_ (i:=1) rfl
   ·omega
  ·have q4:(0:Int)<(m4:Int):=by omega
   have q4n:0<m4:=by omega
   have tokL:=trivial;go_wp2_with (go_at_call 17;have _t:=tokL;refine (eB B r (p+1) (ps.length:Int) _ (by omega) (by omega) (by omega) hR4).mono ?_;rintro e w9 ⟨m9,rfl,hm9,-,hR9,hg9⟩;have hm9':m9<ps.length:=(by have:=hm9 (by omega);omega);clear hm9;obtain ⟨b9,o9,P9,c9,xs9,eA9,hb9,hx9,hc9,hi9,hl9,hB9⟩:=(hpF4.grown hg9 (by omega)).at_ m9 hm9';(first|subst eA9|(injection eA9 with eA9;injection eA9 with eA1 eA2;subst eA1 eA2;rw [Nat.zero_add] at hc9));have hlm:(m9:Int)<(ps.length:Int):=(by omega);have hm9p:0≤(m9:Int):=(by omega);have g9:=aU g4 hg9;clear tokL _t)
   go_ret
   exact ⟨P9,xs9,c9,p+1+1,rfl,hl9,hpm.out _ hx9,hi9,hB9,by omega,hR9,g9⟩
 ·have hrl1:1≤rs.length:=by
   rcases rs with _|⟨x,xs⟩
   ·exact absurd rfl hr0
   ·simp
  have hrq:(0:Int)<(rs.length:Int):=by omega
  clear hr0;have tokA:=trivial;go_enter func18,ntmps18;go_wp2_with (first
  | (go_at_call 52;have _t:=tokB;refine (uX k n ks A c _ hv'.out hr1).mono ?_;rw [hrs'.out];rintro e w2 ⟨gr,c2,rfl,hb2,hrF2⟩;replace hrF2:=hrF2.mono s1;have g2:Bw w w2:=g1.trans (hb2.mono s1);have hpF2:=hpF1.below hb2;have hX2:=hX1.keep hb2;have s2:=hb2.size;have hR2:=hR.below g2 hB;clear tokB _t;have tokC:=trivial)
  | (go_at_call 51;have _t:=tokA;refine (tC k n ks A c _ hv'.out (hr.alloc _)).mono ?_;rw [hps'.out];rintro e w1 ⟨g,c1,rfl,hb1,hpF1⟩;replace hpF1:RdPF w.heap.size w1 (some ⟨g,0,none⟩) ps:=hpF1.mono (by simp);have hX1:=(aC w 25 (Ro k n A ks.length c) rfl).keep hb1;obtain ⟨x0,x1,x2⟩:=hX1.three;have lX:=hX1.lt;have g1:Bw w w1:=(bE (cW _) _).trans (hb1.mono (by simp));have s1:=g1.size;have hr1:=hr.below g1;clear tokA _t;have tokB:=trivial))
  have gw2:w.grownBy w2 (some r):=aR (gG _ _) g2;have s2w:=g2.size;refine (eB B r p 2 _ (by omega) (by omega) (by omega) hR2).mono ?_;rintro e w3 ⟨m3,rfl,hm3,-,hR3,hg3⟩;clear hm3;have g3:=aU gw2 hg3;have hpF3:=hpF2.grown hg3 (by omega);have hrF3:=hrF2.grown hg3 (by omega);have s3:=g3.size;by_cases h3:m3=0
  ·subst h3;have tokL:=trivial;go_wp2_with (go_at_call 17;have _t:=tokL;refine (eB B r (p+1) (rs.length:Int) _ (by omega) (by omega) (by omega) hR3).mono ?_;rintro e w9 ⟨m9,rfl,hm9,-,hR9,hg9⟩;have hm9':m9<rs.length:=(by have:=hm9 (by omega);omega);clear hm9;obtain ⟨b9,o9,P9,c9,xs9,eA9,hb9,hx9,hc9,hi9,hl9,hB9⟩:=(hrF3.grown hg9 (by omega)).at_ m9 hm9';(first|subst eA9|(injection eA9 with eA9;injection eA9 with eA1 eA2;subst eA1 eA2;rw [Nat.zero_add] at hc9));have hlm:(m9:Int)<(rs.length:Int):=(by omega);have hm9p:0≤(m9:Int):=(by omega);have g9:=aU g3 hg9;clear tokL _t)
   go_ret
   exact ⟨P9,xs9,c9,p+1+1,rfl,hl9,hrm.out _ hx9,hi9,hB9,by omega,hR9,g9⟩
  ·have q3:((m3:Int)==0)=false:=by simpa using h3
   have q3b:¬(m3:Int)=0:=by omega
   clear h3;go_wp2_with fail
   refine (eB B r (p+1) 10 _ (by omega) (by omega) (by omega) hR3).mono ?_;rintro e w4 ⟨m4,rfl,hm4,-,hR4,hg4⟩;clear hm4;have g4:=aU g3 hg4;have hpF4:=hpF3.grown hg4 (by omega);have s4:=g4.size;by_cases h4:m4=0
   ·subst h4;have tokN:=trivial;go_wp2_with (first
     | (go_at_call 43;have _t:=tokM;refine (mM [0,1,9223372036854775807] B r (p+1+1+1) w5.heap.size _ (by decide) (by decide) (by omega) (by simp;omega) (hR5.alloc (by omega) _) (aC _ 3 (aDk [0,1,9223372036854775807]) (by simp)) (by omega)).mono ?_;rintro e w6 ⟨i6,-,rfl,hR6,hg6⟩;have g6:=aU (aM g5 _) hg6;have s6:=g6.size;clear tokM _t)
     | (go_at_call 43;have _t:=tokN;refine (mM [0,1,4,-1] B r (p+1+1) w4.heap.size _ (by decide) (by decide) (by omega) (by simp;omega) (hR4.alloc (by omega) _) (aC _ 3 (aDk [0,1,4,-1]) (by simp)) (by omega)).mono ?_;rintro e w5 ⟨i5,-,rfl,hR5,hg5⟩;have g5:=aU (aM g4 _) hg5;have s5:=g5.size;clear tokN _t;have tokM:=trivial))
    go_ret
    refine ⟨some ⟨w6.heap.size,0,none⟩,[i5,i6],2,p+1+1+1+1,rfl,by simp,by simp,?_,fun a ha=>by injection ha with ha;rw [← ha];show w.heap.size≤w6.heap.size;omega,by omega,hR6.alloc (by omega) _,aM g6 _⟩;intro j hj;refine ⟨w6.heap.size,0,rfl,?_⟩;have hN:Blk (w6.alloc (.cells #[.int .i64 i5,.int .i64 i6] 3)) w6.heap.size #[.int .i64 i5,.int .i64 i6]:=aC _ 3 _ (by simp);have h2:j<2:=hj;rcases j with _|_|j
    ·exact hN.at_ (i:=0) rfl
    ·exact hN.at_ (i:=1) rfl
    ·omega
   ·have q4:(0:Int)<(m4:Int):=by omega
    have q4n:0<m4:=by omega
    have tokL:=trivial;go_wp2_with (go_at_call 17;have _t:=tokL;refine (eB B r (p+1+1) (ps.length:Int) _ (by omega) (by omega) (by omega) hR4).mono ?_;rintro e w9 ⟨m9,rfl,hm9,-,hR9,hg9⟩;have hm9':m9<ps.length:=(by have:=hm9 (by omega);omega);clear hm9;obtain ⟨b9,o9,P9,c9,xs9,eA9,hb9,hx9,hc9,hi9,hl9,hB9⟩:=(hpF4.grown hg9 (by omega)).at_ m9 hm9';(first|subst eA9|(injection eA9 with eA9;injection eA9 with eA1 eA2;subst eA1 eA2;rw [Nat.zero_add] at hc9));have hlm:(m9:Int)<(ps.length:Int):=(by omega);have hm9p:0≤(m9:Int):=(by omega);have g9:=aU g4 hg9;clear tokL _t)
    go_ret
    exact ⟨P9,xs9,c9,p+1+1+1,rfl,hl9,hpm.out _ hx9,hi9,hB9,by omega,hR9,g9⟩
namespace NT
def shift (m:Nat):Nat→NT→NT
 | c,.var i=>if c≤i then .var (i+m) else .var i
 | _,.zero=>.zero
 | c,.suc a=>.suc (a.shift m c)
 | c,.app b a=>.app (b.shift m (c+1)) (a.shift m c)
 | c,.elim z s n=>.elim (z.shift m c) (s.shift m (c+2)) (n.shift m c)
 | c,.part q a b=>.part q (a.shift m c) (b.shift m c)
 | c,.mov x z=>.mov (x.shift m c) (z.shift m c)
def fD (a:NT):Nat→NT→NT
 | k,.var i=>if i=k then a.shift k 0 else if k<i then .var (i - 1) else .var i
 | _,.zero=>.zero
 | k,.suc b=>.suc (fD a k b)
 | k,.app b c=>.app (fD a (k+1) b) (fD a k c)
 | k,.elim z s n=>.elim (fD a k z) (fD a (k+2) s) (fD a k n)
 | k,.part q x y=>.part q (fD a k x) (fD a k y)
 | k,.mov x z=>.mov (fD a k x) (fD a k z)
theorem aBn (a:NT):∀(k d c e:Nat),c≤e→e≤c+k→(a.shift k c).shift d e=a.shift (k+d) c:=by
 induction a with
 | var i=>
  intro k d c e h1 h2;simp only [shift]
  by_cases h:c≤i
  ·rw [if_pos h,if_pos h,shift,if_pos (by omega)];congr 1;omega
  ·rw [if_neg h,if_neg h,shift,if_neg (by omega)]
 | zero=>intros;rfl
 | suc a ih=>intro k d c e h1 h2;simp only [shift];rw [ih k d c e h1 h2]
 | app b a h1 h2=>intro k d c e g1 g2;simp only [shift];rw [h1 k d (c+1) (e+1) (by omega) (by omega),h2 k d c e g1 g2]
 | elim z s n h1 h2 h3=>intro k d c e g1 g2;simp only [shift];rw [h1 k d c e g1 g2,h2 k d (c+2) (e+2) (by omega) (by omega),h3 k d c e g1 g2]
 | part q a b h1 h2=>intro k d c e g1 g2;simp only [shift];rw [h1 k d c e g1 g2,h2 k d c e g1 g2]
 | mov a b h1 h2=>intro k d c e g1 g2;simp only [shift];rw [h1 k d c e g1 g2,h2 k d c e g1 g2]
theorem aDj (a:NT):∀(m d k e:Nat),e≤k→(a.shift m k).shift d e=(a.shift d e).shift m (k+d):=by
 induction a with
 | var i=>
  intro m d k e h;simp only [shift]
  by_cases h1:k≤i
  ·rw [if_pos h1,if_pos (by omega)];simp only [shift];rw [if_pos (by omega),if_pos (by omega)];congr 1;omega
  ·rw [if_neg h1];by_cases h2:e≤i
   ·rw [if_pos h2];simp only [shift];rw [if_pos h2,if_neg (by omega)]
   ·rw [if_neg h2];simp only [shift];rw [if_neg h2,if_neg (by omega)]
 | zero=>intros;rfl
 | suc a ih=>intro m d k e h;simp only [shift];rw [ih m d k e h]
 | app b a h1 h2=>intro m d k e h;simp only [shift];rw [h1 m d (k+1) (e+1) (by omega),h2 m d k e h,show k+1+d=k+d+1 by omega]
 | elim z s n h1 h2 h3=>intro m d k e h;simp only [shift];rw [h1 m d k e h,h2 m d (k+2) (e+2) (by omega),h3 m d k e h,show k+2+d=k+d+2 by omega]
 | part q a b h1 h2=>intro m d k e h;simp only [shift];rw [h1 m d k e h,h2 m d k e h]
 | mov a b h1 h2=>intro m d k e h;simp only [shift];rw [h1 m d k e h,h2 m d k e h]
theorem wN (u:NT):∀(a:NT) (m k d:Nat),(fD a d u).shift m (k+d)=fD (a.shift m k) d (u.shift m (k+d+1)):=by
 induction u with
 | var i=>
  intro a m k d;simp only [fD,shift]
  by_cases h1:i=d
  ·subst h1;rw [if_pos rfl,if_neg (by omega)];simp only [fD]
   rw [if_pos trivial,aDj a m i k 0 (by omega)]
  ·rw [if_neg h1];by_cases h2:d<i
   ·rw [if_pos h2];simp only [shift]
    by_cases h3:k+d+1≤i
    ·rw [if_pos (by omega),if_pos h3];simp only [fD];rw [if_neg (by omega),if_pos (by omega)];congr 1;omega
    ·rw [if_neg (by omega),if_neg h3];simp only [fD];rw [if_neg h1,if_pos h2]
   ·rw [if_neg h2,if_neg (by omega)];simp only [shift,fD]
    rw [if_neg (by omega),if_neg h1,if_neg h2]
 | zero=>intros;rfl
 | suc b ih=>intro a m k d;simp only [fD,shift];rw [ih]
 | app b c h1 h2=>intro a m k d;simp only [fD,shift];rw [show k+d+1=k+(d+1) by omega,h1,h2,show k+(d+1)+1=k+d+1+1 by omega,show k+d+1=k+(d+1) by omega]
 | elim z s n h1 h2 h3=>intro a m k d;simp only [fD,shift];rw [show k+d+2=k+(d+2) by omega,h1,h2,h3,show k+(d+2)+1=k+d+1+2 by omega]
 | part q x y h1 h2=>intro a m k d;simp only [fD,shift];rw [h1,h2]
 | mov x y h1 h2=>intro a m k d;simp only [fD,shift];rw [h1,h2]
theorem aFs (x:NT):∀(a:NT) (k d c:Nat),c≤k→fD a (k+d) (x.shift d c)=(fD a k x).shift d c:=by
 induction x with
 | var i=>
  intro a k d c h;simp only [fD,shift]
  by_cases h1:i=k
  ·subst h1;rw [if_pos h,if_pos rfl];simp only [fD]
   rw [if_pos trivial,aBn a i d 0 c (by omega) (by omega)]
  ·rw [if_neg h1];by_cases h2:k<i
   ·rw [if_pos (by omega),if_pos h2];simp only [fD,shift]
    rw [if_neg (by omega),if_pos (by omega),if_pos (by omega)];congr 1;omega
   ·rw [if_neg h2];by_cases h3:c≤i
    ·rw [if_pos h3];simp only [fD,shift];rw [if_neg (by omega),if_neg (by omega),if_pos h3]
    ·rw [if_neg h3];simp only [fD,shift];rw [if_neg (by omega),if_neg (by omega),if_neg h3]
 | zero=>intros;rfl
 | suc b ih=>intro a k d c h;simp only [fD,shift];rw [ih a k d c h]
 | app b e h1 h2=>intro a k d c h;simp only [fD,shift];rw [show k+d+1=(k+1)+d by omega,h1 a (k+1) d (c+1) (by omega),h2 a k d c h]
 | elim z s n h1 h2 h3=>intro a k d c h;simp only [fD,shift];rw [show k+d+2=(k+2)+d by omega,h2 a (k+2) d (c+2) (by omega),h1 a k d c h,h3 a k d c h]
 | part q x y h1 h2=>intro a k d c h;simp only [fD,shift];rw [h1 a k d c h,h2 a k d c h]
 | mov x y h1 h2=>intro a k d c h;simp only [fD,shift];rw [h1 a k d c h,h2 a k d c h]
theorem uZ (a:NT):∀(x:NT) (j d c:Nat),c≤d→d≤c+j→fD x d (a.shift (j+1) c)=a.shift j c:=by
 induction a with
 | var i=>
  intro x j d c h1 h2;simp only [shift]
  by_cases h:c≤i
  ·rw [if_pos h,if_pos h];simp only [fD];rw [if_neg (by omega),if_pos (by omega)];congr 1
  ·rw [if_neg h,if_neg h];simp only [fD];rw [if_neg (by omega),if_neg (by omega)]
 | zero=>intros;rfl
 | suc b ih=>intro x j d c h1 h2;simp only [shift,fD];rw [ih x j d c h1 h2]
 | app b e h1 h2=>intro x j d c g1 g2;simp only [shift,fD];rw [h1 x j (d+1) (c+1) (by omega) (by omega),h2 x j d c g1 g2]
 | elim z s n h1 h2 h3=>intro x j d c g1 g2;simp only [shift,fD];rw [h1 x j d c g1 g2,h2 x j (d+2) (c+2) (by omega) (by omega),h3 x j d c g1 g2]
 | part q a b h1 h2=>intro x j d c g1 g2;simp only [shift,fD];rw [h1 x j d c g1 g2,h2 x j d c g1 g2]
 | mov a b h1 h2=>intro x j d c g1 g2;simp only [shift,fD];rw [h1 x j d c g1 g2,h2 x j d c g1 g2]
theorem aEm (u:NT):∀(a b:NT) (k d:Nat),fD (fD a k b) d (fD a (k+d+1) u)=fD a (k+d) (fD b d u):=by
 induction u with
 | var i=>
  intro a b k d;simp only [fD]
  by_cases h1:i=k+d+1
  ·rw [if_pos h1,if_neg (show ¬i=d by omega),if_pos (show d<i by omega),uZ a _ (k+d) d 0 (by omega) (by omega)];simp only [fD]
   rw [if_pos (by omega)]
  ·rw [if_neg h1];by_cases h2:k+d+1<i
   ·rw [if_pos h2,if_neg (show ¬i=d by omega),if_pos (show d<i by omega)];simp only [fD]
    rw [if_neg (by omega),if_pos (by omega),if_neg (by omega),if_pos (by omega)]
   ·rw [if_neg h2];by_cases h3:i=d
    ·subst h3;rw [if_pos rfl];simp only [fD]
     rw [if_pos trivial,aFs b a k i 0 (by omega)]
    ·rw [if_neg h3];by_cases h4:d<i
     ·rw [if_pos h4];simp only [fD];rw [if_neg h3,if_pos h4,if_neg (by omega),if_neg (by omega)]
     ·rw [if_neg h4];simp only [fD];rw [if_neg h3,if_neg h4,if_neg (by omega),if_neg (by omega)]
 | zero=>intros;rfl
 | suc u ih=>intro a b k d;simp only [fD];rw [ih]
 | app u v h1 h2=>intro a b k d;simp only [fD];rw [show k+d+1+1=k+(d+1)+1 by omega,h1,h2,show k+(d+1)=k+d+1 by omega]
 | elim z s n h1 h2 h3=>intro a b k d;simp only [fD];rw [show k+d+1+2=k+(d+2)+1 by omega,h2,h1,h3,show k+(d+2)=k+d+2 by omega]
 | part q x y h1 h2=>intro a b k d;simp only [fD];rw [h1,h2]
 | mov x y h1 h2=>intro a b k d;simp only [fD];rw [h1,h2]
end NT
def aOz:Prop:=∀(B r p m d:Nat) (w:World),m≤3→d≤4→p≤800000000→B≤w.heap.size→Rdr B w r p→Calls prog 45 #[.pointer (some ⟨r,0,none⟩),.int .i64 m,.int .i64 d] w fun e w'=>
 ∃(k n:Int) (ks:List Tm) (A:Option Addr) (c p':Nat),e = .returned (.agg (Ro k n A ks.length c))∧ks.length≤9223372036854775807∧aG ks≤100000∧p'≤p+100000∧RdP (fun b=>w.heap.size≤b) w' A 0 ks∧Rdr B w' r p'∧w.grownBy w' (some r)∧tU m 8 (.mk k n ks)
def mQ (cx:List Tm)(t:Tm):Prop:=(∃m,m≤2∧cx=List.replicate m (.mk 6 0 [])∧tU m 8 t)∨∃us,aMd cx us∧t∈us
def aNz (B:Nat)(w:World)(r p q:Nat)(e:Ending)(w':World):Prop:=
 ∃(cx:List Tm) (D:Option Addr) (dc:Nat) (k n:Int) (ks:List Tm) (A:Option Addr) (c p':Nat),e = .returned (.tuple #[.slice D cx.length dc,.agg (Ro k n A ks.length c)])∧cx.length≤dc∧RdP (fun b=>w.heap.size≤b) w' D 0 cx∧mQ cx (.mk k n ks)∧ks.length≤9223372036854775807∧aE (.mk k n ks)=true∧p'≤p+q∧RdP (fun b=>w.heap.size≤b) w' A 0 ks∧Rdr B w' r p'∧w.grownBy w' (some r)
theorem aMy {x:Int}(h:x∈([0,1,2,0]:List Int)):∃d:Nat,x=d∧d≤2:=by
 simp only [List.mem_cons,List.not_mem_nil,or_false] at h
 rcases h with rfl|rfl|rfl|rfl
 ·exact ⟨0,rfl,by omega⟩
 ·exact ⟨1,rfl,by omega⟩
 ·exact ⟨2,rfl,by omega⟩
 ·exact ⟨0,rfl,by omega⟩
theorem aNv {x:Int}(h:x∈([3,2,4,1]:List Int)):∃d:Nat,x=d∧d≤4:=by
 simp only [List.mem_cons,List.not_mem_nil,or_false] at h
 rcases h with rfl|rfl|rfl|rfl
 ·exact ⟨3,rfl,by omega⟩
 ·exact ⟨2,rfl,by omega⟩
 ·exact ⟨4,rfl,by omega⟩
 ·exact ⟨1,rfl,by omega⟩
theorem aPm {q:Nat→Prop}{w:World}{A:Option Addr}{us:List Tm}(h:RdP q w A 0 us)(h0:0<us.length):∃b off,∃(kf nf:Nat→Int) (af:Nat→Option Addr) (lf cf:Nat→Nat),A=some ⟨b,off,none⟩∧∀i,(hi:i<us.length)→q b∧w.cell? ⟨b,off+i*3,none⟩=some (.int .i64 (kf i))∧w.cell? ⟨b,off+i*3+1,none⟩=some (.int .i64 (nf i))∧w.cell? ⟨b,off+i*3+2,none⟩=some (.slice (af i) (lf i) (cf i))∧
  ∃ks,us[i] = .mk (kf i) (nf i) ks∧lf i=ks.length∧ks.length≤9223372036854775807∧RdP q w (af i) 0 ks:=by
 obtain ⟨b,off,hA,_⟩:=h.get h0;have key:∀i,∃(k n:Int) (a:Option Addr) (l c:Nat),(hi:i<us.length)→q b∧w.cell? ⟨b,off+i*3,none⟩=some (.int .i64 k)∧w.cell? ⟨b,off+i*3+1,none⟩=some (.int .i64 n)∧w.cell? ⟨b,off+i*3+2,none⟩=some (.slice a l c)∧
   ∃ks,us[i] = .mk k n ks∧l=ks.length∧ks.length≤9223372036854775807∧RdP q w a 0 ks:=by
  intro i;by_cases hi:i<us.length
  ·obtain ⟨b',off',hA',hc⟩:=h.get hi;rw [hA] at hA';injection hA' with hA';injection hA' with e1 e2;subst e1 e2;rw [Nat.zero_add] at hc;obtain ⟨k,n,ks,hk⟩:=iF us[i];rw [hk] at hc;obtain ⟨h0,h1,h2,A',c',h3,h4,h5⟩:=RdPC.iff.1 hc;exact ⟨k,n,A',ks.length,c',fun _=>⟨h0,h1,h2,h3,ks,hk,rfl,h4,h5⟩⟩
  ·exact ⟨0,0,none,0,0,fun hi'=>absurd hi' hi⟩
 obtain ⟨kf,h1⟩:=Classical.axiomOfChoice key;obtain ⟨nf,h2⟩:=Classical.axiomOfChoice h1;obtain ⟨af,h3⟩:=Classical.axiomOfChoice h2;obtain ⟨lf,h4⟩:=Classical.axiomOfChoice h3;obtain ⟨cf,h5⟩:=Classical.axiomOfChoice h4;exact ⟨b,off,kf,nf,af,lf,cf,hA,fun i hi=>h5 i hi⟩
theorem dX {w w':World}{r b o:Nat}{v:Value}(h:w.grownBy w' (some r))(hc:w.cell? ⟨b,o,none⟩=some v)(hb:b≠r):w'.cell? ⟨b,o,none⟩=some v:=by
 have hl:=jN _ _ hc;have:=h.block b hl (fun e=>hb (by injection e));rw [← hc];simp only [World.cell?,this]
theorem aFg {w:World}{b o g:Nat}{v x y z:Value}(h:w.cell? ⟨b,o,none⟩=some v)(hb:b≠g):(((w.setCell ⟨g,0,none⟩ x).setCell ⟨g,1,none⟩ y).setCell ⟨g,2,none⟩ z).cell? ⟨b,o,none⟩=some v:=by
 have e:(((w.setCell ⟨g,0,none⟩ x).setCell ⟨g,1,none⟩ y).setCell ⟨g,2,none⟩ z).heap[b]?=w.heap[b]?:=
  (lR _ ⟨g, 2, none⟩ _ b hb).trans ((lR _ ⟨g, 1, none⟩ _ b hb).trans (lR _ ⟨g, 0, none⟩ _ b hb))
 rw [← h];simp only [World.cell?,e]
theorem aDh (hN:aOz)(B r p:Nat)(w:World)(hp:p≤700000000)(hB:B≤w.heap.size)(hr:Rdr B w r p):Calls prog 15 #[.pointer (some ⟨r,0,none⟩)] w (aNz B w r p 200000):=by
 have hrl:=hr.lt;go_enter func15,ntmps15;go_wp2_with fail
 refine (eB B r p 2 _ (by omega) (by omega) (by simp;omega) (hr.alloc (by omega) _)).mono ?_;rintro e w1 ⟨m,rfl,hm,hm0,hr1,hg1⟩;clear hm hm0;have hZ1:=(aC w 25 Zr rfl).grown hg1 (by simp;omega);have g1:w.grownBy w1 (some r):=aU (aM (gG _ _) _) hg1;have s1:=hZ1.lt;by_cases h0:m=0
 ·subst h0;go_wp2_with (go_at_call 43;refine (mM [0,1,2,0] B r (p+1) w1.heap.size _ (by decide) (by decide) (by omega) (by simp;omega) (hr1.alloc (by omega) _) (aC _ 3 _ (by simp)) (by omega)).mono ?_;rintro e w2 ⟨x,hx,rfl,hr2,hg2⟩;obtain ⟨nn,rfl,hnn⟩:=aMy hx;have g2:=aU (aM g1 _) hg2;have hZ2:=(hZ1.alloc _).grown hg2 (by simp;omega);have s2:w1.heap.size+1≤w2.heap.size:=(by have:=hg2.size;simpa using this))
  go_loopw [5,6] (fun v jv wr=>∃(j:Nat) (ts:List Tm),j≤nn∧ts.length=j∧Hid (ts=List.replicate j (.mk 6 0 []))∧jv = .int .i64 j∧Part w2.heap.size wr v ts∧Bw w2 wr) (fun _ jv _=>nn - (intOf jv).toNat)
  case atStart=>exact ⟨0,[],Nat.zero_le _,rfl,aD rfl,rfl,Part.empty_ rfl (iD _),bw1⟩
  case round=>
   obtain ⟨j,ts,hj,htl,htr,rfl,hq,hbr⟩:=hrel;have htl':=aD htl;clear htl;have sr:=hbr.size;by_cases hlt:j<nn
   ·go_wp2_with (first
     | (at_builtin;refine bQ (B:=w2.heap.size) (w0:=wr) (m:=j) (k:=6) (n:=0) (c:=0) (A:=none) (ks:=[]) hq hb3 sr Fresh.nil (by simp) htl'.out (by omega) rfl _ _ rfl rfl (by show Value.slice (some ⟨w3.heap.size,0,none⟩) 1 1=_;simp) ?_;intro A2 c2 w5 hp2 hb2 hg2')
     | (go_at_call 44;refine (bH _ _ _).mono ?_;rintro e w3 ⟨rfl,hb3⟩))
    go_roundw
    case rel=>exact ⟨j+1,ts++[.mk 6 0 []],by omega,by have:=htl'.out;simp;omega,aD (by rw [htr.out,List.replicate_succ']),by go_num,hp2,(hbr.trans (hb3.mono sr)).trans hb2⟩
    case measure=>simp [intOf];omega
   ·have hrr:=hr2.below hbr (by omega);have gr:=sO g2 hbr (by omega);have hZr:=hZ2.keep hbr;obtain ⟨Av,cv,rfl,hfv⟩:=hq.fresh;have hcv:=aAn hq;have hRr:RdP (fun b=>w2.heap.size≤b) wr Av 0 ts:=hfv.rdp.mono (fun b hb=>hb.1);have hje:j=nn:=by omega
    subst hje;go_wp2_with (first
     | (go_at_call 45;have _t:=tok;refine (hN B r _ j dd _ (by omega) hdd (by omega) (by omega) hr3).mono ?_;rintro e w4 ⟨k4,n4,ks4,A4,c4,p4,rfl,hl4,hs4,hp4,hk4,hr4,hg4,hi4⟩;have hR4:=(hR3.grown hg4 (fun b hb e=>by injection e with e;omega)).alloc (.cells (Ro k4 n4 A4 ks4.length c4) 25);have g4:=aM (aU g3 hg4) (.cells (Ro k4 n4 A4 ks4.length c4) 25);have hZ4:=(hZ3.grown hg4 (by simp;omega)).alloc (.cells (Ro k4 n4 A4 ks4.length c4) 25);have hX:=aC w4 25 (Ro k4 n4 A4 ks4.length c4) rfl;have s4:=hg4.size;have hr5:=hr4.alloc (by omega) (.cells (Ro k4 n4 A4 ks4.length c4) 25);have hk5:=hk4.alloc (.cells (Ro k4 n4 A4 ks4.length c4) 25);obtain ⟨x0,x1,x2⟩:=hX.three)
     | (go_at_call 43;refine (mM [3,2,4,1] B r (p+1+1) wr.heap.size _ (by decide) (by decide) (by omega) (by simp;omega) (hrr.alloc (by omega) _) (aC _ 3 _ (by simp)) (by omega)).mono ?_;rintro e w3 ⟨x3,hx3,rfl,hr3,hg3⟩;have hR3:=(hRr.alloc (.cells #[.int .i64 3,.int .i64 2,.int .i64 4,.int .i64 1] 3)).grown hg3 (fun b hb e=>by injection e with e;omega);obtain ⟨dd,rfl,hdd⟩:=aNv hx3;have g3:=aU (aM gr _) hg3;have hZ3:=(hZr.alloc _).grown hg3 (by simp;omega);have s3:wr.heap.size+1≤w3.heap.size:=(by have:=hg3.size;simpa using this);have tok:=trivial))
    obtain ⟨vv,hvv0⟩:∃vv,aE (.mk k4 n4 ks4)=vv:=⟨_,rfl⟩;refine (aN k4 n4 ks4 A4 c4 _ (by omega) hk5.rd).mono ?_;rw [hvv0];rintro e wz ⟨rfl,hbz⟩;have hvv:=aD hvv0;clear hvv0;have hZz:=hZ4.keep hbz;have hrz:=hr5.below hbz (by simp;omega);have gz:=aR g4 hbz;have sz:w4.heap.size+1≤wz.heap.size:=by have:=hbz.size;simpa using this
    have hkz:=hk5.below hbz;have hRz:=hR4.below hbz;replace hX:=hX.keep hbz;clear x0 x1 x2;obtain ⟨x0,x1,x2⟩:=hX.three;cases vv with
    | false=>
     obtain ⟨pz,hpz⟩:∃pz,pz=p4:=⟨_,rfl⟩;rw [← hpz] at hrz;go_wp2_with fail
     refine (eB B r pz 4 _ (by omega) (by omega) (by omega) hrz).mono ?_;rintro e wa ⟨ma,rfl,hma,hma0,hra,hga⟩;have hma':ma<4:=by have:=hma (by omega);omega
     clear hma hma0;have hZa:=hZz.grown hga (by simp;omega);have ga:=aU gz hga;have sa:=hga.size;go_wp2_with (first
      | (go_at_call 48;have _t:=tokb;refine (zY us ys hlus (by omega) hgus.at_ g' _ hBys).mono ?_;rintro e wc ⟨Ac,cc,rfl,hfc,hbc⟩;have sc:=hbc.size;have hZc:=hZb.keep hbc;have hBxc:=hBxs.keep hbc;have hrc:=hrb.below hbc (by omega);have gc:=aR gb hbc)
      | (go_at_call 47;refine (yA ma hma' _).mono ?_;rintro e wb ⟨ts,xs,us,ys,g,g',rfl,hlts,hlus,hgts,hgus,hBxs,hBys,l1,l2,l3,hpr,hbb⟩;have sb:=hbb.size;have hZb:=hZa.keep hbb;have hrb:=hra.below hbb (by omega);have gb:=aR ga hbb;have lxs:=hBxs.lt;have tokb:=trivial))
     have lx:=hBxc.lt;obtain ⟨b,off,kf,nf,af,lf,cf,rfl,hel⟩:=aPm hfc.rdp l3;have hbr:b≠r:=by have:=(hel 0 l3).1.1;omega
     have hbw:b≠w.heap.size:=by have:=(hel 0 l3).1.1;omega
     have hel0:∀w':World,(∀i (hi:i<us.length),w'.cell? ⟨b,off+i*3,none⟩=wc.cell? ⟨b,off+i*3,none⟩)→True:=fun _ _=>trivial
     clear hel0;have T0:(∀i,i<us.length→wc.cell? ⟨b,off+i*3,none⟩=some (.int .i64 (kf i)))∧(∀i,i<us.length→wc.cell? ⟨b,off+i*3+1,none⟩=some (.int .i64 (nf i)))∧(∀i,i<us.length→wc.cell? ⟨b,off+i*3+2,none⟩=some (.slice (af i) (lf i) (cf i))):=⟨fun i hi=>(hel i hi).2.1,fun i hi=>(hel i hi).2.2.1,fun i hi=>(hel i hi).2.2.2.1⟩;obtain ⟨t1,t2,t3⟩:=T0;have hel':=aD hel;clear hel;go_region_held3 (fun w'=>(∀i,i<us.length→w'.cell? ⟨b,off+i*3,none⟩=some (.int .i64 (kf i)))∧(∀i,i<us.length→w'.cell? ⟨b,off+i*3+1,none⟩=some (.int .i64 (nf i)))∧(∀i,i<us.length→w'.cell? ⟨b,off+i*3+2,none⟩=some (.slice (af i) (lf i) (cf i)))) (first|exact ⟨t1,t2,t3⟩|exact ⟨s1',s2',s3'⟩|exact ⟨r1',r2',r3'⟩|exact ⟨fun i hi=>aFg (r1' i hi) hbw,fun i hi=>aFg (r2' i hi) hbw,fun i hi=>aFg (r3' i hi) hbw⟩|go_keep) (first
      | (go_at_call 17;have _t:=tokd;refine (eB B r (pz+1) us.length _ (by omega) (by omega) (by omega) hrd).mono ?_;rintro e we ⟨mm,rfl,hmm,hmm0,hre,hge⟩;have hmm':mm<us.length:=(by have:=hmm (by omega);omega);clear hmm hmm0;have hce:=aU hcd hge;have se:=hge.size;have r1':∀i,i<us.length→we.cell? ⟨b,off+i*3,none⟩=some (.int .i64 (kf i)):=(fun i hi=>dX hce (t1 i hi) hbr);have r2':∀i,i<us.length→we.cell? ⟨b,off+i*3+1,none⟩=some (.int .i64 (nf i)):=(fun i hi=>dX hce (t2 i hi) hbr);have r3':∀i,i<us.length→we.cell? ⟨b,off+i*3+2,none⟩=some (.slice (af i) (lf i) (cf i)):=(fun i hi=>dX hce (t3 i hi) hbr);have y0:=r1' mm hmm';have y1:=r2' mm hmm';have y2:=r3' mm hmm';have hlys:mm<ys.length:=(by omega);have ge:=aU gc hce;have hZe:=hZc.grown hce (by simp;omega);obtain ⟨d0,d1,d2,e0,e1,e2,lze⟩:=cZ hZe;have bl:b<we.heap.size:=jN _ _ y0)
      | (go_at_call 48;refine (yD ts xs hlts (by omega) hgts.at_ g _ hBxc.drew).mono ?_;rintro e wd ⟨Ad,cd,rfl,hcap,hfd,hbd⟩;have hcd:wc.grownBy wd (some r):=aR (cQ (gG _ _)) hbd;have sd:=hcd.size;have hrd:=hrc.drew.below hbd (by simp;omega);have s1':∀i,i<us.length→wd.cell? ⟨b,off+i*3,none⟩=some (.int .i64 (kf i)):=(fun i hi=>dX hcd (t1 i hi) hbr);have s2':∀i,i<us.length→wd.cell? ⟨b,off+i*3+1,none⟩=some (.int .i64 (nf i)):=(fun i hi=>dX hcd (t2 i hi) hbr);have s3':∀i,i<us.length→wd.cell? ⟨b,off+i*3+2,none⟩=some (.slice (af i) (lf i) (cf i)):=(fun i hi=>dX hcd (t3 i hi) hbr);have tokd:=trivial))
     all_goals
      obtain ⟨_,_,_,_,ks,hk,hlf,hlk,hrk⟩:=hel'.out mm hmm';have hgd:=hgus.at_ mm (.mk (kf mm) (nf mm) ks) ys[mm] (by rw [iG hmm',hk]) (iG hlys);have hrk2:=hrk.grown hce (fun b hb=>by have:=hb.1;simp;omega);go_wp2_with fail
      refine bodyPost_ret (v:=.tuple #[.slice Ad ts.length cd,.agg #[.int .i64 (kf mm),.int .i64 (nf mm),.slice (af mm) (lf mm) (cf mm)]]) (by simp [results,results15,go_sem,d0,d1,d2]) rfl ⟨ts,Ad,cd,kf mm,nf mm,ks,af mm,cf mm,_,by rw [hlf],hcap,?_,.inr ⟨us,hpr,by rw [← hk];exact fG hmm'⟩,hlk,hgd.2.1,(by omega:pz+1+1≤p+200000),?_,?_,?_⟩
      ·exact (((((hfd.rdp.grown hge (fun b hb e=>by injection e with e;have:=hb.1;simp at this;omega)).mono (q:=fun b=>w.heap.size+1≤b) (fun b hb=>by have:=hb.1;simp at this;omega)).setCell (by simp) _).setCell (by simp) _).setCell (by simp) _).mono (fun b hb=>by omega)
      ·exact ((((hrk2.mono (q:=fun b=>w.heap.size+1≤b) (fun b hb=>by have:=hb.1;omega)).setCell (by simp) _).setCell (by simp) _).setCell (by simp) _).mono (fun b hb=>by omega)
      ·exact ((hre.setCell (by simp;omega) _).setCell (by simp;omega) _).setCell (by simp;omega) _
      ·exact aK (aK (aK ge (.inr (by simp)) _) (.inr (by simp)) _) (.inr (by simp)) _
    | true=>
     obtain ⟨d0,d1,d2,e0,e1,e2⟩:=cA hZz;have x0:=hX.ruleG (g:=r) (by omega) (i:=0) rfl;have x1:=hX.ruleG (g:=r) (by omega) (i:=1) rfl;have x2:=hX.ruleG (g:=r) (by omega) (i:=2) rfl;go_wp2_with fail
     refine aZ (fun w'=>wz.grownBy w' (some r)) [0,1] [2] [3] [_,_] [_] [_] (by kernel_rfl) (by kernel_rfl) rfl rfl rfl (fun _ _ d _ _ h=>by cases d<;>exact h) (cQ (gG _ _)) ?_;refine cL (aD ?_);refine bF ?_;go_wp2_with fail
     refine aH (cQ (gG _ _)) (cS ?_);go_wp2_with fail
     refine bodyPost_ret (v:=.tuple #[.slice Av ts.length cv,.agg (Ro k4 n4 A4 ks4.length c4)]) (by simp [results,results15,go_sem,d0,d1,d2]) rfl ⟨ts,Av,cv,k4,n4,ks4,A4,c4,_,rfl,hcv,?_,.inl ⟨_,hnn,htr.out,hi4⟩,hl4,hvv.out,(by omega:p4≤p+200000),?_,?_,?_⟩
     ·exact ((((hRz.mono (q:=fun b=>w.heap.size+1≤b) (fun b hb=>by omega)).drew.setCell (by simp) _).setCell (by simp) _).setCell (by simp) _).mono (fun b hb=>by omega)
     ·exact ((((hkz.mono (q:=fun b=>w.heap.size+1≤b) (fun b hb=>by omega)).drew.setCell (by simp) _).setCell (by simp) _).setCell (by simp) _).mono (fun b hb=>by omega)
     ·exact ((hrz.drew.setCell (by simp;omega) _).setCell (by simp;omega) _).setCell (by simp;omega) _
     ·exact aK (aK (aK (cQ gz) (.inr (by simp)) _) (.inr (by simp)) _) (.inr (by simp)) _
 ·have q0:((m:Int)==0)=false:=beq_eq_false_iff_ne.2 (by omega);obtain ⟨pz,hpz⟩:∃pz,pz=p+1:=⟨_,rfl⟩;obtain ⟨wz,hwz⟩:∃wz,wz=w1:=⟨_,rfl⟩;have hrz:=hr1;have hZz:=hZ1;have gz:=g1;have sz:=s1;rw [← hpz] at hrz;go_wp2_with fail
  refine (eB B r pz 4 _ (by omega) (by omega) (by omega) hrz).mono ?_;rintro e wa ⟨ma,rfl,hma,hma0,hra,hga⟩;have hma':ma<4:=by have:=hma (by omega);omega
  clear hma hma0;have hZa:=hZz.grown hga (by simp;omega);have ga:=aU gz hga;have sa:=hga.size;go_wp2_with (first
   | (go_at_call 48;have _t:=tokb;refine (zY us ys hlus (by omega) hgus.at_ g' _ hBys).mono ?_;rintro e wc ⟨Ac,cc,rfl,hfc,hbc⟩;have sc:=hbc.size;have hZc:=hZb.keep hbc;have hBxc:=hBxs.keep hbc;have hrc:=hrb.below hbc (by omega);have gc:=aR gb hbc)
   | (go_at_call 47;refine (yA ma hma' _).mono ?_;rintro e wb ⟨ts,xs,us,ys,g,g',rfl,hlts,hlus,hgts,hgus,hBxs,hBys,l1,l2,l3,hpr,hbb⟩;have sb:=hbb.size;have hZb:=hZa.keep hbb;have hrb:=hra.below hbb (by omega);have gb:=aR ga hbb;have lxs:=hBxs.lt;have tokb:=trivial))
  have lx:=hBxc.lt;obtain ⟨b,off,kf,nf,af,lf,cf,rfl,hel⟩:=aPm hfc.rdp l3;have hbr:b≠r:=by have:=(hel 0 l3).1.1;omega
  have hbw:b≠w.heap.size:=by have:=(hel 0 l3).1.1;omega
  have hel0:∀w':World,(∀i (hi:i<us.length),w'.cell? ⟨b,off+i*3,none⟩=wc.cell? ⟨b,off+i*3,none⟩)→True:=fun _ _=>trivial
  clear hel0;have T0:(∀i,i<us.length→wc.cell? ⟨b,off+i*3,none⟩=some (.int .i64 (kf i)))∧(∀i,i<us.length→wc.cell? ⟨b,off+i*3+1,none⟩=some (.int .i64 (nf i)))∧(∀i,i<us.length→wc.cell? ⟨b,off+i*3+2,none⟩=some (.slice (af i) (lf i) (cf i))):=⟨fun i hi=>(hel i hi).2.1,fun i hi=>(hel i hi).2.2.1,fun i hi=>(hel i hi).2.2.2.1⟩;obtain ⟨t1,t2,t3⟩:=T0;have hel':=aD hel;clear hel;go_region_held3 (fun w'=>(∀i,i<us.length→w'.cell? ⟨b,off+i*3,none⟩=some (.int .i64 (kf i)))∧(∀i,i<us.length→w'.cell? ⟨b,off+i*3+1,none⟩=some (.int .i64 (nf i)))∧(∀i,i<us.length→w'.cell? ⟨b,off+i*3+2,none⟩=some (.slice (af i) (lf i) (cf i)))) (first|exact ⟨t1,t2,t3⟩|exact ⟨s1',s2',s3'⟩|exact ⟨r1',r2',r3'⟩|exact ⟨fun i hi=>aFg (r1' i hi) hbw,fun i hi=>aFg (r2' i hi) hbw,fun i hi=>aFg (r3' i hi) hbw⟩|go_keep) (first
   | (go_at_call 17;have _t:=tokd;refine (eB B r (pz+1) us.length _ (by omega) (by omega) (by omega) hrd).mono ?_;rintro e we ⟨mm,rfl,hmm,hmm0,hre,hge⟩;have hmm':mm<us.length:=(by have:=hmm (by omega);omega);clear hmm hmm0;have hce:=aU hcd hge;have se:=hge.size;have r1':∀i,i<us.length→we.cell? ⟨b,off+i*3,none⟩=some (.int .i64 (kf i)):=(fun i hi=>dX hce (t1 i hi) hbr);have r2':∀i,i<us.length→we.cell? ⟨b,off+i*3+1,none⟩=some (.int .i64 (nf i)):=(fun i hi=>dX hce (t2 i hi) hbr);have r3':∀i,i<us.length→we.cell? ⟨b,off+i*3+2,none⟩=some (.slice (af i) (lf i) (cf i)):=(fun i hi=>dX hce (t3 i hi) hbr);have y0:=r1' mm hmm';have y1:=r2' mm hmm';have y2:=r3' mm hmm';have hlys:mm<ys.length:=(by omega);have ge:=aU gc hce;have hZe:=hZc.grown hce (by simp;omega);obtain ⟨d0,d1,d2,e0,e1,e2,lze⟩:=cZ hZe;have bl:b<we.heap.size:=jN _ _ y0)
   | (go_at_call 48;refine (yD ts xs hlts (by omega) hgts.at_ g _ hBxc.drew).mono ?_;rintro e wd ⟨Ad,cd,rfl,hcap,hfd,hbd⟩;have hcd:wc.grownBy wd (some r):=aR (cQ (gG _ _)) hbd;have sd:=hcd.size;have hrd:=hrc.drew.below hbd (by simp;omega);have s1':∀i,i<us.length→wd.cell? ⟨b,off+i*3,none⟩=some (.int .i64 (kf i)):=(fun i hi=>dX hcd (t1 i hi) hbr);have s2':∀i,i<us.length→wd.cell? ⟨b,off+i*3+1,none⟩=some (.int .i64 (nf i)):=(fun i hi=>dX hcd (t2 i hi) hbr);have s3':∀i,i<us.length→wd.cell? ⟨b,off+i*3+2,none⟩=some (.slice (af i) (lf i) (cf i)):=(fun i hi=>dX hcd (t3 i hi) hbr);have tokd:=trivial))
  all_goals
   obtain ⟨_,_,_,_,ks,hk,hlf,hlk,hrk⟩:=hel'.out mm hmm';have hgd:=hgus.at_ mm (.mk (kf mm) (nf mm) ks) ys[mm] (by rw [iG hmm',hk]) (iG hlys);have hrk2:=hrk.grown hce (fun b hb=>by have:=hb.1;simp;omega);go_wp2_with fail
   refine bodyPost_ret (v:=.tuple #[.slice Ad ts.length cd,.agg #[.int .i64 (kf mm),.int .i64 (nf mm),.slice (af mm) (lf mm) (cf mm)]]) (by simp [results,results15,go_sem,d0,d1,d2]) rfl ⟨ts,Ad,cd,kf mm,nf mm,ks,af mm,cf mm,_,by rw [hlf],hcap,?_,.inr ⟨us,hpr,by rw [← hk];exact fG hmm'⟩,hlk,hgd.2.1,(by omega:pz+1+1≤p+200000),?_,?_,?_⟩
   ·exact (((((hfd.rdp.grown hge (fun b hb e=>by injection e with e;have:=hb.1;simp at this;omega)).mono (q:=fun b=>w.heap.size+1≤b) (fun b hb=>by have:=hb.1;simp at this;omega)).setCell (by simp) _).setCell (by simp) _).setCell (by simp) _).mono (fun b hb=>by omega)
   ·exact ((((hrk2.mono (q:=fun b=>w.heap.size+1≤b) (fun b hb=>by have:=hb.1;omega)).setCell (by simp) _).setCell (by simp) _).setCell (by simp) _).mono (fun b hb=>by omega)
   ·exact ((hre.setCell (by simp;omega) _).setCell (by simp;omega) _).setCell (by simp;omega) _
   ·exact aK (aK (aK ge (.inr (by simp)) _) (.inr (by simp)) _) (.inr (by simp)) _
def pF:Tm→Int→List Tm
 | .mk k _ ks,i=>if aO k i=1 then [aL ks 0] else []
def kY:Tm→List Int→List Tm
 | _,[]=>[]
 | t,i::is=>pF t i++kY (t.kids.getD i.toNat default) is
theorem rK {k n i:Int}{ks:List Tm}(h:aO k i=1):pF (.mk k n ks) i=[aL ks 0]:=if_pos h
theorem vN {k n i:Int}{ks:List Tm}(h:aO k i=0):pF (.mk k n ks) i=[]:=if_neg (by omega)
theorem aOw (t:Tm)(i:Int):(pF t i).length≤1:=by
 obtain ⟨k,n,ks⟩:=t;rw [pF];split<;>simp
theorem zC:∀(t:Tm) (xs:List Int),(kY t xs).length≤xs.length
 | _,[]=>by simp [kY]
 | t,i::is=>by
  have h1:=zC (t.kids.getD i.toNat default) is;have h2:=aOw t i;rw [kY,List.length_append,List.length_cons];omega
theorem aAk:∀(xs:List Int) (t u:Tm) (i:Int),eP t xs=some u→kY t (xs++[i])=kY t xs++pF u i
 | [],t,u,i,h=>by
  rw [eP] at h;injection h with h;subst h;simp [kY]
 | x::xs,t,u,i,h=>by
  rw [eP] at h;split at h
  ·rw [List.cons_append,kY,kY,aAk xs _ u i h,List.append_assoc]
  ·cases h
theorem aMg {t u:Tm}{xs:List Int}{j:Nat}(hj:j<xs.length)(h:eP t (xs.take j)=some u):kY t (xs.take (j+1))=kY t (xs.take j)++pF u xs[j]:=by
 rw [oR hj];exact aAk _ _ _ _ h
def aOr (w:World)(o:Option Tm)(ar:List Tm)(e:Ending)(w':World):Prop:=
 Bw w w'∧match o with
 | none=>e = .returned (.tuple #[.agg Zr,.slice none 0 0,.bool false])
 | some (.mk k n ks)=>∃A c D cd,e = .returned (.tuple #[.agg (Ro k n A ks.length c),.slice D ar.length cd,.bool true])∧ks.length≤9223372036854775807∧Rd w A 0 ks∧Rd w' D 0 ar
theorem qR (k n:Int)(ks:List Tm)(A:Option Addr)(c:Nat)(xs:List Int)(P:Option Addr)(cp:Nat)(w:World)(hM:aG ks≤1000000000)(hx:xs.length≤1000000000)(hr:Rd w A 0 ks)(hi:RdI w P xs) :
  Calls prog 21 #[.agg (Ro k n A ks.length c),.slice P xs.length cp] w (aOr w (eP (.mk k n ks) xs) (kY (.mk k n ks) xs)):=by
 have hlen:=aJ ks;go_enter func21,ntmps21;go_wp2_with fail
 go_loopw [7,12] (fun v i wr=>∃(j:Nat) (k1 n1:Int) (ks1:List Tm) (A1:Option Addr) (c1:Nat),j≤xs.length∧i = .int .i64 j∧PartR (fun b=>b<w.heap.size) (w.heap.size+2) wr v (kY (.mk k n ks) (xs.take j))∧Hid (eP (.mk k n ks) (xs.take j)=some (.mk k1 n1 ks1))∧ks1.length≤9223372036854775807∧Rd w A1 0 ks1∧Blk wr w.heap.size (Ro k1 n1 A1 ks1.length c1)∧Blk wr (w.heap.size+1) Zr∧Bw w wr)
  (fun _ i _ => xs.length - (intOf i).toNat)
 case atStart=>exact ⟨0,k,n,ks,A,c,Nat.zero_le _,rfl,PartR.nil,aD rfl,by omega,hr,(aC _ _ _ rfl).alloc _,aC _ _ _ (by simp),bw2⟩
 case round=>
  obtain ⟨j,k1,n1,ks1,A1,c1,hj,rfl,hR,hat,hl1,hr1,hB1,hB2,hb⟩:=hrel;by_cases hlt:j<xs.length
  ·obtain ⟨b,off,rfl,hc⟩:=hi.below hb j hlt;have hnx:=aD (rH hlt hat.out);generalize hxj:xs[j]=x at hc hnx
   have hxj':=aD hxj;have lB1:=hB1.lt;have lB2:=hB2.lt;have p0:=hB1.at_ (i:=0) rfl;have p2:=hB1.at_ (i:=2) rfl;clear hxj;by_cases hin:0≤x∧x<ks1.length
   ·obtain ⟨i,rfl⟩:∃i:Nat,x=(i:Int):=⟨x.toNat,by omega⟩;have hik:i<ks1.length:=by omega
    obtain ⟨b3,off3,k3,n3,ks3,A3,c3,rfl,hkj3,hd1,hd2,hd3,hl3,hr3⟩:=hr1.at_ hik;have hst:eP (.mk k n ks) (xs.take (j+1))=some (.mk k3 n3 ks3):=by
     rw [hnx.out,if_pos (show 0≤(i:Int)∧(i:Int)<(Tm.mk k1 n1 ks1).kids.length from hin),Int.toNat_natCast,show (Tm.mk k1 n1 ks1).kids=ks1 from rfl,List.getD_eq_getElem?_getD,iG hik,Option.getD_some,hkj3]
    have hst':=aD hst;have har0:=aMg (t:=.mk k n ks) hlt hat.out;rw [hxj'.out] at har0;have harl:=zC (.mk k n ks) (xs.take j);rw [List.length_take] at harl;have hw1:(decide ((0:Int)≤(i:Int)) && decide ((i:Int)≤(ks1.length:Int) - 1))=true:=by simp;omega
    clear hkj3 hst hnx;by_cases hun:aO k1 i=1
    ·obtain ⟨b4,off4,k4,n4,ks4,A4,c4,hA4,hkj4,g1,g2,g3,hl4,hr4⟩:=hr1.at_ (j:=0) (by omega);cases hA4
     simp only [Nat.zero_mul,Nat.add_zero] at g1 g2 g3
     have hkw:=bR hb;have e1:=hkw _ _ g1;have e2:=hkw _ _ g2;have e3:=hkw _ _ g3;have har:=aD (show kY (.mk k n ks) (xs.take (j+1))=kY (.mk k n ks) (xs.take j)++[.mk k4 n4 ks4] by rw [har0,rK hun,show aL ks1 0=ks1[0] by simp [aL,List.getD,iG (show 0<ks1.length by omega)],hkj4]);clear hkj4 g1 g2 g3 har0;go_wp2_with (first|(go_at_call 41;refine (cI _ _ _ _).mono ?_;rw [hw1];rintro e w3 ⟨rfl,rfl⟩)|(go_at_call 54;refine (fH _ _ _).mono ?_;rw [hun];rintro e w4 ⟨rfl,rfl⟩)|(at_builtin;refine cC (lo:=fun b=>b<w.heap.size) (B:=w.heap.size+2) (q:=fun b=>b<w.heap.size) (hR.alloc _) (by simp;omega) ((hr4.rdp.below hb).alloc _) (fun b hbl=>⟨.inl hbl,by simp;omega,fun e=>by have:=hR.own_ge b e;omega⟩) hl4 rfl (by omega) wr.heap.size 1 (aC _ 25 _ rfl) rfl (.tmp 29) (.tmp 34) rfl rfl rfl ?_;intro A2 c2 w2 hRq hgq0 _hgr _hnn;have hgq:Below (w.heap.size+2) wr w2:=((dV _ _).alloc (by omega) _).trans hgq0;clear _hgr _hnn hgq0;have hBq:Blk w2 w.heap.size (Ro k1 n1 (some ⟨b3,off3,none⟩) ks1.length c1):=hB1.below hgq (by omega);have hTq:Blk w2 (w.heap.size+1) Zr:=hB2.below hgq (by omega);have hbq:Bw w w2:=bW hb hgq;clear p0 p2 e1 e2 e3 hc;have cc0:=hBq.at_ (i:=0) rfl;have cc1:=hBq.at_ (i:=1) rfl;have cc2:=hBq.at_ (i:=2) rfl;obtain ⟨f0,f1,f2⟩:=kS hBq;have hkq:=bR hbq;have z2:=hkq _ _ hd1;have z3:=hkq _ _ hd2;have z4:=hkq _ _ hd3))
     go_roundw
     case rel=>exact ⟨j+1,k3,n3,ks3,A3,c3,by omega,by go_num,by rw [har.out];exact ((hRq.setCell (by simp) _).setCell (by simp) _).setCell (by simp) _,hst',hl3,hr3,((hBq.set_ 0 _).set_ 1 _).set_ 2 _,((hTq.far (by simp) _).far (by simp) _).far (by simp) _,(bV hbq)⟩
     case measure=>simp [intOf];omega
    ·have hun0:aO k1 i=0:=by have:=eA k1 i;omega
     have har:=aD (show kY (.mk k n ks) (xs.take (j+1))=kY (.mk k n ks) (xs.take j) by rw [har0,vN hun0,List.append_nil]);clear har0;have hkw:=bR hb;have z2:=hkw _ _ hd1;have z3:=hkw _ _ hd2;have z4:=hkw _ _ hd3;have p1:=hB1.at_ (i:=1) rfl;obtain ⟨f0,f1,f2⟩:=kS hB1;clear hun;go_wp2_with (first|(go_at_call 41;refine (cI _ _ _ _).mono ?_;rw [hw1];rintro e w3 ⟨rfl,rfl⟩)|(go_at_call 54;refine (fH _ _ _).mono ?_;rw [hun0];rintro e w4 ⟨rfl,rfl⟩))
     go_roundw
     case rel=>exact ⟨j+1,k3,n3,ks3,A3,c3,by omega,by go_num,by rw [har.out];exact ((hR.setCell (by simp) _).setCell (by simp) _).setCell (by simp) _,hst',hl3,hr3,((hB1.set_ 0 _).set_ 1 _).set_ 2 _,((hB2.far (by simp) _).far (by simp) _).far (by simp) _,(bV hb)⟩
     case measure=>simp [intOf];omega
   ·have hst:eP (.mk k n ks) (xs.take (j+1))=none:=by rw [hnx.out,if_neg (show ¬(0≤x∧x<(Tm.mk k1 n1 ks1).kids.length) from hin)]
    have hno:=aD (pY hst);have hw0:(decide (0≤x) && decide (x≤(ks1.length:Int) - 1))=false:=by
     cases h:(decide (0≤x) && decide (x≤(ks1.length:Int) - 1)) with
     | false=>rfl
     | true=>
      simp only [Bool.and_eq_true,decide_eq_true_eq] at h
      exact absurd ⟨h.1,by omega⟩ hin
    have d0:=hB2.at_ (i:=0) rfl;have d1:=hB2.at_ (i:=1) rfl;have d2:=hB2.at_ (i:=2) rfl;obtain ⟨e0,e1,e2⟩:=kS hB2;clear hst hnx hin;go_wp2_with (go_at_call 41;refine (cI _ _ _ _).mono ?_;rw [hw0];rintro e w3 ⟨rfl,rfl⟩)
    refine bodyPost_ret (v:=.tuple #[.agg Zr,.slice none 0 0,.bool false]) (by simp [results,results21,go_sem,d0,d1,d2]) rfl ?_;rw [hno.out];exact ⟨(bV hb),rfl⟩
  ·have hjl:j=xs.length:=by omega
   subst hjl;have h5:=hat.out;rw [List.take_length] at h5 hR;obtain ⟨D,cd,rfl,hRd0⟩:=hR.rd;have h5':=aD h5;clear h5;have cc0:=hB1.at_ (i:=0) rfl;have cc1:=hB1.at_ (i:=1) rfl;have cc2:=hB1.at_ (i:=2) rfl;have d0:=hB2.at_ (i:=0) rfl;have d1:=hB2.at_ (i:=1) rfl;have d2:=hB2.at_ (i:=2) rfl;obtain ⟨e0,e1,e2⟩:=kS hB2;go_wp2_with fail
   refine bodyPost_ret (v:=.tuple #[.agg (Ro k1 n1 A1 ks1.length c1),.slice D (kY (.mk k n ks) xs).length cd,.bool true]) (by simp [results,results21,go_sem,d0,d1,d2]) rfl ?_;rw [h5'.out];exact ⟨(bV hb),A1,c1,D,cd,rfl,hl1,hr1,(((hRd0.setCell (by simp) _).setCell (by simp) _).setCell (by simp) _).rd⟩
mutual
def mxT:Int→Int→Tm→Int|d,a,.mk k n ks=>tJ k d 0 (if k=1∧d≤n then max a (n - d+1) else a) ks
def tJ:Int→Int→Nat→Int→List Tm→Int|_,_,_,a,[]=>a|k,d,i,a,t::ts=>tJ k d (i+1) (mxT (d+aO k i) a t) ts
end
theorem vJ (k d:Int)(us:List Tm):∀(ts:List Tm) (i:Nat) (a:Int),tJ k d i a (ts++us)=tJ k d (i+ts.length) (tJ k d i a ts) us
 | [],i,a=>by simp [tJ]
 | t::ts,i,a=>by rw [List.cons_append,tJ,tJ,vJ k d us ts (i+1),List.length_cons,show i+1+ts.length=i+(ts.length+1) from by omega]
theorem aLn (k d a:Int){ks:List Tm}{j:Nat}(hj:j<ks.length):tJ k d 0 a (ks.take (j+1))=mxT (d+aO k j) (tJ k d 0 a (ks.take j)) ks[j]:=by
 rw [oR hj,vJ,List.length_take,Nat.min_eq_left (Nat.le_of_lt hj),Nat.zero_add,tJ,tJ]
theorem mx_le:(∀(t:Tm) (q:Nat) (d a:Int),shape q t=true→0≤d→0≤a→a≤21→0≤mxT d a t∧mxT d a t≤21)∧
  (∀ (ts : List Tm) (q : Nat) (k d a : Int) (i : Nat), (∀ t, t ∈ ts → shape q t = true) → 0 ≤ d → 0 ≤ a → a ≤ 21 → 0 ≤ tJ k d i a ts ∧ tJ k d i a ts ≤ 21) := by
 refine bM (fun k n ks ih q d a h hd h0 h1=>?_) (fun q k d a i _ _ h0 h1=>by rw [tJ];exact ⟨h0,h1⟩) (fun t ts h1 h2 q k d a i hk hd h0 h3=>?_)
 ·obtain ⟨q,rfl,ha,hn0,hm,hk⟩:=cG h;rw [mxT];refine ih q k d _ 0 hk hd ?_ ?_
  ·split<;>omega
  ·split
   ·rename_i hc
    have:eX k=20:=by rw [hc.1];rfl
    omega
   ·exact h1
 ·rw [tJ];have:=eA k i;have h4:=h1 q (d+aO k i) a (hk t List.mem_cons_self) (by omega) h0 h3;exact h2 q k d _ (i+1) (fun t ht=>hk t (List.mem_cons_of_mem _ ht)) hd h4.1 h4.2
theorem zQ {w w':World}{g B:Nat}(h:w.grownBy w' (some g))(hB:B≤w.heap.size)(hg:B≤g):Below B w w':=
 ⟨h.os,h.tape,h.output,h.size,fun b hb=>h.block b (by omega) (by simp;omega)⟩
def aPb:Value:=.tuple #[]
theorem aJn (z cc:Int)(g:Nat)(w:World)(hg:Blk w g #[.int .i64 cc])(h0:0≤cc)(h1:cc≤1000)(hz:0≤z)(hz1:z≤1000) :
  Calls prog 61 #[.int .i64 z,.pointer (some ⟨g,0,none⟩)] w fun e w'=>e = .returned aPb∧Blk w' g #[.int .i64 (max cc (z+1))]∧w.grownBy w' (some g):=by
 have a1:=hg.at_ (i:=0) rfl;have a2:=hg.frozen 0;go_enter func61,ntmps61;all_goals go_wp2_with fail
 all_goals first|(refine bodyPost_ret (results_none rfl _ _ _) rfl ?_)|(refine bodyPost_end (results_none rfl _ _ _) rfl ?_)
 all_goals exact ⟨rfl,by first|(exact hg.set_ 0 _)|(rw [show max cc (z+1)=z+1 from by omega];exact hg.set_ 0 _)|(rw [show max cc (z+1)=cc from by omega];exact hg.set_ 0 _),aK (gG _ _) (.inl rfl) _⟩
def aRj (g:Nat)(cc:Int)(w:World)(e:Ending)(w':World):Prop:=e = .returned aPb∧Blk w' g #[.int .i64 cc]∧w.grownBy w' (some g)
theorem aHb (N:Nat):∀(k n:Int) (ks:List Tm) (A:Option Addr) (c:Nat) (d:Int) (q:Nat) (g:Nat) (cc:Int) (w:World),aG ks<N→aG ks≤1000000→shape q (.mk k n ks)=true→0≤d→d+q≤1000→Blk w g #[.int .i64 cc]→0≤cc→cc≤21→RdP (·≠g) w A 0 ks→
  Calls prog 60 #[.agg (Ro k n A ks.length c),.int .i64 d,.func (.func 61) #[] #[.pointer (some ⟨g,0,none⟩)]] w (aRj g (mxT d cc (.mk k n ks)) w):=by
 induction N with
 | zero=>intro k n ks A c d q g cc w hN;exact absurd hN (Nat.not_lt_zero _)
 | succ N ih=>
 intro k n ks A c d q g cc w hN hZM hsh hd hdq hg h0 hM hr;have hrun:=eJ func61 (by kernel_rfl) (by kernel_rfl);have hlen:=aJ ks;obtain ⟨q,rfl,ha,hm1,hm2,hkids⟩:=cG hsh;have hgl:=hg.lt;rw [mxT];by_cases hk:k=1
 ·subst hk;have:=tS ha;subst this;have hn2:n≤20:=by simpa [eX] using hm2
  rw [tJ];clear hkids hsh ha hm2;by_cases h1:d≤n
  ·have q1:decide (d≤n)=true:=decide_eq_true h1;rw [if_pos ⟨rfl,h1⟩];generalize hcv:max cc (n - d+1)=cv
   have hcv':=aD hcv;have h1':=aD h1;have hnd:0≤n - d∧n - d≤20:=by omega
   clear hcv h1;go_enter func60,ntmps60;go_wp2_with (refine (aJn (n - d) cc g _ (hg.alloc _) h0 (by omega) hnd.1 (by omega)).mono ?_;rw [hcv'.out];rintro e w1 ⟨rfl,hg1,hb1⟩;have hB1:=(aC (n:=w.heap.size) w 25 (Ro 1 n A 0 c) rfl).grown hb1 (by simp;omega);replace hb1:=eM (aM (gG _ _) _) hb1;have b2:=hB1.at_ (i:=2) rfl)
   go_loopw [26] (fun i wr=>i = .int .i64 0∧Blk wr g #[.int .i64 (cv)]∧w.grownBy wr (some g)) (fun _ _=>0)
   case atStart=>exact ⟨rfl,hg1,hb1⟩
   case round=>
    obtain ⟨rfl,hG,hgr⟩:=hrel;go_wp2_with fail
    first|(refine bodyPost_ret (results_none rfl _ _ _) rfl ?_)|(refine bodyPost_end (results_none rfl _ _ _) rfl ?_)
    exact ⟨rfl,hG,hgr⟩
  ·have q1:decide (d≤n)=false:=decide_eq_false h1;rw [if_neg (by rintro ⟨-,h⟩;exact h1 h)];clear h1;go_enter func60,ntmps60;go_wp2_with fail
   have hb1:w.grownBy (w.alloc (.cells (Ro 1 n A 0 c) 25)) (some g):=aM (gG _ _) _;have hg1:=hg.alloc (.cells (Ro 1 n A 0 c) 25);go_loopw [26] (fun i wr=>i = .int .i64 0∧Blk wr g #[.int .i64 (cc)]∧w.grownBy wr (some g)) (fun _ _=>0)
   case atStart=>exact ⟨rfl,hg1,hb1⟩
   case round=>
    obtain ⟨rfl,hG,hgr⟩:=hrel;go_wp2_with fail
    first|(refine bodyPost_ret (results_none rfl _ _ _) rfl ?_)|(refine bodyPost_end (results_none rfl _ _ _) rfl ?_)
    exact ⟨rfl,hG,hgr⟩
 ·have q1:(k==1)=false:=by simpa using hk
  rw [if_neg (by rintro ⟨h,-⟩;exact hk h)];have hkids':=aD hkids;clear hk hkids hsh ha hm2;go_enter func60,ntmps60;go_wp2_with fail
  go_loopw [26] (fun i wr=>∃(j:Nat),j≤ks.length∧i = .int .i64 j∧Blk wr g #[.int .i64 (tJ k d 0 cc (ks.take j))]∧Blk wr w.heap.size (Ro k n A ks.length c)∧w.grownBy wr (some g)) (fun i _=>ks.length - (intOf i).toNat)
  case atStart=>exact ⟨0,Nat.zero_le _,rfl,by simpa [tJ] using hg.alloc _,aC _ _ _ rfl,aM (gG _ _) _⟩
  case round=>
   obtain ⟨j,hj,rfl,hG,hB1,hgr⟩:=hrel;by_cases hlt:j<ks.length
   ·obtain ⟨b,off,k1,n1,ks1,A1,c1,rfl,hkj,hc1,hc2,hc3,hl1,hr1⟩:=(hr.grown hgr (fun b hb e=>hb (by injection e))).at_ hlt;have hbl:=jN _ _ hc1;have hsz:=bY (fG hlt);have hcs:=mx_le.2 (ks.take j) q k d cc 0 (fun t ht=>hkids'.out t (List.mem_of_mem_take ht)) hd h0 hM;have hsk:=hkids'.out _ (fG hlt);have hnx:=aD (aLn k d cc hlt);generalize tJ k d 0 cc (ks.take j)=cj at hG hcs hnx
    rw [hkj] at hsz hsk;simp only [Tm.size] at hsz
    have H3:=aD hkj;have H4:=aD hsk;clear hkj hsk;go_wp2_with fail
    have hNew:=aC (n:=wr.heap.size) wr 25 (Ro k1 n1 A1 ks1.length c1) rfl;have hB1a:=hB1.alloc (.cells (Ro k1 n1 A1 ks1.length c1) 25);have hGa:=hG.alloc (.cells (Ro k1 n1 A1 ks1.length c1) 25);have hra:=hr1.alloc (.cells (Ro k1 n1 A1 ks1.length c1) 25);have hwa:wr.grownBy (wr.alloc (.cells (Ro k1 n1 A1 ks1.length c1) 25)) (some g):=aM (gG _ _) _;generalize wr.alloc (.cells (Ro k1 n1 A1 ks1.length c1) 25)=wa at hNew hB1a hGa hra hwa⊢
    have r7:=hB1a.rule (i:=0) rfl;have r1:=hNew.rule (i:=0) rfl;have r2:=hNew.rule (i:=1) rfl;have r3:=hNew.rule (i:=2) rfl;have hun:=eA k j;refine aZ (fun w'=>Bw wa w') [0,1,2,3,4,5,6,7] [] [8] [_,_,_,_,_,_,_,_] [] [_] (by kernel_rfl) (by kernel_rfl) rfl rfl rfl (fun _ _ d _ _ h=>by cases d<;>exact h) (dV _ _).drew ?_;repeat (first|((refine mL (a':=?_) ?_ ?_ ?_);(rotate_left);(· (simp [Region.wanted,yielded,Go.undef];done));(· (simp only [List.getElem_toArray,List.getElem_cons_zero,List.getElem_cons_succ,Act.put,List.setIfInBounds_toArray,List.set_cons_zero,List.set_cons_succ];exact rfl)))|((refine mV (v:=?_) (a':=?_) ?_ ?_ ?_ ?_);(rotate_left 2);(· (simp [Region.wanted,yielded,Go.undef];done));(· (intro w' hS';go_simp;try (with_reducible rfl)));(· (simp only [List.getElem_toArray,List.getElem_cons_zero,List.getElem_cons_succ,Act.put,List.setIfInBounds_toArray,List.set_cons_zero,List.set_cons_succ];exact rfl)))|((refine pU (v:=?_) (a':=?_) 54 ?_ ?_ ?_ ?_ ?_ ?_);(rotate_left 3);(· (simp [Region.wanted,yielded,Go.undef];done));(· (intro w' hS';go_simp;try (with_reducible rfl)));(· (intro w' hS';exact fH _ _ _));(· (simp only [List.getElem_toArray,List.getElem_cons_zero,List.getElem_cons_succ,Act.put,List.setIfInBounds_toArray,List.set_cons_zero,List.set_cons_succ];exact rfl))))
    refine oL (cS ?_);clear r1 r2 r3 r7;go_wp2_with (go_at_call 60;refine (ih k1 n1 ks1 A1 c1 (d+aO k j) q g cj _ (by omega) (by omega) H4.out (by omega) (by omega) hGa.drew hcs.1 hcs.2 hra.drew).mono ?_;rintro e w1 ⟨rfl,hg1,hb1⟩)
    have hb1':wr.grownBy w1 (some g):=eM hwa (eM (cQ (gG _ _)) hb1);go_roundw
    case rel=>exact ⟨j+1,by omega,by go_num,by rw [hnx.out,H3.out];exact hg1,hB1.grown hb1' (by simp;omega),eM hgr hb1'⟩
    case measure=>simp [intOf];omega
   ·go_wp2_with fail
    first|(refine bodyPost_ret (results_none rfl _ _ _) rfl ?_)|(refine bodyPost_end (results_none rfl _ _ _) rfl ?_)
    have hjl:j=ks.length:=by omega
    subst hjl;rw [List.take_length] at hG;exact ⟨rfl,hG,hgr⟩
def mfT (t:Tm):Int:=mxT 0 0 t
theorem aQv {t:Tm}(h:aE t=true):0≤mfT t∧mfT t≤21:=mx_le.1 t 30 0 0 (by simp only [aE,Bool.and_eq_true] at h;exact h.1) (by omega) (by omega) (by omega)
theorem yG (k n:Int)(ks:List Tm)(A:Option Addr)(c:Nat)(w:World)(hv:aE (.mk k n ks)=true)(hr:Rd w A 0 ks) :
  Calls prog 32 #[.agg (Ro k n A ks.length c)] w fun e w'=>e = .returned (.int .i64 (mfT (.mk k n ks)))∧Bw w w':=by
 have hsh:shape 30 (.mk k n ks)=true:=by simp only [aE,Bool.and_eq_true] at hv;exact hv.1
 have hzv:=aI hv;have hRp:RdP (·≠w.heap.size+1) w A 0 ks:=hr.rdp.mono (fun b hb=>by omega);have hshh:=aD hsh;clear hv hsh;rw [mfT];go_enter func32,ntmps32;go_wp2_with (go_at_call 60;refine (aHb _ k n ks A c 0 30 (w.heap.size+1) 0 _ (nH _) (by omega) hshh.out (by omega) (by omega) (aC _ _ _ (by simp)) (by omega) (by omega) ((hRp.alloc _).alloc _)).mono ?_;rintro e w1 ⟨rfl,hg1,hb1⟩;have g0:=hg1.at_ (i:=0) rfl)
 go_ret
 exact ⟨rfl,bw2.trans (zQ hb1 (by simp;omega) (by omega))⟩
theorem qT (k n:Int)(ks:List Tm)(A:Option Addr)(c:Nat)(w:World)(hM:aG ks≤1000000)(hr:Rd w A 0 ks) :
  Calls prog 8 #[.agg (Ro k n A ks.length c)] w fun e w'=>e = .returned (.int .i64 (if aE (.mk k n ks)=true then mfT (.mk k n ks) else -1))∧Bw w w':=by
 by_cases hv:aE (.mk k n ks)=true
 ·rw [if_pos hv];have hvh:=aD hv;clear hv;go_enter func8,ntmps8;go_wp2_with (first
   | (go_at_call 32;have _t:=tok1;refine (yG k n ks A c _ hvh.out ((hr.alloc _).below hb1)).mono ?_;rintro e w2 ⟨rfl,hb2⟩)
   | (go_at_call 19;refine (aQ k n ks A c _ (by omega) (hr.alloc _)).mono ?_;rw [hvh.out];rintro e w1 ⟨rfl,hb1⟩;have hX:=(aC w 25 (Ro k n A ks.length c) rfl).keep hb1;have g1:Bw w w1:=bW bw1 hb1;obtain ⟨x0,x1,x2⟩:=hX.three;have tok1:=trivial))
  go_ret
  exact ⟨rfl,g1.trans (hb2.mono g1.size)⟩
 ·rw [if_neg hv];have hvh:=aD (show aE (.mk k n ks)=false by simpa using hv);clear hv;go_enter func8,ntmps8;go_wp2_with (go_at_call 19;refine (aQ k n ks A c _ (by omega) (hr.alloc _)).mono ?_;rw [hvh.out];rintro e w1 ⟨rfl,hb1⟩;have g1:Bw w w1:=bW bw1 hb1)
  go_ret
  exact ⟨rfl,g1⟩
theorem aFn (k n:Int)(ks:List Tm)(A:Option Addr)(c:Nat)(w:World)(hv:aE (.mk k n ks)=true)(hr:Rd w A 0 ks) :
  Calls prog 35 #[.agg (Ro k n A ks.length c)] w fun e w'=>e = .returned (.bool false)∧Bw w w':=by
 have hz:=aI hv;have hv':=aD hv;clear hv;go_enter func35,ntmps35;go_wp2_with (go_at_call 19;refine (aQ k n ks A c _ (by omega) (hr.alloc _)).mono ?_;rw [hv'.out];rintro e w1 ⟨rfl,hb1⟩;have g1:Bw w w1:=bW bw1 hb1)
 go_ret
 exact ⟨rfl,g1⟩
theorem aFt (ts:List Tm)(A:Option Addr)(c:Nat)(w:World)(hl:ts.length≤1000000)(hts:∀u,u∈ts→aE u=true)(hr:Rd w A 0 ts) :
  Calls prog 63 #[.slice A ts.length c,.func (.func 35) #[] #[]] w fun e w'=>e = .returned (.int .i64 (-1))∧Bw w w':=by
 go_enter func63,ntmps63;go_wp2_with fail
 go_loopw [8] (fun i wr=>∃j:Nat,j≤ts.length∧i = .int .i64 j∧Bw w wr)
  (fun i _ => ts.length - (intOf i).toNat)
 case atStart=>exact ⟨0,Nat.zero_le _,rfl,dV _ _⟩
 case round=>
  obtain ⟨j,hj,rfl,hb⟩:=hrel;by_cases hlt:j<ts.length
  ·obtain ⟨b,off,k1,n1,ks1,A1,c1,rfl,hkj,hc1,hc2,hc3,hl1,hr1⟩:=(hr.below hb).at_ hlt;have hv1:=hts _ (fG hlt);rw [hkj] at hv1;have hv1':=aD hv1;clear hkj hv1;go_wp2_with (go_at_call 35;refine (aFn k1 n1 ks1 A1 c1 _ hv1'.out hr1).mono ?_;rintro e w3 ⟨rfl,hb3⟩)
   go_roundw
   case rel=>exact ⟨j+1,by omega,by go_num,hb.trans (hb3.mono hb.size)⟩
   case measure=>simp [intOf];omega
  ·go_wp2_with fail
   go_ret
   exact ⟨rfl,hb⟩
theorem aLj (ts:List Tm)(A:Option Addr)(c:Nat)(w:World)(hl:ts.length≤1000000)(hts:∀u,u∈ts→aE u=true)(hr:Rd w A 0 ts) :
  Calls prog 34 #[.slice A ts.length c,.func (.func 35) #[] #[]] w fun e w'=>e = .returned (.bool false)∧Bw w w':=by
 have htsh:=aD hts;clear hts;go_enter func34,ntmps34;go_wp2_with (go_at_call 63;refine (aFt ts A c _ hl htsh.out hr).mono ?_;rintro e w1 ⟨rfl,hb1⟩)
 go_ret
 exact ⟨rfl,hb1⟩
theorem aHe (k n:Int)(ks:List Tm)(A:Option Addr)(c:Nat)(w:World)(hv:aE (.mk k n ks)=true)(hr:Rd w A 0 ks) :
  Calls prog 62 #[.agg (Ro k n A ks.length c)] w fun e w'=>e = .returned (.bool false)∧Bw w w':=by
 have hz:=aI hv;have hv':=aD hv;clear hv;go_enter func62,ntmps62;go_wp2_with (go_at_call 19;refine (aQ k n ks A c _ (by omega) (hr.alloc _)).mono ?_;rw [hv'.out];rintro e w1 ⟨rfl,hb1⟩;have g1:Bw w w1:=bW bw1 hb1)
 go_ret
 exact ⟨rfl,g1⟩
theorem aHa (ts:List Tm)(A:Option Addr)(c:Nat)(w:World)(hl:ts.length≤1000000)(hts:∀u,u∈ts→aE u=true)(hr:Rd w A 0 ts) :
  Calls prog 63 #[.slice A ts.length c,.func (.func 62) #[] #[]] w fun e w'=>e = .returned (.int .i64 (-1))∧Bw w w':=by
 go_enter func63,ntmps63;go_wp2_with fail
 go_loopw [8] (fun i wr=>∃j:Nat,j≤ts.length∧i = .int .i64 j∧Bw w wr)
  (fun i _ => ts.length - (intOf i).toNat)
 case atStart=>exact ⟨0,Nat.zero_le _,rfl,dV _ _⟩
 case round=>
  obtain ⟨j,hj,rfl,hb⟩:=hrel;by_cases hlt:j<ts.length
  ·obtain ⟨b,off,k1,n1,ks1,A1,c1,rfl,hkj,hc1,hc2,hc3,hl1,hr1⟩:=(hr.below hb).at_ hlt;have hv1:=hts _ (fG hlt);rw [hkj] at hv1;have hv1':=aD hv1;clear hkj hv1;go_wp2_with (go_at_call 62;refine (aHe k1 n1 ks1 A1 c1 _ hv1'.out hr1).mono ?_;rintro e w3 ⟨rfl,hb3⟩)
   go_roundw
   case rel=>exact ⟨j+1,by omega,by go_num,hb.trans (hb3.mono hb.size)⟩
   case measure=>simp [intOf];omega
  ·go_wp2_with fail
   go_ret
   exact ⟨rfl,hb⟩
theorem aLb (ts:List Tm)(A:Option Addr)(c:Nat)(w:World)(hl:ts.length≤1000000)(hts:∀u,u∈ts→aE u=true)(hr:Rd w A 0 ts) :
  Calls prog 34 #[.slice A ts.length c,.func (.func 62) #[] #[]] w fun e w'=>e = .returned (.bool false)∧Bw w w':=by
 have htsh:=aD hts;clear hts;go_enter func34,ntmps34;go_wp2_with (go_at_call 63;refine (aHa ts A c _ hl htsh.out hr).mono ?_;rintro e w1 ⟨rfl,hb1⟩)
 go_ret
 exact ⟨rfl,hb1⟩
theorem aHl (k n:Int)(ks:List Tm)(A:Option Addr)(c:Nat)(w:World)(hv:aE (.mk k n ks)=true)(hr:Rd w A 0 ks) :
  Calls prog 69 #[.agg (Ro k n A ks.length c)] w fun e w'=>e = .returned (.bool false)∧Bw w w':=by
 have hz:=aI hv;have hv':=aD hv;clear hv;go_enter func69,ntmps69;go_wp2_with (go_at_call 19;refine (aQ k n ks A c _ (by omega) (hr.alloc _)).mono ?_;rw [hv'.out];rintro e w1 ⟨rfl,hb1⟩;have g1:Bw w w1:=bW bw1 hb1)
 go_ret
 exact ⟨rfl,g1⟩
theorem aFp (ts:List Tm)(A:Option Addr)(c:Nat)(w:World)(hl:ts.length≤1000000)(hts:∀u,u∈ts→aE u=true)(hr:Rd w A 0 ts) :
  Calls prog 63 #[.slice A ts.length c,.func (.func 69) #[] #[]] w fun e w'=>e = .returned (.int .i64 (-1))∧Bw w w':=by
 go_enter func63,ntmps63;go_wp2_with fail
 go_loopw [8] (fun i wr=>∃j:Nat,j≤ts.length∧i = .int .i64 j∧Bw w wr)
  (fun i _ => ts.length - (intOf i).toNat)
 case atStart=>exact ⟨0,Nat.zero_le _,rfl,dV _ _⟩
 case round=>
  obtain ⟨j,hj,rfl,hb⟩:=hrel;by_cases hlt:j<ts.length
  ·obtain ⟨b,off,k1,n1,ks1,A1,c1,rfl,hkj,hc1,hc2,hc3,hl1,hr1⟩:=(hr.below hb).at_ hlt;have hv1:=hts _ (fG hlt);rw [hkj] at hv1;have hv1':=aD hv1;clear hkj hv1;go_wp2_with (go_at_call 69;refine (aHl k1 n1 ks1 A1 c1 _ hv1'.out hr1).mono ?_;rintro e w3 ⟨rfl,hb3⟩)
   go_roundw
   case rel=>exact ⟨j+1,by omega,by go_num,hb.trans (hb3.mono hb.size)⟩
   case measure=>simp [intOf];omega
  ·go_wp2_with fail
   go_ret
   exact ⟨rfl,hb⟩
theorem aKd (ts:List Tm)(A:Option Addr)(c:Nat)(w:World)(hl:ts.length≤1000000)(hts:∀u,u∈ts→aE u=true)(hr:Rd w A 0 ts) :
  Calls prog 34 #[.slice A ts.length c,.func (.func 69) #[] #[]] w fun e w'=>e = .returned (.bool false)∧Bw w w':=by
 have htsh:=aD hts;clear hts;go_enter func34,ntmps34;go_wp2_with (go_at_call 63;refine (aFp ts A c _ hl htsh.out hr).mono ?_;rintro e w1 ⟨rfl,hb1⟩)
 go_ret
 exact ⟨rfl,hb1⟩
theorem wJ (ts:List Tm)(A:Option Addr)(c:Nat)(w:World)(hl:ts.length≤8)(hts:∀u,u∈ts→aE u=true)(hr:Rd w A 0 ts) :
  Calls prog 33 #[.slice A ts.length c] w fun e w'=>e = .returned (.bool true)∧Bw w w':=by
 have htsh:=aD hts;have hq:decide ((ts.length:Int)≤8)=true:=by simp;omega
 clear hts;go_enter func33,ntmps33;go_wp2_with (go_at_call 34;refine (aLb ts A c _ (by omega) htsh.out hr).mono ?_;rintro e w1 ⟨rfl,hb1⟩)
 go_ret
 exact ⟨rfl,hb1⟩
theorem tH {p:Nat→Prop}{w:World}{l:List Tm}{L:Option Addr}{cl:Nat}(hl:RdP p w L 0 l)(hp:∀b,p b→b<w.heap.size)(hlen:l.length≤1099511627776)(ty:TypeId) :
  ∃v' w',(Builtin.append_ #[23,23] ty #[.slice none 0 0,.slice L l.length cl]).run prog w = .ok v' w'∧PartR p w.heap.size w' v' l∧Bw w w':=by
 obtain ⟨i,hi,hz,hz1,hz2⟩:=info_parts jT;have k1:w.ownsRow w.heap.size 25 3 (.slice none 0 0) 0 []:=World.ownsRow_nil _ _ _ _;cases l with
 | nil=>
  refine ⟨.slice none 0 0,w,run_append_nothing w 23 23 ty 25 i Tryz.underlying23 hi _ 0 0 (iD _) _ ⟨.inl ⟨25,Tryz.underlying23⟩,fun w'=>by simp [Builtin.lenOf],by cases L<;>simp [Builtin.firstCells,loadCells,loadCellsFrom],by cases L<;>simp [Builtin.firstCells,loadCells,loadCellsFrom],by simp,fun u hu=>by cases hu⟩,⟨[],k1,rfl⟩,dV _ _⟩
 | cons t ts=>
  obtain ⟨⟨b,off,rfl,_⟩,_⟩:=RdP.cons_iff.1 hl;obtain ⟨x1,hx,hc⟩:=yY hl;obtain ⟨v',w',hrun,hown,hgr,_,hat⟩:=run_append_own_at (P:=prog) w w.heap.size 23 ty 25 i _ 3 40 Tryz.underlying23 hi hz hz1 hz2 rfl (by omega) _ 0 [] k1 ⟨b,off,none⟩ (t::ts).length cl x1 hx.length (fun j u hj=>by
    have:=hc j u hj;rw [show Addr.add ⟨b,off,none⟩ j=⟨b,off+0*3+j,none⟩ from by simp only [Addr.add];split<;>simp_all];exact this) hx.oneC (by simp only [maxLen];omega) (by omega) (iD _)
  rw [Nat.zero_add,List.nil_append] at hown;have hsz:=hgr.size;have hvo:∀b,b<w.heap.size→v'.ownBlock≠some b:=by
   intro b hb e;rcases hat with e'|e'
   ·rw [e'] at e;simp [Value.ownBlock] at e
   ·rw [e'] at e;injection e with e;omega
  exact ⟨v',w',hrun,⟨x1,hown,hx.keep (fun b hb=>⟨.inl hb,by have:=hp b hb;omega,hvo b (hp b hb)⟩) fun b hb hl=>hgr.block b hl (fun e=>by simp [Value.ownBlock] at e)⟩,⟨hgr.os,hgr.tape,hgr.output,hgr.size,fun b hb=>hgr.block b hb (fun e=>by simp [Value.ownBlock] at e)⟩⟩
theorem pI {p:Nat→Prop}{w:World}{l:List Tm}{L:Option Addr}{cl:Nat}(hl:RdP p w L 0 l)(hp:∀b,p b→b<w.heap.size){m:Nat}(hm:l.length=m)(hlen:m≤1099511627776)
  {ops:Array Oper} {rest:List Oper} {o:Oper} {a:Act} {Q:Exit→Act→World→Prop} (hgd:o.guard=none) (s x:Operand)
  (ho : o.op = .call { callee := .builtin .append, args := #[s, x], argTypes := #[23, 23] }) (hs : a.eval s = .slice none 0 0) (hx : a.eval x = .slice L m cl)
  (h : ∀ A' c' w', PartR p w.heap.size w' (.slice A' m c') l → Bw w w' → wpList prog ops Q rest (a.put o.dst (.slice A' m c')) w') :
  wpList prog ops Q (o::rest) a w:=by
 subst hm;refine wpList_plain hgd fun K hK=>?_
 obtain ⟨v',w',hrun,h2,h3⟩:=tH (cl:=cl) hl hp hlen o.type;unfold Oper.wp execOp
 simp only [ho,resolve,invoke,builtin,Sem.run_bind,Sem.run_pure,Result.andThen_ok,List.map_toArray,List.map_cons,List.map_nil,hs,hx,hrun]
 obtain ⟨A',c',rfl⟩:=h2.shape;exact hK _ _ (h A' c' w' h2 h3)
theorem PartR.capY {lo:Nat→Prop}{B:Nat}{w:World}{A:Option Addr}{n c:Nat}{ts:List Tm}(h:PartR lo B w (.slice A n c) ts):ts.length≤c:=by
 obtain ⟨xs,h1,_⟩:=h;rcases h1.2 with ⟨e,h0⟩|⟨g,cap,cur,e,hb,hg,hn,_⟩
 ·omega
 ·injection e with e1 e2 e3;omega
theorem aIs (C:Option Addr)(c:Nat)(w:World):Calls prog 38 #[.slice C 0 c] w fun e w'=>e = .returned (.slice none 0 0)∧Bw w w':=by
 go_enter func38,ntmps38;go_wp2_with fail
 go_loopw [3,8] (fun v i wr=>v = .slice none 0 0∧i = .int .i64 0∧Bw w wr)
  (fun _ i _ => (intOf i).toNat)
 case atStart=>exact ⟨rfl,rfl,dV _ _⟩
 case round=>
  obtain ⟨rfl,rfl,hb⟩:=hrel;go_wp2_with fail
  go_ret
  exact ⟨rfl,hb⟩
theorem rX (C:Option Addr)(c:Nat)(w:World):Calls prog 33 #[.slice C 0 c] w fun e w'=>e = .returned (.bool true)∧Bw w w':=wJ [] C c w (by simp) (fun u hu=>by cases hu) Rd.nil
theorem aDy (k n:Int)(ks:List Tm)(A:Option Addr)(c:Nat)(xs:List Int)(P:Option Addr)(cp:Nat)(C:Option Addr)(c0:Nat)(w:World)(k1 n1:Int)(ks1:List Tm)(hx:eP (.mk k n ks) xs=some (.mk k1 n1 ks1))(hv:aE (.mk k n ks)=true)(hsa:aG (kY (.mk k n ks) xs)≤1099511627776)(hxl:xs.length≤1000000000)(hr:Rd w A 0 ks)(hi:RdI w P xs) :
  Calls prog 10 #[.slice C 0 c0,.agg (Ro k n A ks.length c),.slice P xs.length cp] w fun e w'=>Bw w w'∧((8<(kY (.mk k n ks) xs).length∧e = .returned (.tuple #[.slice none 0 0,.bool false]))∨((kY (.mk k n ks) xs).length≤8∧∃D cd,e = .returned (.tuple #[.slice D (kY (.mk k n ks) xs).length cd,.bool true])∧(kY (.mk k n ks) xs).length≤cd∧Rd w' D 0 (kY (.mk k n ks) xs))):=by
 have hz:=aI hv;have hv':=aD hv;have hal:=zC (.mk k n ks) xs;have hW:=aD (fun (w:World) (hr:Rd w A 0 ks) (hi:RdI w P xs)=>by have:=qR k n ks A c xs P cp w (by omega) hxl hr hi;rw [hx] at this;exact this);clear hv hx;obtain ⟨ar,har⟩:∃ar,ar=kY (.mk k n ks) xs:=⟨_,rfl⟩;rw [← har] at hW hal hsa⊢;clear har;by_cases h8:ar.length≤8
 ·have hq:decide ((0:Int)+(ar.length:Int) > 8)=false:=by simp;omega
  have hq2:IntKind.i64.wrap ((0:Int)+(ar.length:Int))=(ar.length:Int):=by rw [Int.zero_add];exact IntWalk.i64_in _ (by omega)
  have hq3:decide ((ar.length:Int) > 8)=false:=by simp;omega
  have hq4:decide ((8:Int)<(ar.length:Int))=false:=by simp;omega
  go_enter func10,ntmps10;go_wp2_with (first
   | (go_at_call 38;have _t:=tok4;refine (aCv ar D cd _ (by omega) (rd3.below hb4)).mono ?_;rintro e w5 ⟨D5,c5,rfl,hf5,hb5⟩;have g5:=g4.trans (hb5.mono g4.size);clear tok4 _t;have tok5:=trivial)
   | (go_at_call 38;have _t:=tok3;refine (aIs _ _ _).mono ?_;rintro e w4 ⟨rfl,hb4⟩;have g4:=(g3.alloc g3.size (.cells (Ro k1 n1 A3 ks1.length c3) 25)).trans (hb4.mono (by have:=g3.size;simp;omega));replace hb4:=((dV _ _).alloc (iD _) (.cells (Ro k1 n1 A3 ks1.length c3) 25)).trans (hb4.mono (by simp));clear tok3 _t;have tok4:=trivial)
   | (go_at_call 21;have _t:=tok2;refine (hW.out _ (hr.below g2) (hi.below g2)).mono ?_;rintro e w3 ⟨hb3,A3,c3,D,cd,rfl,hl3,_,rd3⟩;have g3:=g2.trans (hb3.mono g2.size);clear tok2 _t y0 y1 y2;have tok3:=trivial)
   | (go_at_call 33;have _t:=tok1;refine (rX _ _ _).mono ?_;rintro e w2 ⟨rfl,hb2⟩;have g2:=g1.trans (hb2.mono g1.size);obtain ⟨y0,y1,y2⟩:=(hX1.keep hb2).three;clear tok1 _t;have tok2:=trivial)
   | (go_at_call 19;refine (aQ k n ks A c _ (by omega) (hr.alloc _)).mono ?_;rw [hv'.out];rintro e w1 ⟨rfl,hb1⟩;have hX1:=(aC w 25 (Ro k n A ks.length c) rfl).keep hb1;have g1:Bw w w1:=bW bw1 hb1;have tok1:=trivial)
   | (at_builtin;have _t:=tok5;refine pI (p:=fun b=>w4.heap.size≤b∧b<w5.heap.size) hf5.rdp (fun b hb=>hb.2) rfl (by omega) rfl _ _ rfl rfl rfl ?_;intro D6 c6 w6 hP6 hb6;have hcap:=hP6.capY;obtain ⟨D6',c6',e6,rd6⟩:=hP6.rd;injection e6 with e6a e6b e6c;subst e6a;clear e6b e6c))
  go_ret2
  exact ⟨g5.trans (hb6.mono g5.size),.inr ⟨h8,D6,c6,rfl,hcap,rd6.rd⟩⟩
 ·have hq2:IntKind.i64.wrap ((0:Int)+(ar.length:Int))=(ar.length:Int):=by rw [Int.zero_add];exact IntWalk.i64_in _ (by omega)
  have hq3:decide ((ar.length:Int) > 8)=true:=by simp;omega
  have hq4:decide ((8:Int)<(ar.length:Int))=true:=by simp;omega
  go_enter func10,ntmps10;go_wp2_with (first
   | (go_at_call 21;have _t:=tok2;refine (hW.out _ (hr.below g2) (hi.below g2)).mono ?_;rintro e w3 ⟨hb3,A3,c3,D,cd,rfl,hl3,_,rd3⟩;have g3:=g2.trans (hb3.mono g2.size);clear tok2 _t y0 y1 y2;have tok3:=trivial)
   | (go_at_call 33;have _t:=tok1;refine (rX _ _ _).mono ?_;rintro e w2 ⟨rfl,hb2⟩;have g2:=g1.trans (hb2.mono g1.size);obtain ⟨y0,y1,y2⟩:=(hX1.keep hb2).three;clear tok1 _t;have tok2:=trivial)
   | (go_at_call 19;refine (aQ k n ks A c _ (by omega) (hr.alloc _)).mono ?_;rw [hv'.out];rintro e w1 ⟨rfl,hb1⟩;have hX1:=(aC w 25 (Ro k n A ks.length c) rfl).keep hb1;have g1:Bw w w1:=bW bw1 hb1;have tok1:=trivial))
  go_ret2
  exact ⟨g3.alloc g3.size _,.inl ⟨by omega,rfl⟩⟩
theorem aAv (k n:Int)(ks:List Tm)(A:Option Addr)(c:Nat)(xs:List Int)(P:Option Addr)(cp:Nat)(w:World)(k1 n1:Int)(ks1:List Tm)(hx:eP (.mk k n ks) xs=some (.mk k1 n1 ks1))(hv:aE (.mk k n ks)=true)(hxl:xs.length≤1000000000)(hr:Rd w A 0 ks)(hi:RdI w P xs) :
  Calls prog 11 #[.agg (Ro k n A ks.length c),.slice P xs.length cp] w fun e w'=>∃A1 c1,e = .returned (.tuple #[.agg (Ro k1 n1 A1 ks1.length c1),.bool true])∧ks1.length≤9223372036854775807∧Rd w' A1 0 ks1∧Bw w w':=by
 have hz:=aI hv;have hv':=aD hv;have hz1:=aI (gU hx hv);have hW:=aD (fun (w:World) (hr:Rd w A 0 ks) (hi:RdI w P xs)=>by have:=qR k n ks A c xs P cp w (by omega) hxl hr hi;rw [hx] at this;exact this);have B2:∀o1 o2,Bw w ((w.alloc o1).alloc o2):=fun o1 o2=>bw2
 clear hv hx;go_enter func11,ntmps11;go_wp2_with (first
  | (go_at_call 26;have _t:=tok2;refine (gF (aG ks1+1) k1 n1 ks1 A3 c3 _ (by omega) (by omega) (r3.alloc _)).mono ?_;rintro e w4 ⟨A4,c4,rfl,hl4,hf4,hb4⟩;have hZ4:=(hZ3.alloc (.cells (Ro k1 n1 A3 ks1.length c3) 25)).keep hb4;have g4:=(g3.alloc g3.size (.cells (Ro k1 n1 A3 ks1.length c3) 25)).trans (hb4.mono (by have:=g3.size;simp;omega));obtain ⟨d0,d1,d2,e0,e1,e2,l4⟩:=cZ hZ4;have lo4:=hb4.size)
  | (go_at_call 21;have _t:=tok1;refine (hW.out _ (hr.below g1) (hi.below g1)).mono ?_;rintro e w3 ⟨hb3,A3,c3,D,cd,rfl,hl3,r1,rd3⟩;have r3:=r1.below hb3;have hZ3:=hZ1.keep hb3;have g3:=g1.trans (hb3.mono g1.size);have l3:=hZ3.lt;clear tok1 _t y0 y1 y2;have tok2:=trivial)
  | (go_at_call 19;refine (aQ k n ks A c _ (by omega) ((hr.alloc _).alloc _)).mono ?_;rw [hv'.out];rintro e w1 ⟨rfl,hb1⟩;have hX1:=((aC w 25 (Ro k n A ks.length c) rfl).alloc (.cells Zr 25)).keep hb1;have hZ1:=bA hb1;have g1:Bw w w1:=(B2 _ _).trans (hb1.mono (by simp;omega));obtain ⟨y0,y1,y2⟩:=hX1.three;have tok1:=trivial))
 refine bodyPost_ret (v:=.tuple #[.agg (Ro k1 n1 A4 ks1.length c4),.bool true]) (by simp [results,results11,go_sem,d0,d1,d2]) rfl ⟨A4,c4,rfl,hl4,?_,?_⟩
 ·exact ((((hf4.rdp.mono (q:=fun b=>b≠w.heap.size+1) (fun b hb=>by have h1:=hb.1;simp at h1;omega)).setCell (by simp) _).setCell (by simp) _).setCell (by simp) _).rd
 ·exact bV g4
end Go.Proofs.YtddkehjdjfmhmaaGreat
