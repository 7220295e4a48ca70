/- Parts of the proof. No condition. -/
import Derived.Test.YtddkehjdjfmhmaaGreatK5
import Derived.Laws.BitsAllLaws
import Derived.Laws.BitsLemmas
open Go.Proofs.Tryz
namespace Go.Proofs.YtddkehjdjfmhmaaGreat
open Go.RowKit
set_option maxHeartbeats 4000000
set_option maxRecDepth 100000
set_option linter.unusedSimpArgs false
set_option linter.unusedVariables false
def Rdr (B:Nat)(w:World)(r p:Nat):Prop:=
 ∃(A:Option Addr) (bs:List Int) (c:Nat),Blk w r #[.slice A bs.length c,.int .i64 p]∧bs.length≤2000∧r<B∧
  ∀j (hj:j<bs.length),∃b off,A=some ⟨b,off,none⟩∧w.cell? ⟨b,off+j,none⟩=some (.int .u8 bs[j])∧0≤bs[j]∧bs[j]≤255∧b≠r∧b<B
theorem Rdr.keep {B r p:Nat}{w w':World}(h:Rdr B w r p)(hk:∀b,b<B→w'.heap[b]?=w.heap[b]?):Rdr B w' r p:=by
 obtain ⟨A,bs,c,⟨t,h1⟩,h2,h3,h4⟩:=h;refine ⟨A,bs,c,⟨t,(hk r h3).trans h1⟩,h2,h3,fun j hj=>?_⟩;obtain ⟨b,off,e,h5,h6,h7,h8,h9⟩:=h4 j hj;exact ⟨b,off,e,(World.cell?_of_block (w:=w) (a:=⟨b,off+j,none⟩) (hk b h9)).trans h5,h6,h7,h8,h9⟩
theorem Rdr.below {B B' r p:Nat}{w w':World}(h:Rdr B w r p)(hb:Below B' w w')(hB:B≤B'):Rdr B w' r p:=h.keep fun b hl=>hb.block b (by omega)
theorem Rdr.alloc {B r p:Nat}{w:World}(h:Rdr B w r p)(hB:B≤w.heap.size)(o:Obj):Rdr B (w.alloc o) r p:=h.keep fun b hl=>Below.heap_alloc w o b (by omega)
theorem Rdr.drew {B r p:Nat}{w:World}(h:Rdr B w r p):Rdr B w.drew r p:=h
theorem Rdr.setCell {B r p:Nat}{w:World}(h:Rdr B w r p){a:Addr}(ha:B≤a.block)(u:Value):Rdr B (w.setCell a u) r p:=h.keep fun b hl=>lR w a u b (by omega)
theorem Rdr.step {B r p:Nat}{w:World}(h:Rdr B w r p)(q:Nat):Rdr B (w.setCell ⟨r,1,none⟩ (.int .i64 q)) r q:=by
 obtain ⟨A,bs,c,h1,h2,h3,h4⟩:=h;refine ⟨A,bs,c,h1.set_ 1 _,h2,h3,fun j hj=>?_⟩;obtain ⟨b,off,e,h5,h6,h7,h8,h9⟩:=h4 j hj;exact ⟨b,off,e,(World.cell?_of_block (w:=w) (a:=⟨b,off+j,none⟩) (lR w _ _ b h8)).trans h5,h6,h7,h8,h9⟩
def aRc (B:Nat)(w:World)(r p:Nat)(n:Int)(e:Ending)(w':World):Prop:=
 ∃m:Nat,e = .returned (.int .i64 m)∧(1≤n→(m:Int)<n)∧(n<1→m=0)∧Rdr B w' r (p+1)∧w.grownBy w' (some r)
theorem xT (a:Nat)(ha:a<9223372036854775808):(BitVec.ofInt 64 (a:Int)).toNat=a:=by
 rw [BitVec.ofInt_natCast,BitVec.toNat_ofNat];exact Nat.mod_eq_of_lt (by omega)
theorem aAr (a b:Nat)(ha:a<9223372036854775808)(hb:b<9223372036854775808):bits .xor .i64 (a:Int) (b:Int)=((a ^^^ b:Nat):Int):=by
 have hx:a ^^^ b<2 ^ 63:=Nat.xor_lt_two_pow (by omega) (by omega);show IntKind.i64.wrap ((BitVec.ofInt 64 (a:Int) ^^^ BitVec.ofInt 64 (b:Int)).toNat:Int)=_
 rw [BitVec.toNat_xor,xT a ha,xT b hb,IntKind.wrap_i64];omega
theorem aMn (x1 x2:Int)(p dv:Nat)(h1:0≤x1)(h2:x1≤255)(h3:0≤x2)(h4:x2≤255)(h5:p≤1000000000)(h6:dv≤p) :
  wrap64 (x1*131+x2*1117+(p:Int)*29+wrap64 (wrap64 (dv:Int)*53))=x1*131+x2*1117+(p:Int)*29+(dv:Int)*53∧0≤x1*131+x2*1117+(p:Int)*29+(dv:Int)*53∧x1*131+x2*1117+(p:Int)*29+(dv:Int)*53≤((200000000000:Nat):Int):=by
 have e1:wrap64 (dv:Int)=dv:=IntWalk.wrap64_in _ ⟨by omega,by omega⟩;have e2:wrap64 ((dv:Int)*53)=(dv:Int)*53:=IntWalk.wrap64_in _ ⟨by omega,by omega⟩;rw [e1,e2];exact ⟨IntWalk.wrap64_in _ ⟨by omega,by omega⟩,by omega,by omega⟩
theorem aIb (m:Nat)(h:m≤200000000000):wrap64 ((m:Int) / 64)=(m:Int) / 64:=IntWalk.wrap64_in _ ⟨by omega,by omega⟩
theorem eB (B r p:Nat)(n:Int)(w:World)(hp:p≤1000000000)(hn:n≤1000000000)(hB:B≤w.heap.size)(hr:Rdr B w r p) :
  Calls prog 17 #[.pointer (some ⟨r,0,none⟩),.int .i64 n] w (aRc B w r p n):=by
 have hst:=hr.step (p+1);obtain ⟨A,bs,c,h1,h2,h3,h4⟩:=hr;have b0:=h1.at_ (i:=0) rfl;have b1:=h1.at_ (i:=1) rfl;have e1:=h1.frozen 1;have b2:=(h1.set_ 1 (.int .i64 (p+1:Nat))).at_ (i:=0) rfl;have b3:=(h1.set_ 1 (.int .i64 (p+1:Nat))).at_ (i:=1) rfl;have hg:w.grownBy (w.setCell ⟨r,1,none⟩ (.int .i64 (p+1:Nat))) (some r):=aK (gG _ _) (.inl rfl) _;by_cases hn1:n<1
 ·go_enter func17,ntmps17;go_wp2_with fail
  go_ret
  exact ⟨0,rfl,by omega,fun _=>rfl,hst,hg⟩
 ·by_cases hl:bs.length=0
  ·have hq:((bs.length:Int)==0)=true:=by simp [hl]
   have hl':=aD hl;clear hl;go_enter func17,ntmps17;go_wp2_with fail
   go_ret
   exact ⟨0,rfl,fun h=>by simp;omega,fun _=>rfl,hst,hg⟩
  ·have hq:((bs.length:Int)==0)=false:=beq_eq_false_iff_ne.2 (by omega);by_cases hk:p<bs.length
   ·obtain ⟨b,off,rfl,h5,h6,h7,h8,h9⟩:=h4 p hk;generalize bs[p]=x at *
    have h5':(w.setCell ⟨r,1,none⟩ (.int .i64 (p+1:Nat))).cell? ⟨b,off+p,none⟩=some (.int .u8 x):=(World.cell?_of_block (w:=w) (a:=⟨b,off+p,none⟩) (lR w _ _ b h8)).trans h5;go_enter func17,ntmps17;go_wp2_with fail
    go_ret
    refine ⟨(x % n).toNat,?_,fun h=>?_,fun h=>(by omega),hst,hg⟩
    ·rw [Int.toNat_of_nonneg (Int.emod_nonneg _ (by omega))];rfl
    ·rw [Int.toNat_of_nonneg (Int.emod_nonneg _ (by omega))];exact Int.emod_lt_of_pos _ (by omega)
   ·have hlp:0<bs.length:=by omega
    have hj1:=Nat.mod_lt p hlp;have t1:(p:Int).tmod (bs.length:Int)=((p % bs.length:Nat):Int):=by rw [Int.tmod_eq_emod_of_nonneg (by omega)];rfl
    generalize p % bs.length=j1 at hj1 t1
    have t2:IntKind.i64.wrap ((p:Int)*7)=((p*7:Nat):Int):=by rw [IntWalk.i64_in _ (by omega)];omega
    obtain ⟨q7,hq7⟩:∃q7,p*7=q7:=⟨_,rfl⟩;rw [hq7] at t2;have t3:IntKind.i64.wrap ((q7:Int)+3)=((q7+3:Nat):Int):=by rw [IntWalk.i64_in _ (by omega)];omega
    obtain ⟨q8,hq8⟩:∃q8,q7+3=q8:=⟨_,rfl⟩;rw [hq8] at t3;have hj2:=Nat.mod_lt q8 hlp;have t4:(q8:Int).tmod (bs.length:Int)=((q8 % bs.length:Nat):Int):=by rw [Int.tmod_eq_emod_of_nonneg (by omega)];rfl
    generalize q8 % bs.length=j2 at hj2 t4
    obtain ⟨ba,offa,rfl,a5,a6,a7,a8,a9⟩:=h4 j1 hj1;obtain ⟨bb,offb,hA,c5,c6,c7,c8,c9⟩:=h4 j2 hj2;injection hA with hA;injection hA with hA1 hA2;subst hA1 hA2;generalize bs[j1]=x1 at *
    generalize bs[j2]=x2 at *
    have a5':(w.setCell ⟨r,1,none⟩ (.int .i64 (p+1:Nat))).cell? ⟨ba,offa+j1,none⟩=some (.int .u8 x1):=(World.cell?_of_block (w:=w) (a:=⟨ba,offa+j1,none⟩) (lR w _ _ ba a8)).trans a5;have c5':(w.setCell ⟨r,1,none⟩ (.int .i64 (p+1:Nat))).cell? ⟨ba,offa+j2,none⟩=some (.int .u8 x2):=(World.cell?_of_block (w:=w) (a:=⟨ba,offa+j2,none⟩) (lR w _ _ ba a8)).trans c5;have hdv:=Nat.div_le_self p bs.length;have t10:(p:Int).tdiv (bs.length:Int)=((p / bs.length:Nat):Int):=by rw [Int.tdiv_eq_ediv_of_nonneg (by omega)];rfl
    generalize p / bs.length=dv at hdv t10
    obtain ⟨hX,hX0,hX1⟩:=aMn x1 x2 p dv a6 a7 c6 c7 hp hdv;obtain ⟨m8,hm8⟩:∃m8:Nat,x1*131+x2*1117+(p:Int)*29+(dv:Int)*53=(m8:Int):=⟨(x1*131+x2*1117+(p:Int)*29+(dv:Int)*53).toNat,(Int.toNat_of_nonneg hX0).symm⟩;rw [hm8] at hX hX0 hX1;have hb8:m8≤200000000000:=Int.ofNat_le.1 hX1;clear hX0 hX1;have t14:wrap64 ((m8:Int) / 64)=(m8:Int) / 64:=aIb m8 hb8;have hb9:m8 / 64≤m8:=Nat.div_le_self _ _;have t13:bits .xor .i64 (m8:Int) ((m8:Int) / 64)=((m8 ^^^ (m8 / 64):Nat):Int):=by
     have:=aAr m8 (m8 / 64) (by omega) (by omega);rw [← this];rfl
    generalize m8 ^^^ (m8 / 64)=m9 at t13
    have hX':=aD hX;have T13:=aD t13;have T14:=aD t14;clear t13 t14;clear hm8 hq8 hq7 h4 h1 hdv hX;go_enter func17,ntmps17;go_wp2_with fail
    refine aT ?_;intro wx hwx;have r0:wx.cell? ⟨r,0,none⟩=some (.slice (some ⟨ba,offa,none⟩) bs.length c):=by rw [hwx];exact b2
    have r1:wx.cell? ⟨ba,offa+j1,none⟩=some (.int .u8 x1):=by rw [hwx];exact a5'
    have r2:wx.cell? ⟨ba,offa+j2,none⟩=some (.int .u8 x2):=by rw [hwx];exact c5'
    have hgx:w.grownBy wx (some r):=by rw [hwx];exact hg
    have hsx:Rdr B wx r (p+1):=by rw [hwx];exact hst
    replace r0:=aF r0;replace r1:=aF r1;replace r2:=aF r2;clear hwx hg hst a5' c5' b2 b3;refine aZ (fun w'=>Bw wx w') [0,1,2,3,4,5,6,7,8,9,10,11,12,13,14,15,16,17,18,19,20,21,22,23,24,25,26,27,28,29,30,31,32,33,34,35,36,37,38,39,40,41,42,43,44,45] [] [] [_,_,_,_,_,_,_,_,_,_,_,_,_,_,_,_,_,_,_,_,_,_,_,_,_,_,_,_,_,_,_,_,_,_,_,_,_,_,_,_,_,_,_,_,_,_] [] [] (by kernel_rfl) (by kernel_rfl) rfl rfl rfl (fun _ _ d _ _ h=>by cases d<;>exact h) (dV _ _).drew ?_;refine cL (aD ?_);refine cS ?_;have hX:=hX'.out;go_wp2_with fail
    go_ret
    refine ⟨(m9 % n.toNat:Nat),?_,fun h=>?_,fun h=>(by omega),hsx,cQ hgx⟩
    ·have hc:((m9 % n.toNat:Nat):Int)=(m9:Int) % n:=by
      rw [Int.natCast_emod,Int.toNat_of_nonneg (by omega)]
     rw [hc];show Ending.returned (.int .i64 ((bits .xor .i64 (m8:Int) (wrap64 ((m8:Int) / 64))).tmod n))=_
     rw [T14.out,T13.out,Int.tmod_eq_emod_of_nonneg (by omega)]
    ·have h5:=Nat.mod_lt m9 (show 0<n.toNat by omega);omega
def RdY (w:World)(A:Option Addr)(bs:List Int):Prop:=∀j (hj:j<bs.length),∃b off,A=some ⟨b,off,none⟩∧w.cell? ⟨b,off+j,none⟩=some (.int .u8 bs[j])∧0≤bs[j]∧bs[j]≤255
theorem RdY.take {w:World}{A:Option Addr}{bs:List Int}(h:RdY w A bs)(n:Nat):RdY w A (bs.take n):=fun j hj=>by
 rw [List.length_take] at hj;obtain ⟨b,off,e,h1,h2,h3⟩:=h j (by omega);exact ⟨b,off,e,by rw [List.getElem_take];exact h1,by rw [List.getElem_take];exact h2,by rw [List.getElem_take];exact h3⟩
theorem RdY.keeps {w w':World}{A:Option Addr}{bs:List Int}(h:RdY w A bs)(hk:Keeps w w'):RdY w' A bs:=fun j hj=>by
 obtain ⟨b,off,e,h1,h2,h3⟩:=h j hj;exact ⟨b,off,e,hk _ _ h1,h2,h3⟩
theorem Rdr.new {w:World}{A:Option Addr}{bs:List Int}{c:Nat}{t:TypeId}(h:RdY w A bs)(hl:bs.length≤2000):Rdr (w.heap.size+1) (w.alloc (.cells #[.slice A bs.length c,.int .i64 0] t)) w.heap.size 0:=
 ⟨A,bs,c,aC _ _ _ rfl,hl,by omega,fun j hj=>by
  obtain ⟨b,off,e,h1,h2,h3⟩:=h j hj;have hb:=jN _ _ h1;have hb:b<w.heap.size:=hb;exact ⟨b,off,e,Keeps.alloc _ _ _ _ h1,h2,h3,by omega,by omega⟩⟩
def aRy (w:World)(e:Ending)(w':World):Prop:=∃r,e = .returned (.pointer (some ⟨r,0,none⟩))∧w.heap.size≤r∧r<w'.heap.size∧Rdr w'.heap.size w' r 0∧Bw w w'
theorem Rdr.mono {B B':Nat}{w:World}{r p:Nat}(h:Rdr B w r p)(hB:B≤B'):Rdr B' w r p:=by
 obtain ⟨A,bs,c,h1,h2,h3,h4⟩:=h;exact ⟨A,bs,c,h1,h2,by omega,fun j hj=>by obtain ⟨b,off,e,h5,h6,h7,h8,h9⟩:=h4 j hj;exact ⟨b,off,e,h5,h6,h7,h8,by omega⟩⟩
theorem aLk (bs:List Int)(A:Option Addr)(c:Nat)(w:World)(hl:bs.length≤9223372036854775807)(hc:bs.length≤c)(hr:RdY w A bs):Calls prog 14 #[.slice A bs.length c] w (aRy w):=by
 by_cases h2:bs.length≤2000
 ·go_enter func14,ntmps14;go_wp2_with fail
  go_ret
  exact ⟨w.heap.size,rfl,iD _,by simp,by simpa using Rdr.new hr h2,bw1⟩
 ·have hr2:=hr.take 2000;have hl2:(bs.take 2000).length=2000:=by rw [List.length_take];omega
  have hc2:2000≤c:=by omega
  generalize bs.take 2000=bs2 at hr2 hl2
  have hl2':=aD hl2;clear hl2;go_enter func14,ntmps14;go_wp2_with fail
  go_ret
  refine ⟨w.heap.size,rfl,iD _,by simp,?_,bw1⟩;have:=Rdr.new (c:=c) (t:=68) hr2 (by have:=hl2'.out;omega);rw [hl2'.out] at this;simpa using this
end Go.Proofs.YtddkehjdjfmhmaaGreat
