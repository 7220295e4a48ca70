/- Parts of the proof. No condition. -/
import Derived.Test.YtddkehjdjfmhmaaGreatK15
import Derived.Test.YtddkehjdjfmhmaaGreatK16
import Derived.Deep.RegionHeld3
import Derived.Deep.DeepCutAuto
open Go.Proofs.Tryz
namespace Go.Proofs.YtddkehjdjfmhmaaGreat
open Go.RowKit
set_option maxHeartbeats 8000000
set_option maxRecDepth 100000
set_option linter.unusedSimpArgs false
set_option linter.unusedVariables false
theorem sV {P:Program}{f:FuncId}{args:Array Value}{w:World}{Q:Ending→World→Prop}(h:∀wx,wx=w→Calls P f args wx Q):Calls P f args w Q:=h w rfl
structure Fr (w:World) (k n:Int) (ks:List Tm) (A:Option Addr) (c:Nat) (ku nu:Int) (us:List Tm) (U:Option Addr) (cu:Nat) (wx:World):Prop where
 h0:Blk wx w.heap.size (Ro k n A ks.length c)
 h1:Blk wx (w.heap.size+1) (Ro ku nu U us.length cu)
 h2:Blk wx (w.heap.size+1+1) Zr
 hb:Bw w wx
section
variable {w:World}{k n:Int}{ks:List Tm}{A:Option Addr}{c:Nat}{ku nu:Int}{us:List Tm}{U:Option Addr}{cu:Nat}{wx wy:World}
theorem Fr.below (h:Fr w k n ks A c ku nu us U cu wx)(hb:Bw wx wy):Fr w k n ks A c ku nu us U cu wy:=⟨h.h0.keep hb,h.h1.keep hb,h.h2.keep hb,h.hb.trans (hb.mono h.hb.size)⟩
theorem Fr.alloc (h:Fr w k n ks A c ku nu us U cu wx)(o:Obj):Fr w k n ks A c ku nu us U cu (wx.alloc o):=h.below (bw1)
theorem Fr.drew (h:Fr w k n ks A c ku nu us U cu wx):Fr w k n ks A c ku nu us U cu wx.drew:=h.below (dV _ _).drew
theorem Fr.size (h:Fr w k n ks A c ku nu us U cu wx):w.heap.size+1+1<wx.heap.size:=h.h2.lt
theorem Fr.far (h:Fr w k n ks A c ku nu us U cu wx)(hb:Below (w.heap.size+3) wx wy):Fr w k n ks A c ku nu us U cu wy:=⟨h.h0.below hb (by omega),h.h1.below hb (by omega),h.h2.below hb (by omega),h.hb.trans (hb.mono (by omega))⟩
end
def EmpR (w:World)(g:Nat):Prop:=w.heap[g]?=some (.cells #[] 25 (0,0))
theorem EmpR.new {n:Nat}(w:World)(h:n=w.heap.size):EmpR (w.alloc (.cells #[] 25)) n:=by subst h;exact heap_alloc_new w _
theorem EmpR.lt {w:World}{g:Nat}(h:EmpR w g):g<w.heap.size:=(Array.getElem?_eq_some_iff.1 h).1
theorem EmpR.alloc {w:World}{g:Nat}(h:EmpR w g)(o:Obj):EmpR (w.alloc o) g:=(Below.heap_alloc w o g h.lt).trans h
theorem EmpR.drew {w:World}{g:Nat}(h:EmpR w g):EmpR w.drew g:=h
theorem bE {W w:World}(h:Bw W w)(o:Obj):Bw W (w.alloc o):=h.alloc h.size o
theorem yO {W w:World}(h:Bw W w):Bw W w.drew:=h.drew
theorem cW (W:World):Bw W W:=dV _ _
theorem PartR.own_ge {lo:Nat→Prop}{B:Nat}{w:World}{v:Value}{ts:List Tm}(h:PartR lo B w v ts):∀g,v.ownBlock=some g→B≤g∧g<w.heap.size:=by
 obtain ⟨xs,h1,_⟩:=h;exact fun g hg=>h1.lt g hg
structure Chg (gf:Nat) (v1 v2:Value) (w w':World):Prop where
 os:w'.os=w.os
 tape:w'.tape=w.tape
 output:w'.output=w.output
 size:w.heap.size≤w'.heap.size
 block:∀b,b<w.heap.size→b≠gf→v1.ownBlock≠some b→v2.ownBlock≠some b→w'.heap[b]?=w.heap[b]?
theorem Chg.of_below {gf:Nat}{v1 v2:Value}{w w':World}(h:Bw w w'):Chg gf v1 v2 w w':=⟨h.os,h.tape,h.output,h.size,fun b hb _ _ _=>h.block b hb⟩
def OwnTo (w:World)(v v':Value):Prop:=v'.ownBlock=v.ownBlock∨∃g,w.heap.size≤g∧v'.ownBlock=some g
theorem OwnTo.refl (w:World)(v:Value):OwnTo w v v:=.inl rfl
def S3 (gf g1 g2:Nat)(c0 c1 c2:Array Value)(w:World):Prop:=Blk w gf c0∧Blk w g1 c1∧Blk w g2 c2
theorem S3.alloc {gf g1 g2:Nat}{c0 c1 c2:Array Value}{w:World}(h:S3 gf g1 g2 c0 c1 c2 w)(o:Obj):S3 gf g1 g2 c0 c1 c2 (w.alloc o):=⟨h.1.alloc o,h.2.1.alloc o,h.2.2.alloc o⟩
theorem S3.grown {gf g1 g2:Nat}{c0 c1 c2:Array Value}{w w':World}{row:Option Nat}(h:S3 gf g1 g2 c0 c1 c2 w)(hg:w.grownBy w' row)(h0:some gf≠row)(h1:some g1≠row)(h2:some g2≠row):S3 gf g1 g2 c0 c1 c2 w':=⟨h.1.grown hg h0,h.2.1.grown hg h1,h.2.2.grown hg h2⟩
theorem Chg.alloc {gf:Nat}{v1 v2:Value}{w w':World}(h:Chg gf v1 v2 w w')(o:Obj):Chg gf v1 v2 w (w'.alloc o):=⟨h.os,h.tape,h.output,Nat.le_trans h.size (by simp),fun b hb h1 h2 h3=>(Below.heap_alloc w' o b (kT hb h.size)).trans (h.block b hb h1 h2 h3)⟩
theorem Chg.drew {gf:Nat}{v1 v2:Value}{w w':World}(h:Chg gf v1 v2 w w'):Chg gf v1 v2 w w'.drew:=⟨h.os,h.tape,h.output,h.size,h.block⟩
theorem Chg.set {gf:Nat}{v1 v2:Value}{w w':World}(h:Chg gf v1 v2 w w'){p:Addr}(hp:p.block=gf∨w.heap.size≤p.block)(u:Value):Chg gf v1 v2 w (w'.setCell p u):=
 ⟨h.os,h.tape,h.output,by simpa using h.size,fun b hb h1 h2 h3=>(lR w' p u b (by rcases hp with e|e;exact fun e'=>h1 (e'.trans e);omega)).trans (h.block b hb h1 h2 h3)⟩
theorem bI {S:World→Prop}{K:Act→World→Prop}{Q:Exit→Act→World→Prop}{a:Act}{w:World}(h:∀wx,wx=w→nU S K Q .normal a wx):nU S K Q .normal a w:=h w rfl
theorem aSj {w:World}{g:Nat}{x y:Value}(h:Blk w g #[x,y]):w.cell? ⟨g,0,none⟩=some x∧w.cell? ⟨g,1,none⟩=some y:=⟨h.at_ (i:=0) rfl,h.at_ (i:=1) rfl⟩
theorem gP {p:Nat→Prop}{w:World}{k n:Int}{ks:List Tm}{A:Option Addr}{c:Nat}{ts:List Tm}{ys:List Value}(hl:ks.length≤9223372036854775807)(hr:RdP p w A 0 ks)(hx:RdX p w ts ys):RdX p w (.mk k n ks::ts) (.int .i64 k :: .int .i64 n :: .slice A ks.length c::ys):=⟨A,c,ys,rfl,hl,hr,hx⟩
theorem jJ {P:Program}{f:FuncId}{args:Array Value}{w:World}{Q:Ending→World→Prop}(h:∀wx,wx=w→Calls P f args wx Q):Calls P f args w Q:=h w rfl
theorem dD {W w:World}(h:Bw W w)(o:Obj):Bw W (w.alloc o):=h.alloc h.size o
theorem iC {W w:World}(h:Bw W w):Bw W w.drew:=h.drew
theorem mJ (W:World):Bw W W:=dV _ _
theorem aFa {W w:World}(h:Bw W w){g:Nat}(hg:W.heap.size≤g)(x y z:Value):Bw W (((w.setCell ⟨g,0,none⟩ x).setCell ⟨g,1,none⟩ y).setCell ⟨g,2,none⟩ z):=((h.setCell hg _).setCell hg _).setCell hg _
theorem dS {W w:World}(h:Bw W w){b o:Nat}{v:Value}(hc:W.cell? ⟨b,o,none⟩=some v):w.cell? ⟨b,o,none⟩=some v:=bR h _ _ hc
theorem fU:mG:=by
 intro n n8 t0 t1 t2 m A c w hM hr;obtain ⟨b0,off0,k0,n0,ks0,A0,c0,hA0,hk0,p0,q0,r0,hl0,hr0⟩:=hr.at_ (j:=0) (by simp);have hk0:t0 = .mk k0 n0 ks0:=hk0;obtain ⟨b1,off1,k1,n1,ks1,A1,c1,hA1,hk1,p1,q1,r1,hl1,hr1⟩:=hr.at_ (j:=1) (by simp);have hk1:t1 = .mk k1 n1 ks1:=hk1;obtain ⟨b2,off2,k2,n2,ks2,A2,c2,hA2,hk2,p2,q2,r2,hl2,hr2⟩:=hr.at_ (j:=2) (by simp);have hk2:t2 = .mk k2 n2 ks2:=hk2;obtain ⟨b3,off3,k3,n3,ks3,A3,c3,hA3,hk3,p3,q3,r3,hl3,hr3⟩:=hr.at_ (j:=3) (by simp);injection hk3 with h1 h2 h3;subst h1 h2 h3;obtain ⟨bm,offm,km,nm,ksm,Am,cm,hAm,hkm,pm,qm,rm,hlm,hrm⟩:=hr3.at_ (j:=0) (by simp);have hkm:m = .mk km nm ksm:=hkm;subst hk0 hk1 hk2 hkm hA0 hAm;injection hA1 with hA1;injection hA1 with h1 h2;subst h1 h2;injection hA2 with hA2;injection hA2 with h1 h2;subst h1 h2;injection hA3 with hA3;injection hA3 with h1 h2;subst h1 h2;simp only [Nat.reduceMul,Nat.zero_mul,Nat.add_zero] at p0 q0 r0 p1 q1 r1 p2 q2 r2 p3 q3 r3 pm qm rm
 have hsz:aG ks0+aG ks1+aG ks2+aG ksm≤400:=by simp only [aG,Tm.size] at hM;omega
 have hrd:=aD (show cT 9 [.mk k0 n0 ks0,.mk k1 n1 ks1,.mk k2 n2 ks2,.mk 8 n8 [.mk km nm ksm]]=3 from rfl);go_enter func159,ntmps159;go_wp2_with (go_at_call 113;refine (dI 9 n [.mk k0 n0 ks0,.mk k1 n1 ks1,.mk k2 n2 ks2,.mk 8 n8 [.mk km nm ksm]] _ c _ (by simp) rfl ((hr.alloc _).alloc _)).mono ?_;rw [hrd.out];rintro e w1 ⟨rfl,hb1⟩;have hB:Blk w1 w.heap.size #[.int .i64 9,.int .i64 n,.slice (some ⟨b0,off0,none⟩) ([.mk k0 n0 ks0,.mk k1 n1 ks1,.mk k2 n2 ks2,.mk 8 n8 [.mk km nm ksm]]:List Tm).length c]:=((aC w 25 _ rfl).alloc _).keep hb1;have hZ:=bA hb1;have g1:Bw w w1:=bW bw2 hb1;have s1:=hZ.lt;have K1:=bR g1;have x2:=hB.at_ (i:=2) rfl;replace p0:=K1 _ _ p0;replace q0:=K1 _ _ q0;replace r0:=K1 _ _ r0;replace p1:=K1 _ _ p1;replace q1:=K1 _ _ q1;replace r1:=K1 _ _ r1;replace p2:=K1 _ _ p2;replace q2:=K1 _ _ q2;replace r2:=K1 _ _ r2;replace p3:=K1 _ _ p3;replace q3:=K1 _ _ q3;replace r3:=K1 _ _ r3;replace pm:=K1 _ _ pm;replace qm:=K1 _ _ qm;replace rm:=K1 _ _ rm;  have tok:=trivial)
 refine aT ?_;intro W hW;have hBW:Blk W w.heap.size #[.int .i64 9,.int .i64 n,.slice (some ⟨b0,off0,none⟩) ([.mk k0 n0 ks0,.mk k1 n1 ks1,.mk k2 n2 ks2,.mk 8 n8 [.mk km nm ksm]]:List Tm).length c]:=by rw [hW];exact hB.alloc _
 have hZW:Blk W (w.heap.size+1) Zr:=by rw [hW];exact hZ.alloc _
 have hTW:Blk W w1.heap.size (Ro km nm Am ksm.length cm):=by rw [hW];exact aC _ _ _ rfl
 have gW:Bw w W:=by rw [hW];exact g1.alloc g1.size _
 have KW:=bR gW;have sW:=gW.size;have lt1:=hTW.lt;have ls1:=hZW.lt;have sD:W.drew.heap.size=W.heap.size:=rfl;have x2:=hBW.at_ (i:=2) rfl;obtain ⟨m0,m1,m2⟩:=hTW.three;have kw:Keeps w1 W:=by rw [hW];exact Keeps.alloc _ _
 replace p0:=kw _ _ p0;replace r0:=kw _ _ r0;replace p1:=kw _ _ p1;replace r1:=kw _ _ r1;replace p2:=kw _ _ p2;replace r2:=kw _ _ r2;have q0':=kw _ _ q0;have q1':=kw _ _ q1;have q2':=kw _ _ q2;clear q0 q1 q2 hW;have e0:=hr0.below gW;have e1:=hr1.below gW;have e2:=hr2.below gW;have em:=hrm.below gW;have lWd:W.drew.heap.size=W.heap.size:=rfl;have hSof:=aD (show ∀w':World,Bw W w'→(fun w'=>w'.cell? ⟨w.heap.size,2,none⟩=some (.slice (some ⟨b0,off0,none⟩) ([.mk k0 n0 ks0,.mk k1 n1 ks1,.mk k2 n2 ks2,.mk 8 n8 [.mk km nm ksm]]:List Tm).length c)∧w'.cell? ⟨b0,off0,none⟩=some (.int .i64 k0)∧w'.cell? ⟨b0,off0+1,none⟩=some (.int .i64 n0)∧w'.cell? ⟨b0,off0+2,none⟩=some (.slice A0 ks0.length c0)∧w'.cell? ⟨b0,off0+3,none⟩=some (.int .i64 k1)∧w'.cell? ⟨b0,off0+3+1,none⟩=some (.int .i64 n1)∧w'.cell? ⟨b0,off0+3+2,none⟩=some (.slice A1 ks1.length c1)∧w'.cell? ⟨b0,off0+6,none⟩=some (.int .i64 k2)∧w'.cell? ⟨b0,off0+6+1,none⟩=some (.int .i64 n2)∧w'.cell? ⟨b0,off0+6+2,none⟩=some (.slice A2 ks2.length c2)∧w'.cell? ⟨w1.heap.size,0,none⟩=some (.int .i64 km)∧w'.cell? ⟨w1.heap.size,1,none⟩=some (.int .i64 nm)∧w'.cell? ⟨w1.heap.size,2,none⟩=some (.slice Am ksm.length cm)) w' from fun w' hb=>⟨dS hb x2,dS hb p0,dS hb q0',dS hb r0,dS hb p1,dS hb q1',dS hb r1,dS hb p2,dS hb q2',dS hb r2,dS hb m0,dS hb m1,dS hb m2⟩)
 go_cut [4] (fun s4 wx=>∃(g4:Nat) (A9:Option Addr) (c9:Nat),s4 = .pointer (some ⟨g4,0,none⟩)∧Blk wx g4 (Ro 9 0 A9 4 c9)∧RdP (fun b=>W.heap.size≤b) wx A9 0 [.mk k0 n0 ks0,.mk k1 n1 ks1,.mk k2 n2 ks2,.mk km nm ksm]∧Bw W wx∧W.heap.size≤g4)
 case first=>
  go_region_held3 (fun w'=>w'.cell? ⟨w.heap.size,2,none⟩=some (.slice (some ⟨b0,off0,none⟩) ([.mk k0 n0 ks0,.mk k1 n1 ks1,.mk k2 n2 ks2,.mk 8 n8 [.mk km nm ksm]]:List Tm).length c)∧w'.cell? ⟨b0,off0,none⟩=some (.int .i64 k0)∧w'.cell? ⟨b0,off0+1,none⟩=some (.int .i64 n0)∧w'.cell? ⟨b0,off0+2,none⟩=some (.slice A0 ks0.length c0)∧w'.cell? ⟨b0,off0+3,none⟩=some (.int .i64 k1)∧w'.cell? ⟨b0,off0+3+1,none⟩=some (.int .i64 n1)∧w'.cell? ⟨b0,off0+3+2,none⟩=some (.slice A1 ks1.length c1)∧w'.cell? ⟨b0,off0+6,none⟩=some (.int .i64 k2)∧w'.cell? ⟨b0,off0+6+1,none⟩=some (.int .i64 n2)∧w'.cell? ⟨b0,off0+6+2,none⟩=some (.slice A2 ks2.length c2)∧w'.cell? ⟨w1.heap.size,0,none⟩=some (.int .i64 km)∧w'.cell? ⟨w1.heap.size,1,none⟩=some (.int .i64 nm)∧w'.cell? ⟨w1.heap.size,2,none⟩=some (.slice Am ksm.length cm)) (((refine hSof.out _ ?_);(first|((with_reducible (repeat (first|exact B7|exact B6|exact B5|exact B4|exact B3|exact mJ _|refine dD ?_ _|refine iC ?_)))<;>fail)|((with_reducible refine aFa ?_ ?_ _ _ _);(rotate_left);omega;(with_reducible (repeat (first|exact B7|exact B6|exact B5|exact B4|exact B3|exact mJ _|refine dD ?_ _|refine iC ?_))))))) (first
   | (go_at_call 73;have _t:=tk6;refine jJ ?_;intro wx7 hwx;have Bx:Bw W wx7:=(by rw [hwx];with_reducible (repeat (first|exact B7|exact B6|exact B5|exact B4|exact B3|exact mJ _|refine dD ?_ _|refine iC ?_)));have f0x:RdP (fun b=>wx3.heap.size≤b∧b<w3.heap.size) wx7 B0 0 ks0:=(by rw [hwx];with_reducible (repeat (first|exact f0|refine RdP.alloc ?_ _|refine RdP.drew ?_)));have f1x:RdP (fun b=>wx4.heap.size≤b∧b<w4.heap.size) wx7 B1 0 ks1:=(by rw [hwx];with_reducible (repeat (first|exact f1|refine RdP.alloc ?_ _|refine RdP.drew ?_)));have f2x:RdP (fun b=>wx5.heap.size≤b∧b<w5.heap.size) wx7 B2 0 ks2:=(by rw [hwx];with_reducible (repeat (first|exact f2|refine RdP.alloc ?_ _|refine RdP.drew ?_)));have fmx:RdP (fun b=>wx6.heap.size≤b∧b<w6.heap.size) wx7 Bm 0 ksm:=(by rw [hwx];with_reducible (repeat (first|exact fm|refine RdP.alloc ?_ _|refine RdP.drew ?_)));have sx7:=congrArg (fun w:World=>w.heap.size) hwx;(try simp [lWd] at sx7);(first|(refine (fun (hQx:Blk wx7 (W.heap.size) Zr)=>?_) ?_;rotate_left;(rw [hwx];((repeat (first|with_reducible exact hQ|((with_reducible refine aC _ 25 _ ?_);(first|rfl|(simp [lWd]<;>fail)))|(with_reducible refine Blk.drew ?_)|(with_reducible refine Blk.alloc ?_ _)))<;>fail)))|(refine (fun (hQx:Blk wx7 (w3.heap.size) Zr)=>?_) ?_;rotate_left;(rw [hwx];((repeat (first|with_reducible exact hQ|((with_reducible refine aC _ 25 _ ?_);(first|rfl|(simp [lWd]<;>fail)))|(with_reducible refine Blk.drew ?_)|(with_reducible refine Blk.alloc ?_ _)))<;>fail)))|(refine (fun (hQx:Blk wx7 (w4.heap.size) Zr)=>?_) ?_;rotate_left;(rw [hwx];((repeat (first|with_reducible exact hQ|((with_reducible refine aC _ 25 _ ?_);(first|rfl|(simp [lWd]<;>fail)))|(with_reducible refine Blk.drew ?_)|(with_reducible refine Blk.alloc ?_ _)))<;>fail)))|(refine (fun (hQx:Blk wx7 (w5.heap.size) Zr)=>?_) ?_;rotate_left;(rw [hwx];((repeat (first|with_reducible exact hQ|((with_reducible refine aC _ 25 _ ?_);(first|rfl|(simp [lWd]<;>fail)))|(with_reducible refine Blk.drew ?_)|(with_reducible refine Blk.alloc ?_ _)))<;>fail)))|(refine (fun (hQx:Blk wx7 (w6.heap.size) Zr)=>?_) ?_;rotate_left;(rw [hwx];((repeat (first|with_reducible exact hQ|((with_reducible refine aC _ 25 _ ?_);(first|rfl|(simp [lWd]<;>fail)))|(with_reducible refine Blk.drew ?_)|(with_reducible refine Blk.alloc ?_ _)))<;>fail)))|(refine (fun (hQx:Blk wx7 (w6.heap.size+1) Zr)=>?_) ?_;rotate_left;(rw [hwx];((repeat (first|with_reducible exact hQ|((with_reducible refine aC _ 25 _ ?_);(first|rfl|(simp [lWd]<;>fail)))|(with_reducible refine Blk.drew ?_)|(with_reducible refine Blk.alloc ?_ _)))<;>fail)))|skip);refine (fM (p:=(fun b=>(wx3.heap.size≤b∧b<w3.heap.size)∨(wx4.heap.size≤b∧b<w4.heap.size)∨(wx5.heap.size≤b∧b<w5.heap.size)∨(wx6.heap.size≤b∧b<w6.heap.size))) (us:=[.mk k0 n0 ks0,.mk k1 n1 ks1,.mk k2 n2 ks2,.mk km nm ksm]) 9 (gP hl0 (f0x.mono (fun b hb=>by omega)) (gP hl1 (f1x.mono (fun b hb=>by omega)) (gP hl2 (f2x.mono (fun b hb=>by omega)) (gP hlm (fmx.mono (fun b hb=>by omega)) rfl)))) (fun b hb=>by omega) (by simp) _ 4 (by rw [hwx];first|exact aC _ 25 _ rfl|exact aC _ 25 _ (by simp)|exact (aC _ 25 _ rfl).alloc _)).mono ?_;clear hwx;rintro e w7 ⟨B9,d9,rfl,hl9,hr9,hb7⟩;have B7:Bw W w7:=Bx.trans (hb7.mono Bx.size);replace hr9:RdP (fun b=>((wx3.heap.size≤b∧b<w3.heap.size)∨(wx4.heap.size≤b∧b<w4.heap.size)∨(wx5.heap.size≤b∧b<w5.heap.size)∨(wx6.heap.size≤b∧b<w6.heap.size))∨wx7.heap.size≤b) w7 B9 0 [.mk k0 n0 ks0,.mk k1 n1 ks1,.mk k2 n2 ks2,.mk km nm ksm]:=hr9;(try clear hQ);(try (have hQ:=hQx.keep hb7));(try clear hQx);(try (obtain ⟨q0,q1,q2⟩:=hQ.three));(try (have z0:=hQ.frozen 0));(try (have z1:=hQ.frozen 1));(try (have z2:=hQ.frozen 2));(try (have lq:=hQ.lt));have y7:=hb7.size;have v7:=B7.size;clear Bx f0x f1x f2x fmx)
   | (go_at_call 58;have _t:=tk5;refine jJ ?_;intro wx6 hwx;have Bx:Bw W wx6:=(by rw [hwx];with_reducible (repeat (first|exact B7|exact B6|exact B5|exact B4|exact B3|exact mJ _|refine dD ?_ _|refine iC ?_)));have f0x:RdP (fun b=>wx3.heap.size≤b∧b<w3.heap.size) wx6 B0 0 ks0:=(by rw [hwx];with_reducible (repeat (first|exact f0|refine RdP.alloc ?_ _|refine RdP.drew ?_)));have f1x:RdP (fun b=>wx4.heap.size≤b∧b<w4.heap.size) wx6 B1 0 ks1:=(by rw [hwx];with_reducible (repeat (first|exact f1|refine RdP.alloc ?_ _|refine RdP.drew ?_)));have f2x:RdP (fun b=>wx5.heap.size≤b∧b<w5.heap.size) wx6 B2 0 ks2:=(by rw [hwx];with_reducible (repeat (first|exact f2|refine RdP.alloc ?_ _|refine RdP.drew ?_)));have sx6:=congrArg (fun w:World=>w.heap.size) hwx;(try simp [lWd] at sx6);(first|(refine (fun (hQx:Blk wx6 (W.heap.size) Zr)=>?_) ?_;rotate_left;(rw [hwx];((repeat (first|with_reducible exact hQ|((with_reducible refine aC _ 25 _ ?_);(first|rfl|(simp [lWd]<;>fail)))|(with_reducible refine Blk.drew ?_)|(with_reducible refine Blk.alloc ?_ _)))<;>fail)))|(refine (fun (hQx:Blk wx6 (w3.heap.size) Zr)=>?_) ?_;rotate_left;(rw [hwx];((repeat (first|with_reducible exact hQ|((with_reducible refine aC _ 25 _ ?_);(first|rfl|(simp [lWd]<;>fail)))|(with_reducible refine Blk.drew ?_)|(with_reducible refine Blk.alloc ?_ _)))<;>fail)))|(refine (fun (hQx:Blk wx6 (w4.heap.size) Zr)=>?_) ?_;rotate_left;(rw [hwx];((repeat (first|with_reducible exact hQ|((with_reducible refine aC _ 25 _ ?_);(first|rfl|(simp [lWd]<;>fail)))|(with_reducible refine Blk.drew ?_)|(with_reducible refine Blk.alloc ?_ _)))<;>fail)))|(refine (fun (hQx:Blk wx6 (w5.heap.size) Zr)=>?_) ?_;rotate_left;(rw [hwx];((repeat (first|with_reducible exact hQ|((with_reducible refine aC _ 25 _ ?_);(first|rfl|(simp [lWd]<;>fail)))|(with_reducible refine Blk.drew ?_)|(with_reducible refine Blk.alloc ?_ _)))<;>fail)))|skip);refine (dF _ km nm ksm Am cm _ (nH _) (by omega) (em.keeps (bR Bx))).mono ?_;clear hwx;rintro e w6 ⟨Bm,dm,rfl,hlm',hfm,hb6⟩;have B6:Bw W w6:=Bx.trans (hb6.mono Bx.size);have fm:RdP (fun b=>wx6.heap.size≤b∧b<w6.heap.size) w6 Bm 0 ksm:=Fresh.rdp hfm;replace f0:=f0x.below hb6;clear f0x;replace f1:=f1x.below hb6;clear f1x;replace f2:=f2x.below hb6;clear f2x;(try clear hQ);(try (have hQ:=hQx.keep hb6));(try clear hQx);(try (obtain ⟨q0,q1,q2⟩:=hQ.three));(try (have z0:=hQ.frozen 0));(try (have z1:=hQ.frozen 1));(try (have z2:=hQ.frozen 2));(try (have lq:=hQ.lt));have y6:=hb6.size;have v6:=B6.size;clear Bx;have tk6:=trivial)
   | (go_at_call 58;have _t:=tk4;refine jJ ?_;intro wx5 hwx;have Bx:Bw W wx5:=(by rw [hwx];with_reducible (repeat (first|exact B7|exact B6|exact B5|exact B4|exact B3|exact mJ _|refine dD ?_ _|refine iC ?_)));have f0x:RdP (fun b=>wx3.heap.size≤b∧b<w3.heap.size) wx5 B0 0 ks0:=(by rw [hwx];with_reducible (repeat (first|exact f0|refine RdP.alloc ?_ _|refine RdP.drew ?_)));have f1x:RdP (fun b=>wx4.heap.size≤b∧b<w4.heap.size) wx5 B1 0 ks1:=(by rw [hwx];with_reducible (repeat (first|exact f1|refine RdP.alloc ?_ _|refine RdP.drew ?_)));have sx5:=congrArg (fun w:World=>w.heap.size) hwx;(try simp [lWd] at sx5);(first|(refine (fun (hQx:Blk wx5 (W.heap.size) Zr)=>?_) ?_;rotate_left;(rw [hwx];((repeat (first|with_reducible exact hQ|((with_reducible refine aC _ 25 _ ?_);(first|rfl|(simp [lWd]<;>fail)))|(with_reducible refine Blk.drew ?_)|(with_reducible refine Blk.alloc ?_ _)))<;>fail)))|(refine (fun (hQx:Blk wx5 (w3.heap.size) Zr)=>?_) ?_;rotate_left;(rw [hwx];((repeat (first|with_reducible exact hQ|((with_reducible refine aC _ 25 _ ?_);(first|rfl|(simp [lWd]<;>fail)))|(with_reducible refine Blk.drew ?_)|(with_reducible refine Blk.alloc ?_ _)))<;>fail)))|(refine (fun (hQx:Blk wx5 (w4.heap.size) Zr)=>?_) ?_;rotate_left;(rw [hwx];((repeat (first|with_reducible exact hQ|((with_reducible refine aC _ 25 _ ?_);(first|rfl|(simp [lWd]<;>fail)))|(with_reducible refine Blk.drew ?_)|(with_reducible refine Blk.alloc ?_ _)))<;>fail)))|skip);refine (dF _ k2 n2 ks2 A2 c2 _ (nH _) (by omega) (e2.keeps (bR Bx))).mono ?_;clear hwx;rintro e w5 ⟨B2,d2,rfl,hl2',hf2,hb5⟩;have B5:Bw W w5:=Bx.trans (hb5.mono Bx.size);have f2:RdP (fun b=>wx5.heap.size≤b∧b<w5.heap.size) w5 B2 0 ks2:=Fresh.rdp hf2;replace f0:=f0x.below hb5;clear f0x;replace f1:=f1x.below hb5;clear f1x;(try clear hQ);(try (have hQ:=hQx.keep hb5));(try clear hQx);(try (obtain ⟨q0,q1,q2⟩:=hQ.three));(try (have z0:=hQ.frozen 0));(try (have z1:=hQ.frozen 1));(try (have z2:=hQ.frozen 2));(try (have lq:=hQ.lt));have y5:=hb5.size;have v5:=B5.size;clear Bx;have tk5:=trivial)
   | (go_at_call 58;have _t:=tk3;refine jJ ?_;intro wx4 hwx;have Bx:Bw W wx4:=(by rw [hwx];with_reducible (repeat (first|exact B7|exact B6|exact B5|exact B4|exact B3|exact mJ _|refine dD ?_ _|refine iC ?_)));have f0x:RdP (fun b=>wx3.heap.size≤b∧b<w3.heap.size) wx4 B0 0 ks0:=(by rw [hwx];with_reducible (repeat (first|exact f0|refine RdP.alloc ?_ _|refine RdP.drew ?_)));have sx4:=congrArg (fun w:World=>w.heap.size) hwx;(try simp [lWd] at sx4);(first|(refine (fun (hQx:Blk wx4 (W.heap.size) Zr)=>?_) ?_;rotate_left;(rw [hwx];((repeat (first|with_reducible exact hQ|((with_reducible refine aC _ 25 _ ?_);(first|rfl|(simp [lWd]<;>fail)))|(with_reducible refine Blk.drew ?_)|(with_reducible refine Blk.alloc ?_ _)))<;>fail)))|(refine (fun (hQx:Blk wx4 (w3.heap.size) Zr)=>?_) ?_;rotate_left;(rw [hwx];((repeat (first|with_reducible exact hQ|((with_reducible refine aC _ 25 _ ?_);(first|rfl|(simp [lWd]<;>fail)))|(with_reducible refine Blk.drew ?_)|(with_reducible refine Blk.alloc ?_ _)))<;>fail)))|skip);refine (dF _ k1 n1 ks1 A1 c1 _ (nH _) (by omega) (e1.keeps (bR Bx))).mono ?_;clear hwx;rintro e w4 ⟨B1,d1,rfl,hl1',hf1,hb4⟩;have B4:Bw W w4:=Bx.trans (hb4.mono Bx.size);have f1:RdP (fun b=>wx4.heap.size≤b∧b<w4.heap.size) w4 B1 0 ks1:=Fresh.rdp hf1;replace f0:=f0x.below hb4;clear f0x;(try clear hQ);(try (have hQ:=hQx.keep hb4));(try clear hQx);(try (obtain ⟨q0,q1,q2⟩:=hQ.three));(try (have z0:=hQ.frozen 0));(try (have z1:=hQ.frozen 1));(try (have z2:=hQ.frozen 2));(try (have lq:=hQ.lt));have y4:=hb4.size;have v4:=B4.size;clear Bx;have tk4:=trivial)
   | (go_at_call 58;refine jJ ?_;intro wx3 hwx;have Bx:Bw W wx3:=(by rw [hwx];with_reducible (repeat (first|exact B7|exact B6|exact B5|exact B4|exact B3|exact mJ _|refine dD ?_ _|refine iC ?_)));have sx3:=congrArg (fun w:World=>w.heap.size) hwx;(try simp [lWd] at sx3);(first|(refine (fun (hQx:Blk wx3 (W.heap.size) Zr)=>?_) ?_;rotate_left;(rw [hwx];((repeat (first|with_reducible exact hQ|((with_reducible refine aC _ 25 _ ?_);(first|rfl|(simp [lWd]<;>fail)))|(with_reducible refine Blk.drew ?_)|(with_reducible refine Blk.alloc ?_ _)))<;>fail)))|skip);refine (dF _ k0 n0 ks0 A0 c0 _ (nH _) (by omega) (e0.keeps (bR Bx))).mono ?_;clear hwx;rintro e w3 ⟨B0,d0,rfl,hl0',hf0,hb3⟩;have B3:Bw W w3:=Bx.trans (hb3.mono Bx.size);have f0:RdP (fun b=>wx3.heap.size≤b∧b<w3.heap.size) w3 B0 0 ks0:=Fresh.rdp hf0;(try clear hQ);(try (have hQ:=hQx.keep hb3));(try clear hQx);(try (obtain ⟨q0,q1,q2⟩:=hQ.three));(try (have z0:=hQ.frozen 0));(try (have z1:=hQ.frozen 1));(try (have z2:=hQ.frozen 2));(try (have lq:=hQ.lt));have y3:=hb3.size;have v3:=B3.size;clear Bx;have tk3:=trivial))
  all_goals
   go_wp2_with fail
   go_meet
   exact ⟨_,B9,d9,rfl,(by first|exact ((hQ.set_ 0 _).set_ 1 _).set_ 2 _|exact aC _ 25 _ rfl),(by first|exact (hr9.alloc _).mono (fun b hb=>by omega)|exact (((hr9.setCell (by simp;omega) _).setCell (by simp;omega) _).setCell (by simp;omega) _).mono (fun b hb=>by omega)),(by first|exact dD B7 _|exact aFa B7 (by omega) _ _ _),by omega⟩
 case rest=>
  obtain ⟨g4,A9,c9,rfl,hT4,hk9,Bc,lg4⟩:=hcut;have X2:=aF (dS Bc x2);have P2:=aF (dS Bc p2);have Q2:=aF (dS Bc q2');have R2:=aF (dS Bc r2);have M0:=aF (dS Bc m0);have M1:=aF (dS Bc m1);have M2:=aF (dS Bc m2);have T0:=hT4.rule (i:=0) rfl;have T1:=hT4.rule (i:=1) rfl;have T2:=hT4.rule (i:=2) rfl;have Z0:=aD hSof;clear hSof x2 p0 q0' r0 p1 q1' r1 p2 q2' r2 m0 m1 m2 p3 q3 r3 pm qm rm;go_wp2_with fail
  refine aZ (fun w'=>Bw wc w') [0,1,2,3,5,9] [4,6,7,8,10,11] [12] [_,_,_,_,_,_] [_,_,_,_,_,_] [_] (by kernel_rfl) (by kernel_rfl) rfl rfl rfl (fun _ _ d _ _ h=>by cases d<;>exact h) (dV _ _).drew ?_;refine cL (aD ?_);refine bF ?_;go_wp2_with (go_at_call 58;refine (dF _ k2 n2 ks2 A2 c2 _ (nH _) (by omega) (e2.keeps (bR (iC Bc)))).mono ?_;rintro e u4 ⟨D4,h4,rfl,hl4',hf4,hb4⟩;have C4:Bw W u4:=(iC Bc).trans (hb4.mono (iC Bc).size);have f4:RdP (fun b=>W.heap.size≤b) u4 D4 0 ks2:=(Fresh.rdp hf4).mono (fun b hb=>Nat.le_trans (iC Bc).size hb.1))
  have G4:Bw wc u4:=(dV _ _).drew.trans hb4;have k9:=hk9.drew.below hb4;refine aH G4 (bF ?_);go_wp2_with (go_at_call 58;refine (dF _ km nm ksm Am cm _ (nH _) (by omega) (em.keeps (bR C4))).mono ?_;rintro e u6 ⟨D6,h6,rfl,hl6',hf6,hb6⟩;have C6:Bw W u6:=C4.trans (hb6.mono C4.size);have f6:RdP (fun b=>W.heap.size≤b) u6 D6 0 ksm:=(Fresh.rdp hf6).mono (fun b hb=>Nat.le_trans C4.size hb.1))
  have G6:Bw wc u6:=G4.trans (hb6.mono G4.size);replace k9:=k9.below hb6;replace f4:=f4.below hb6;refine aH G6 (bF ?_);go_wp2_with fail
  refine aH (dD G6 _) (bF ?_);go_wp2_with (go_at_call 73;refine (fM (us:=[.mk k2 n2 ks2,.mk km nm ksm]) 5 (gP hl2 ((f4.alloc _).lt_) (gP hlm ((f6.alloc _).lt_) rfl)) (fun b hb=>hb.2) (by simp) _ 2 (aC _ 25 _ rfl)).mono ?_;rintro e u8 ⟨D8,h8,rfl,hl8',hk8,hb8⟩;have C8:Bw W u8:=(dD C6 _).trans (hb8.mono (dD C6 _).size);replace hk8:RdP (fun b=>W.heap.size≤b) u8 D8 0 [.mk k2 n2 ks2,.mk km nm ksm]:=hk8.mono (fun b hb=>hb.elim (fun h=>h.1) (fun h=>Nat.le_trans (dD C6 _).size h)))
  have G8:Bw wc u8:=(dD G6 _).trans (hb8.mono (dD G6 _).size);replace k9:=(k9.alloc _).below hb8;refine aH G8 (bF ?_);go_wp2_with fail
  refine aH (dD G8 _) (bF ?_);go_wp2_with (go_at_call 73;refine (fM (us:=[.mk 5 0 [.mk k2 n2 ks2,.mk km nm ksm],.mk 9 0 [.mk k0 n0 ks0,.mk k1 n1 ks1,.mk k2 n2 ks2,.mk km nm ksm]]) 5 (gP (by simp) ((hk8.alloc _).lt_) (gP (by simp) ((k9.alloc _).lt_) rfl)) (fun b hb=>hb.2) (by simp) _ 2 (aC _ 25 _ rfl)).mono ?_;rintro e u11 ⟨D11,h11,rfl,hl11',hk11,hb11⟩;have C11:Bw W u11:=(dD C8 _).trans (hb11.mono (dD C8 _).size);replace hk11:RdP (fun b=>W.heap.size≤b) u11 D11 0 [.mk 5 0 [.mk k2 n2 ks2,.mk km nm ksm],.mk 9 0 [.mk k0 n0 ks0,.mk k1 n1 ks1,.mk k2 n2 ks2,.mk km nm ksm]]:=hk11.mono (fun b hb=>hb.elim (fun h=>h.1) (fun h=>Nat.le_trans (dD C8 _).size h)))
  have G11:Bw wc u11:=(dD G8 _).trans (hb11.mono (dD G8 _).size);refine aH G11 (cS ?_);have hZ11:=hZW.keep C11;obtain ⟨d0,d1,d2⟩:=hZ11.three;have e0':=hZ11.frozen 0;have e1':=hZ11.frozen 1;have e2':=hZ11.frozen 2;have s11:=C11.size;clear X2 P2 Q2 R2 M0 M1 M2 T0 T1 T2;go_wp2_with fail
  refine bodyPost_ret (v:=.agg (Ro 5 0 D11 2 h11)) ?_ rfl ?_
  ·simp [results,results159,go_sem,d0,d1,d2]
  ·refine ⟨5,0,[.mk 5 0 [.mk k2 n2 ks2,.mk km nm ksm],.mk 9 0 [.mk k0 n0 ks0,.mk k1 n1 ks1,.mk k2 n2 ks2,.mk km nm ksm]],rfl,⟨D11,h11,rfl,by simp,?_,?_⟩,by simp only [aG,Tm.size];omega⟩
   ·exact (((hk11.setCell (by simp;omega) _).setCell (by simp;omega) _).setCell (by simp;omega) _).mono (fun b hb=>.inr (by omega))
   ·exact (((gW.trans (C11.mono gW.size)).setCell (by simp) _).setCell (by simp) _).setCell (by simp) _
mutual
def gE:Tm→Option Tm
 | .mk k n ks=>if cT k ks=0 then (if fB k<0 then none else (aFu (fB k).toNat ks).map (Tm.mk k n)) else some (jL (.mk k n ks))
def aFu:Nat→List Tm→Option (List Tm)
 | _,[]=>none
 | 0,t::ts=>(gE t).map (·::ts)
 | i+1,t::ts=>(aFu i ts).map (t::·)
end
theorem yX:∀(ks:List Tm) (i:Nat) (h:i<ks.length),aFu i ks=(gE ks[i]).map (ks.set i ·)
 | t::ts,0,h=>rfl
 | t::ts,i+1,h=>by
  have hi:i<ts.length:=by simpa using h
  rw [aFu,yX ts i hi];simp only [List.getElem_cons_succ]
  cases gE ts[i]<;>rfl
def vT:Nat→Tm→Option Tm × Int
 | fuel,t=>match gE t with
  | none=>(some t,0)
  | some t'=>match fuel with
   | 0=>(none,1)
   | fuel+1=>if aE t'=true then vT fuel t' else (none,2)
theorem aBv:∀(ts:List Tm) (i:Nat) (h:i<ts.length),iE i ts=bS ts[i]
 | t::ts,0,h=>rfl
 | t::ts,i+1,h=>by rw [iE,aBv ts i (by simpa using h)];rfl
theorem mT:∀(ts:List Tm) (i:Nat),ts.length≤i→iE i ts=none∧aFu i ts=none
 | [],i,h=>by cases i<;>exact ⟨rfl,rfl⟩
 | t::ts,0,h=>absurd h (by simp)
 | t::ts,i+1,h=>by rw [iE,aFu,(mT ts i (by simpa using h)).1,(mT ts i (by simpa using h)).2];exact ⟨rfl,rfl⟩
theorem xA:∀t:Tm,(bS t=none→gE t=none)∧∀p,bS t=some p→∃k n ks,eP t p=some (.mk k n ks)∧cT k ks≠0∧gE t=some (iL t p (jL (.mk k n ks))):=by
 refine Tm.rec (motive_1:=fun t=>(bS t=none→gE t=none)∧∀p,bS t=some p→∃k n ks,eP t p=some (.mk k n ks)∧cT k ks≠0∧gE t=some (iL t p (jL (.mk k n ks))))
  (motive_2 := fun ts => ∀ t, t ∈ ts → (bS t = none → gE t = none) ∧ ∀ p, bS t = some p → ∃ k n ks, eP t p = some (.mk k n ks) ∧ cT k ks ≠ 0 ∧ gE t = some (iL t p (jL (.mk k n ks)))) ?_ ?_ ?_
 ·intro k n ks ih;by_cases hr:cT k ks=0
  ·by_cases hm:fB k<0
   ·rw [bS,gE,if_pos hr,if_pos hm,if_pos hr,if_pos hm];exact ⟨fun _=>rfl,fun p h=>by cases h⟩
   ·rw [bS,gE,if_pos hr,if_neg hm,if_pos hr,if_neg hm];obtain ⟨i,hi⟩:∃i:Nat,fB k=(i:Int):=⟨(fB k).toNat,by omega⟩;rw [hi,Int.toNat_natCast];by_cases hl:i<ks.length
    ·rw [aBv ks i hl,yX ks i hl];have h:=ih _ (fG hl);refine ⟨fun h0=>?_,fun p hp=>?_⟩
     ·cases hh:bS ks[i] with
      | none=>rw [h.1 hh];rfl
      | some q=>rw [hh] at h0;cases h0
     ·cases hh:bS ks[i] with
      | none=>rw [hh] at hp;cases hp
      | some q=>
       rw [hh] at hp;injection hp with hp;subst hp;obtain ⟨k1,n1,ks1,ha,hr1,hs⟩:=h.2 q hh;refine ⟨k1,n1,ks1,?_,hr1,?_⟩
       ·rw [oE hl];exact ha
       ·rw [hs,wY hl];rfl
    ·rw [(mT ks i (by omega)).1,(mT ks i (by omega)).2];exact ⟨fun _=>rfl,fun p h=>by cases h⟩
  ·rw [bS,gE,if_neg hr,if_neg hr];refine ⟨(fun h=>by cases h),fun p hp=>?_⟩;injection hp with hp;subst hp;exact ⟨k,n,ks,rfl,hr,rfl⟩
 ·intro t h;cases h
 ·intro t ts h1 h2 u hu;rcases List.mem_cons.1 hu with rfl|hu
  ·exact h1
  ·exact h2 u hu
theorem aFi {t:Tm}{p:List Int}(hv:aE t=true)(hp:bS t=some p):∃t',gE t=some t'∧lL t p=vO t':=by
 obtain ⟨k,n,ks,ha,hr,hs⟩:=(xA t).2 p hp;refine ⟨_,hs,?_⟩;have hu:=gU ha hv;rw [lL,ha];simp only [xZ hu hr]
 by_cases hc:aE (jL (.mk k n ks))=true
 ·rw [iA hc]
 ·rw [sB hc,sB (fun h=>hc (pJ p t _ _ ha h))]
theorem rT:∀(fuel:Nat) (t:Tm),aE t=true→vT fuel t=redI bS fuel t
 | fuel,t,hv=>by
  rw [vT,redI];cases hp:bS t with
  | none=>rw [(xA t).1 hp]
  | some p=>
   obtain ⟨t',hs,hc⟩:=aFi hv hp;rw [hs];cases fuel with
   | zero=>rfl
   | succ fuel=>
    simp only [hc]
    by_cases h:aE t'=true
    ·rw [if_pos h,iA h];exact rT fuel t' h
    ·rw [if_neg h,sB h]
theorem sE (k:Int)(w:World):Calls prog 160 #[.int .i64 k] w fun e w'=>e = .returned (.int .i64 (fB k))∧Bw w w':=by
 unfold fB
 by_cases h5:k=5
 ·subst h5;go_enter func160,ntmps160;go_wp2_with fail
  go_ret
  exact ⟨rfl,dV _ _⟩
 by_cases h15:k=15
 ·subst h15;go_enter func160,ntmps160;go_wp2_with fail
  go_ret
  exact ⟨rfl,dV _ _⟩
 by_cases h16:k=16
 ·subst h16;go_enter func160,ntmps160;go_wp2_with fail
  go_ret
  exact ⟨rfl,dV _ _⟩
 rw [if_neg (by omega)];have q5:(k==5)=false:=by simpa using h5
 have q15:(k==15)=false:=by simpa using h15
 have q16:(k==16)=false:=by simpa using h16
 by_cases h12:k=12
 ·subst h12;go_enter func160,ntmps160;go_wp2_with fail
  go_ret
  exact ⟨rfl,dV _ _⟩
 have q12:(k==12)=false:=by simpa using h12
 by_cases h9:k=9
 ·subst h9;go_enter func160,ntmps160;go_wp2_with fail
  go_ret
  exact ⟨rfl,dV _ _⟩
 have q9:(k==9)=false:=by simpa using h9
 rw [if_neg h9,if_neg h12];go_enter func160,ntmps160;go_wp2_with fail
 go_ret
 exact ⟨rfl,dV _ _⟩
def aKq (t0:Tm)(m:Nat)(w:World)(e:Ending)(w':World):Prop:=
 ∃(k n:Int) (ks:List Tm) (A:Option Addr) (c:Nat) (b:Bool),.mk k n ks=(gE t0).getD t0∧b=(gE t0).isSome∧e = .returned (.tuple #[.agg (Ro k n A ks.length c),.bool b])∧ks.length≤9223372036854775807∧aG ks+1≤m∧RdP (fun x=>if b=true then w.heap.size≤x else x<w.heap.size) w' A 0 ks∧Bw w w'
theorem iY (d:Nat):∀(k n:Int) (ks:List Tm) (A:Option Addr) (c:Nat) (w:World),d≤30→aG ks≤400→shape d (.mk k n ks)=true→Rd w A 0 ks→
  Calls prog 156 #[.agg (Ro k n A ks.length c)] w (aKq (.mk k n ks) (190000+401*d) w):=by
 induction d with
 | zero=>intro k n ks A c w _ _ hs;simp [shape] at hs
 | succ d ih=>
 intro k n ks A c w hd hM hs hr;have hlen:=aJ ks;obtain ⟨d',hde,ha,_,_,hk⟩:=cG hs;obtain rfl:d'=d:=by omega
 have hk':=aD hk;have ha':=aD ha;have hs':=aD hs;replace ih:=aD ih;clear hk ha hs hde;by_cases hx:cT k ks=0
 ·have hrd:=aD hx;obtain ⟨mm,hmm⟩:∃mm,fB k=mm:=⟨_,rfl⟩;have hmn:=aD hmm;by_cases hneg:mm<0
  ·have hst0:=aD (show gE (.mk k n ks)=none by rw [gE,if_pos hx,hmm,if_pos hneg]);have qm:decide (mm<0)=true:=decide_eq_true hneg;clear hx hmm;go_enter func156,ntmps156;go_wp2_with (first
    | (go_at_call 160;have _t:=tok;refine (sE k _).mono ?_;rw [hmn.out];rintro e w2 ⟨rfl,hb2⟩;replace hB:=hB.keep hb2;replace hZ:=hZ.keep hb2;clear x0 x1 x2;obtain ⟨x0,x1,x2⟩:=hB.three;have s2:=hZ.lt;have g2:=g1.trans (hb2.mono g1.size);have hr2:=hr.below g2;obtain ⟨d0,d1,d2,e0,e1,e2⟩:=cA hZ;clear tok;have tok2:=trivial)
    | (go_at_call 113;refine (dI k n ks A c _ (by omega) ha'.out ((hr.alloc _).alloc _)).mono ?_;rw [hrd.out];rintro e w1 ⟨rfl,hb1⟩;have hB:=cM hb1;have hZ:=bA hb1;have g1:Bw w w1:=bW bw2 hb1;have s1:=hZ.lt;have hr1:=hr.below g1;obtain ⟨x0,x1,x2⟩:=hB.three;have tok:=trivial))
   refine bodyPost_ret (v:=.tuple #[.agg (Ro k n A ks.length c),.bool false]) (by simp [results,results156,go_sem,d0,d1,d2]) rfl ⟨k,n,ks,A,c,false,(by rw [hst0.out];rfl),(by rw [hst0.out];rfl),rfl,by omega,by omega,?_,?_⟩
   ·exact ((((hr.rdp.below g2).setCell (by simp) _).setCell (by simp) _).setCell (by simp) _).mono (fun x hx=>by simpa using hx)
   ·exact bV g2
  ·obtain ⟨i,rfl⟩:∃i:Nat,mm=(i:Int):=⟨mm.toNat,by omega⟩;have hil:i<ks.length:=by
    have:=ha'.out;unfold aW at this
    unfold fB at hmm
    repeat' split at hmm
    all_goals (first|omega|(rename_i h;rcases h with rfl|rfl|rfl<;>simp_all<;>omega)|(simp_all;omega))
   have qm:decide ((i:Int)<0)=false:=decide_eq_false (by omega);obtain ⟨b,off,k',n',ks',A',c',rfl,hkj,hc1,hc2,hc3,hl',hr'⟩:=hr.at_ hil;have hlk:(i:Int)<(ks.length:Int):=by omega
   have hsz:=bY (fG hil);have hsk:=hk'.out _ (fG hil);rw [hkj] at hsz hsk;simp only [Tm.size] at hsz
   have hsk':=aD hsk;have hsteq:gE (.mk k n ks)=((gE (.mk k' n' ks')).map (ks.set i ·)).map (Tm.mk k n):=by rw [gE,if_pos hx,hmm,if_neg hneg,Int.toNat_natCast,yX ks i hil,hkj]
   cases hho:gE (.mk k' n' ks') with
   | none=>
    rw [hho] at hsteq;have hst0:=aD (show gE (.mk k n ks)=none from hsteq);have hst:=aD hho;clear hx hmm hsteq hho hsk hkj;go_enter func156,ntmps156;go_wp2_with (first
     | (go_at_call 156;have _t:=tok2;refine (ih.out k' n' ks' A' c' _ (by omega) (by omega) hsk'.out (hr'.below g2)).mono ?_;rintro e w3 ⟨k3,n3,ks3,A3,c3,bb,hv3,hw3,rfl,hl3,hs3,hr3,hb3⟩;obtain rfl:bb=false:=(by rw [hw3,hst.out];rfl);replace hv3:=aD hv3;clear hw3;replace hB:=(hB.keep hb3).alloc (.cells (Ro k3 n3 A3 ks3.length c3) 25);replace hZ:=(hZ.keep hb3).alloc (.cells (Ro k3 n3 A3 ks3.length c3) 25);have g3:=(g2.trans (hb3.mono g2.size)).alloc (by have:=hb3.size;omega) (.cells (Ro k3 n3 A3 ks3.length c3) 25);have hr4:=hr3.alloc (.cells (Ro k3 n3 A3 ks3.length c3) 25);have hr5:=hr.below g3;have s3:=hb3.size;have hK:=aC w3 25 (Ro k3 n3 A3 ks3.length c3) rfl;obtain ⟨y0,y1,y2⟩:=hK.three;clear x0 x1 x2 d0 d1 d2 e0 e1 e2;obtain ⟨x0,x1,x2⟩:=hB.three;obtain ⟨d0,d1,d2,e0,e1,e2⟩:=cA hZ;clear tok2;have tok3:=trivial)
     | (go_at_call 160;have _t:=tok;refine (sE k _).mono ?_;rw [hmn.out];rintro e w2 ⟨rfl,hb2⟩;replace hB:=hB.keep hb2;replace hZ:=hZ.keep hb2;clear x0 x1 x2;obtain ⟨x0,x1,x2⟩:=hB.three;have s2:=hZ.lt;have g2:=g1.trans (hb2.mono g1.size);have hr2:=hr.below g2;obtain ⟨d0,d1,d2,e0,e1,e2⟩:=cA hZ;clear tok;obtain ⟨m1,m2,m3⟩:=kb3 g2 hc1 hc2 hc3;have tok2:=trivial)
     | (go_at_call 113;refine (dI k n ks _ c _ (by omega) ha'.out ((hr.alloc _).alloc _)).mono ?_;rw [hrd.out];rintro e w1 ⟨rfl,hb1⟩;have hB:=cM hb1;have hZ:=bA hb1;have g1:Bw w w1:=bW bw2 hb1;have s1:=hZ.lt;have hr1:=hr.below g1;obtain ⟨x0,x1,x2⟩:=hB.three;have tok:=trivial))
    refine bodyPost_ret (v:=.tuple #[.agg (Ro k n (some ⟨b,off,none⟩) ks.length c),.bool false]) (by simp [results,results156,go_sem,d0,d1,d2]) rfl ⟨k,n,ks,some ⟨b,off,none⟩,c,false,(by rw [hst0.out];rfl),(by rw [hst0.out];rfl),rfl,by omega,by omega,?_,?_⟩
    ·exact ((((hr.rdp.below g3).setCell (by simp) _).setCell (by simp) _).setCell (by simp) _).mono (fun x hx=>by simpa using hx)
    ·exact bV g3
   | some u=>
    obtain ⟨ku,nu,us⟩:=u;rw [hho] at hsteq;have hst0:=aD (show gE (.mk k n ks)=some (.mk k n (ks.set i (.mk ku nu us))) from hsteq);have hst:=aD hho;clear hx hmm hsteq hho hsk hkj;go_enter func156,ntmps156;go_wp2_with (first
     | (go_at_call 161;have _t:=tok3;refine (xE (p:=fun x=>w2.heap.size≤x∧x<w3.heap.size) k n ks _ c i k3 n3 ks3 A3 c3 (ks.set i (.mk k3 n3 ks3)) (by simp) (aIl ks i _) _ (by omega) hl3 hr5 (hrx.alloc _) (fun x hx=>by have:=hx.2;simp;omega)).mono ?_;rintro e w4 ⟨A4,c4,rfl,hl4,hr6,hb4⟩;replace hZ:=hZ.keep hb4;clear d0 d1 d2 e0 e1 e2;obtain ⟨d0,d1,d2,e0,e1,e2⟩:=cA hZ;have g4:=g3.trans (hb4.mono g3.size))
     | (go_at_call 156;have _t:=tok2;refine (ih.out k' n' ks' A' c' _ (by omega) (by omega) hsk'.out (hr'.below g2)).mono ?_;rintro e w3 ⟨k3,n3,ks3,A3,c3,bb,hv3,hw3,rfl,hl3,hs3,hr3,hb3⟩;obtain rfl:bb=true:=(by rw [hw3,hst.out];rfl);replace hv3:=aD hv3;clear hw3;replace hB:=(hB.keep hb3).alloc (.cells (Ro k3 n3 A3 ks3.length c3) 25);replace hZ:=(hZ.keep hb3).alloc (.cells (Ro k3 n3 A3 ks3.length c3) 25);have g3:=(g2.trans (hb3.mono g2.size)).alloc (by have:=hb3.size;omega) (.cells (Ro k3 n3 A3 ks3.length c3) 25);have hr4:=hr3.alloc (.cells (Ro k3 n3 A3 ks3.length c3) 25);have hr5:=hr.below g3;have s3:=hb3.size;have hK:=aC w3 25 (Ro k3 n3 A3 ks3.length c3) rfl;obtain ⟨y0,y1,y2⟩:=hK.three;clear x0 x1 x2 d0 d1 d2 e0 e1 e2;obtain ⟨x0,x1,x2⟩:=hB.three;obtain ⟨d0,d1,d2,e0,e1,e2⟩:=cA hZ;clear tok2;have tok3:=trivial;obtain ⟨rfl,rfl,rfl⟩:k3=ku∧n3=nu∧ks3=us:=(by have h:=hv3.out;rw [hst.out] at h;injection h with q1 q2 q3;exact ⟨q1,q2,q3⟩);have hrx:RdP (fun x=>w2.heap.size≤x∧x<w3.heap.size) w3 A3 0 ks3:=(hr3.lt_).mono (fun x hx=>⟨(by have h1:=hx.1;simpa using h1),hx.2⟩))
     | (go_at_call 160;have _t:=tok;refine (sE k _).mono ?_;rw [hmn.out];rintro e w2 ⟨rfl,hb2⟩;replace hB:=hB.keep hb2;replace hZ:=hZ.keep hb2;clear x0 x1 x2;obtain ⟨x0,x1,x2⟩:=hB.three;have s2:=hZ.lt;have g2:=g1.trans (hb2.mono g1.size);have hr2:=hr.below g2;obtain ⟨d0,d1,d2,e0,e1,e2⟩:=cA hZ;clear tok;obtain ⟨m1,m2,m3⟩:=kb3 g2 hc1 hc2 hc3;have tok2:=trivial)
     | (go_at_call 113;refine (dI k n ks _ c _ (by omega) ha'.out ((hr.alloc _).alloc _)).mono ?_;rw [hrd.out];rintro e w1 ⟨rfl,hb1⟩;have hB:=cM hb1;have hZ:=bA hb1;have g1:Bw w w1:=bW bw2 hb1;have s1:=hZ.lt;have hr1:=hr.below g1;obtain ⟨x0,x1,x2⟩:=hB.three;have tok:=trivial))
    have hsz2:=sC ks i (.mk k3 n3 ks3);rw [Tm.size] at hsz2;refine bodyPost_ret (v:=.tuple #[.agg #[.int .i64 k,.int .i64 n,.slice A4 (ks.set i (.mk k3 n3 ks3)).length c4],.bool true]) (by simp [results,results156,go_sem,d0,d1,d2]) rfl ⟨k,n,ks.set i (.mk k3 n3 ks3),A4,c4,true,(by rw [hst0.out];rfl),(by rw [hst0.out];rfl),rfl,by simp;omega,by omega,?_,?_⟩
    ·have hr7:=hr6.mono (q:=fun x=>w.heap.size+2≤x) (fun x hx=>hx.elim (fun h=>by have:=h.1;omega) (fun h=>by simp at h;omega));exact (((hr7.setCell (by simp) _).setCell (by simp) _).setCell (by simp) _).mono (fun x hx=>by simp;omega)
    ·exact bV g4
 ·have hq:(cT k ks==0)=false:=by simpa using hx
  have hc:=aD (fun w A c hr=>pC fU (d'+1) hd k n ks A c w hM hs'.out hx hr);obtain ⟨rr,hrr⟩:∃rr,cT k ks=rr:=⟨_,rfl⟩;rw [hrr] at hq;have hrd:=aD hrr;have hst:=aD (show gE (.mk k n ks)=some (jL (.mk k n ks)) from by rw [gE,if_neg hx]);clear hx hrr;go_enter func156,ntmps156;go_wp2_with (first
   | (go_at_call 159;have _t:=tok;refine (hc.out _ A c hr1).mono ?_;rintro e w2 ⟨k2,n2,ks2,hv2,⟨A2,c2,rfl,hl2,hr2,hb2⟩,hs2⟩;replace hv2:=aD hv2;replace hZ:=hZ.keep hb2;obtain ⟨d0,d1,d2,e0,e1,e2⟩:=cA hZ;have g2:=g1.trans (hb2.mono g1.size))
   | (go_at_call 113;refine (dI k n ks A c _ (by omega) ha'.out ((hr.alloc _).alloc _)).mono ?_;rw [hrd.out];rintro e w1 ⟨rfl,hb1⟩;have hB:=cM hb1;have hZ:=bA hb1;have g1:Bw w w1:=bW bw2 hb1;have s1:=hZ.lt;have hr1:=hr.below g1;obtain ⟨x0,x1,x2⟩:=hB.three;have tok:=trivial))
  refine bodyPost_ret (v:=.tuple #[.agg (Ro k2 n2 A2 ks2.length c2),.bool true]) (by simp [results,results156,go_sem,d0,d1,d2]) rfl ⟨k2,n2,ks2,A2,c2,true,(by rw [hst.out,hv2.out];rfl),(by rw [hst.out];rfl),rfl,hl2,by omega,?_,?_⟩
  ·exact ((((hr2.mono (q:=fun x=>w.heap.size+2≤x) (fun x hx=>hx.elim (fun h=>h.elim) (fun h=>by omega))).setCell (by simp) _).setCell (by simp) _).setCell (by simp) _).mono (fun x hx=>by simp;omega)
  ·exact bV g2
theorem aLc {t:Tm}{f:Nat}(h:gE t=none):vT f t=(some t,0):=by rw [vT,h]
theorem aKx {t u:Tm}(h:gE t=some u):vT 0 t=(none,1):=by rw [vT,h]
theorem aFy {t u:Tm}{f:Nat}(h:gE t=some u)(hv:aE u=false):vT (f+1) t=(none,2):=by rw [vT,h];simp [hv]
theorem aJe {t u:Tm}{f:Nat}(h:gE t=some u)(hv:aE u=true):vT (f+1) t=vT f u:=by rw [vT,h];simp [hv]
theorem wQ (k n:Int)(ks:List Tm)(A:Option Addr)(c:Nat)(F:Nat)(hF:F≤1000)(w:World)(hv:aE (.mk k n ks)=true)(hl:ks.length≤9223372036854775807)(hr:Rd w A 0 ks) :
  Calls prog 146 #[.agg (Ro k n A ks.length c),.int .i64 F] w (aPc (vT F (.mk k n ks)) w):=by
 obtain ⟨R,hR⟩:∃R,vT F (.mk k n ks)=R:=⟨_,rfl⟩;rw [hR];replace hR:=aD hR;go_enter func146,ntmps146;go_wp2_with fail
 go_loopw [1] (fun fv wr=>∃(f:Nat) (k n:Int) (ks:List Tm) (A:Option Addr) (c:Nat),f≤F∧Hid (vT f (.mk k n ks)=R)∧fv = .int .i64 f∧aE (.mk k n ks)=true∧ks.length≤9223372036854775807∧Blk wr w.heap.size (Ro k n A ks.length c)∧Blk wr (w.heap.size+1) Zr∧RdP (fun b=>b<w.heap.size∨w.heap.size+2≤b) wr A 0 ks∧Bw w wr)
  (fun fv _ => (intOf fv).toNat)
 case atStart=>exact ⟨F,k,n,ks,A,c,iD _,hR,rfl,hv,hl,(aC _ _ _ rfl).alloc _,aC _ _ _ (by simp),((hr.rdp.alloc _).alloc _).mono (fun b hb=>.inl hb),bw2⟩
 case round=>
  clear hv hl hr hR;obtain ⟨f,k,n,ks,A,c,hf,hRf,rfl,hv,hl,hB,hZ,hrd,hb⟩:=hrel;have hsh:=aD (aY hv);have hM:=aI hv;have hv':=aD hv;clear hv;obtain ⟨x0,x1,x2⟩:=hB.three;have lz0:=hZ.lt;have sb:=hb.size;cases hho:gE (.mk k n ks) with
  | none=>
   obtain rfl:R=(some (.mk k n ks),0):=by rw [← hRf.out,aLc hho]
   have hst:=aD hho;clear hho;go_wp2_with (first
    | (go_at_call 58;have _t:=tok;refine (dF _ k n ks A c _ (nH _) (by omega) hrd1.rd).mono ?_;rintro e w2 ⟨A3,c3,rfl,hl3,hf3,hb3⟩;replace hZ:=hZ.keep hb3;clear d0 d1 d2 e0 e1 e2;obtain ⟨d0,d1,d2,e0,e1,e2⟩:=cA hZ;have g2:=g1.trans (hb3.mono g1.size))
    | (go_at_call 156;refine (iY 30 k n ks A c _ (iD _) hM hsh.out hrd.rd).mono ?_;rintro e w1 ⟨k3,n3,ks3,A9,c9,bb,hv3,hw3,rfl,hl9,hs3,hr3,hb9⟩;obtain rfl:bb=false:=(by rw [hw3,hst.out];rfl);clear hv3 hw3;replace hB:=(hB.keep hb9).alloc (.cells (Ro k3 n3 A9 ks3.length c9) 25);replace hZ:=(hZ.keep hb9).alloc (.cells (Ro k3 n3 A9 ks3.length c9) 25);have g1:=(hb.trans (hb9.mono hb.size)).alloc (by have:=hb9.size;omega) (.cells (Ro k3 n3 A9 ks3.length c9) 25);have hrd1:=(hrd.below hb9).alloc (.cells (Ro k3 n3 A9 ks3.length c9) 25);clear x0 x1 x2;obtain ⟨x0,x1,x2⟩:=hB.three;obtain ⟨d0,d1,d2,e0,e1,e2⟩:=cA hZ;have s1:=g1.size;have s9:w.heap.size+2≤w1.heap.size:=(by have:=hb9.size;omega);have tok:=trivial))
   refine bodyPost_ret (v:=.tuple #[.agg (Ro k n A3 ks.length c3),.int .i64 0]) (by simp [results,results146,go_sem,d0,d1,d2]) rfl ⟨k,n,ks,A3,c3,rfl,rfl,hl,?_,?_⟩
   ·exact (Fresh.rdp (mW hf3)).mono (fun b hb=>by have:=hb.1;simp at this;omega)
   ·exact bV g2
  | some u=>
   obtain ⟨ku,nu,us⟩:=u;have hst:=aD hho;clear hho;have STEP:True:=trivial;cases f with
   | zero=>
    obtain rfl:R=(none,1):=by rw [← hRf.out,aKx hst.out]
    go_wp2_with (go_at_call 156;refine (iY 30 k n ks A c _ (iD _) hM hsh.out hrd.rd).mono ?_;rintro e w1 ⟨k3,n3,ks3,A3,c3,bb,hv3,hw3,rfl,hl3,hs3,hr3,hb3⟩;obtain rfl:bb=true:=(by rw [hw3,hst.out];rfl);obtain ⟨rfl,rfl,rfl⟩:k3=ku∧n3=nu∧ks3=us:=(by have h:=hv3;rw [hst.out] at h;injection h with q1 q2 q3;exact ⟨q1,q2,q3⟩);clear hv3 hw3;replace hB:=(hB.keep hb3).alloc (.cells (Ro k3 n3 A3 ks3.length c3) 25);replace hZ:=(hZ.keep hb3).alloc (.cells (Ro k3 n3 A3 ks3.length c3) 25);have s0:=hb3.size;have g1:=(hb.trans (hb3.mono hb.size)).alloc (by omega) (.cells (Ro k3 n3 A3 ks3.length c3) 25);have hr4:=(hr3.alloc (.cells (Ro k3 n3 A3 ks3.length c3) 25)).mono (q:=fun b=>w.heap.size+2≤b) (fun b hb=>by simp at hb;omega);have hK:=aC w1 25 (Ro k3 n3 A3 ks3.length c3) rfl;clear x0 x1 x2;obtain ⟨x0,x1,x2⟩:=hB.three;obtain ⟨y0,y1,y2⟩:=hK.three;obtain ⟨d0,d1,d2,e0,e1,e2⟩:=cA hZ;have s1:=g1.size;have tok:=trivial)
    refine bodyPost_ret (v:=.tuple #[.agg Zr,.int .i64 1]) (by simp [results,results146,go_sem,d0,d1,d2]) rfl ⟨0,0,[],none,0,rfl,rfl,by simp,RdP.nil,?_⟩;exact bV g1
   | succ f=>
    have qf:decide (((f+1:Nat):Int)<1)=false:=decide_eq_false (by omega);have qg:decide ((f:Int)+1<1)=false:=decide_eq_false (by omega);cases hvu:aE (.mk ku nu us) with
    | false=>
     obtain rfl:R=(none,2):=by rw [← hRf.out,aFy hst.out hvu]
     have hvv:=aD hvu;clear hvu;go_wp2_with (first
      | (go_at_call 46;have _t:=tok;refine (aN k3 n3 ks3 A3 c3 _ (by omega) hr4.rd).mono ?_;rw [hvv.out];rintro e w2 ⟨rfl,hb4⟩;replace hB:=hB.keep hb4;replace hZ:=hZ.keep hb4;replace hK:=hK.keep hb4;have g2:=g1.trans (hb4.mono g1.size);have hr5:=hr4.below hb4;clear x0 x1 x2 y0 y1 y2 d0 d1 d2 e0 e1 e2;obtain ⟨x0,x1,x2⟩:=hB.three;obtain ⟨y0,y1,y2⟩:=hK.three;obtain ⟨d0,d1,d2,e0,e1,e2⟩:=cA hZ;obtain ⟨z0,z1,z2⟩:=kS hB;have s2:=g2.size)
      | (go_at_call 156;refine (iY 30 k n ks A c _ (iD _) hM hsh.out hrd.rd).mono ?_;rintro e w1 ⟨k3,n3,ks3,A3,c3,bb,hv3,hw3,rfl,hl3,hs3,hr3,hb3⟩;obtain rfl:bb=true:=(by rw [hw3,hst.out];rfl);obtain ⟨rfl,rfl,rfl⟩:k3=ku∧n3=nu∧ks3=us:=(by have h:=hv3;rw [hst.out] at h;injection h with q1 q2 q3;exact ⟨q1,q2,q3⟩);clear hv3 hw3;replace hB:=(hB.keep hb3).alloc (.cells (Ro k3 n3 A3 ks3.length c3) 25);replace hZ:=(hZ.keep hb3).alloc (.cells (Ro k3 n3 A3 ks3.length c3) 25);have s0:=hb3.size;have g1:=(hb.trans (hb3.mono hb.size)).alloc (by omega) (.cells (Ro k3 n3 A3 ks3.length c3) 25);have hr4:=(hr3.alloc (.cells (Ro k3 n3 A3 ks3.length c3) 25)).mono (q:=fun b=>w.heap.size+2≤b) (fun b hb=>by simp at hb;omega);have hK:=aC w1 25 (Ro k3 n3 A3 ks3.length c3) rfl;clear x0 x1 x2;obtain ⟨x0,x1,x2⟩:=hB.three;obtain ⟨y0,y1,y2⟩:=hK.three;obtain ⟨d0,d1,d2,e0,e1,e2⟩:=cA hZ;have s1:=g1.size;have tok:=trivial))
     refine bodyPost_ret (v:=.tuple #[.agg Zr,.int .i64 2]) (by simp [results,results146,go_sem,d0,d1,d2]) rfl ⟨0,0,[],none,0,rfl,rfl,by simp,RdP.nil,?_⟩;exact bV g2
    | true=>
     have hRg:=aD (show vT f (.mk ku nu us)=R by rw [← hRf.out,aJe hst.out hvu]);have hvv:=aD hvu;clear hvu;go_wp2_with (first
      | (go_at_call 46;have _t:=tok;refine (aN k3 n3 ks3 A3 c3 _ (by omega) hr4.rd).mono ?_;rw [hvv.out];rintro e w2 ⟨rfl,hb4⟩;replace hB:=hB.keep hb4;replace hZ:=hZ.keep hb4;replace hK:=hK.keep hb4;have g2:=g1.trans (hb4.mono g1.size);have hr5:=hr4.below hb4;clear x0 x1 x2 y0 y1 y2 d0 d1 d2 e0 e1 e2;obtain ⟨x0,x1,x2⟩:=hB.three;obtain ⟨y0,y1,y2⟩:=hK.three;obtain ⟨d0,d1,d2,e0,e1,e2⟩:=cA hZ;obtain ⟨z0,z1,z2⟩:=kS hB;have s2:=g2.size)
      | (go_at_call 156;refine (iY 30 k n ks A c _ (iD _) hM hsh.out hrd.rd).mono ?_;rintro e w1 ⟨k3,n3,ks3,A3,c3,bb,hv3,hw3,rfl,hl3,hs3,hr3,hb3⟩;obtain rfl:bb=true:=(by rw [hw3,hst.out];rfl);obtain ⟨rfl,rfl,rfl⟩:k3=ku∧n3=nu∧ks3=us:=(by have h:=hv3;rw [hst.out] at h;injection h with q1 q2 q3;exact ⟨q1,q2,q3⟩);clear hv3 hw3;replace hB:=(hB.keep hb3).alloc (.cells (Ro k3 n3 A3 ks3.length c3) 25);replace hZ:=(hZ.keep hb3).alloc (.cells (Ro k3 n3 A3 ks3.length c3) 25);have s0:=hb3.size;have g1:=(hb.trans (hb3.mono hb.size)).alloc (by omega) (.cells (Ro k3 n3 A3 ks3.length c3) 25);have hr4:=(hr3.alloc (.cells (Ro k3 n3 A3 ks3.length c3) 25)).mono (q:=fun b=>w.heap.size+2≤b) (fun b hb=>by simp at hb;omega);have hK:=aC w1 25 (Ro k3 n3 A3 ks3.length c3) rfl;clear x0 x1 x2;obtain ⟨x0,x1,x2⟩:=hB.three;obtain ⟨y0,y1,y2⟩:=hK.three;obtain ⟨d0,d1,d2,e0,e1,e2⟩:=cA hZ;have s1:=g1.size;have tok:=trivial))
     refine ⟨⟨f,k3,n3,ks3,A3,c3,by omega,hRg,by go_num,hvv.out,hl3,((hB.set_ 0 _).set_ 1 _).set_ 2 _,((hZ.far (by simp) _).far (by simp) _).far (by simp) _,(((hr5.setCell (by simp) _).setCell (by simp) _).setCell (by simp) _).mono (fun b hb=>.inr hb),(bV g2)⟩,by first|(simp [intOf];done)|(simp [intOf];omega)⟩
theorem aJi {w:World}{z:Nat}(hZ:Blk w z Zr):(∀t d b off i,shape d t=true→RdC w b off i t→RdPC (·≠z) w b off i t)∧(∀(ks:List Tm) d A i,(∀t,t∈ks→shape d t=true)→Rd w A i ks→RdP (·≠z) w A i ks):=by
 refine bM (fun k n ks ih d b off i hs hr=>?_) (fun d A i _ _=>RdP.nil) (fun t ts h1 h2 d A i hs hr=>?_)
 ·obtain ⟨d,rfl⟩:∃d',d=d'+1:=by cases d with|zero=>simp [shape] at hs|succ d=>exact ⟨d,rfl⟩
  obtain ⟨ha,_,_,hk⟩:=(bD d k n ks).1 hs;obtain ⟨c1,c2,A,c,c3,hl,hr'⟩:=RdC.iff.1 hr;refine RdPC.iff.2 ⟨fun e=>?_,c1,c2,A,c,c3,hl,ih d A 0 hk hr'⟩;subst e;have h0:k≠0:=by rintro rfl;have:aW 0 = -1:=rfl;omega
  rw [hZ.cell] at c1;generalize off+i*3=j at c1
  rcases j with _|_|_|j
  ·simp at c1;exact h0 c1.symm
  ·simp at c1;exact h0 c1.symm
  ·simp at c1
  ·simp at c1
 ·obtain ⟨⟨b,off,e,hc⟩,hr'⟩:=Rd.cons_iff.1 hr;exact RdP.cons_iff.2 ⟨⟨b,off,e,h1 d b off i (hs t (by simp)) hc⟩,h2 d A (i+1) (fun u hu=>hs u (by simp [hu])) hr'⟩
theorem gH {w:World}{z:Nat}{k n:Int}{ks:List Tm}{A:Option Addr}(hZ:Blk w z Zr)(hv:aE (.mk k n ks)=true)(hr:Rd w A 0 ks)(x y v:Value) :
  Rd (((w.setCell ⟨z,0,none⟩ x).setCell ⟨z,1,none⟩ y).setCell ⟨z,2,none⟩ v) A 0 ks:=by
 have hs:=((bD 29 k n ks).1 (aY hv)).2.2.2;exact (((((aJi hZ).2 ks 29 A 0 hs hr).setCell (a:=⟨z,0,none⟩) (fun h=>h rfl) x).setCell (a:=⟨z,1,none⟩) (fun h=>h rfl) y).setCell (a:=⟨z,2,none⟩) (fun h=>h rfl) v).rd
def aOc (w:World)(k n:Int)(ks:List Tm)(e:Ending)(w':World):Prop:=
 ∃A c,e = .returned (.tuple #[.agg (Ro k n A ks.length c),.int .i64 0])∧ks.length≤9223372036854775807∧Rd w' A 0 ks∧Bw w w'
def aUo (w:World)(b:Bool)(e:Ending)(w':World):Prop:=
 ∃(k n:Int) (A:Option Addr) (l c:Nat),e = .returned (.tuple #[.agg (Ro k n A l c),.int .i64 (gI b)])∧Bw w w'
def nP (w:World):Rs Tm→Ending→World→Prop
 | .ok (.mk k n ks)=>aOc w k n ks
 | .no b=>aUo w b
theorem aRg {s o:Tm}(h:yL s = .ok o):vT 200 s=(some o,0):=by
 have:=eT h;rw [rT 200 s this.1,this.2.2]
theorem aBh:∀(f:Nat) (t:Tm),(vT f t).1=none→(vT f t).2≠0
 | f,t,h=>by
  rw [vT] at h⊢;cases hs:gE t with
  | none=>rw [hs] at h;cases h
  | some u=>
   rw [hs] at h;cases f with
   | zero=>simp
   | succ f=>
    simp only at h⊢
    split at h
    ·rename_i hv;rw [if_pos hv];exact aBh f u h
    ·rename_i hv;rw [if_neg hv];simp
theorem aQt {s:Tm}{b:Bool}(hv:aE s=true)(h:yL s = .no b):b=false∧∃c,vT 200 s=(none,c)∧c≠0:=by
 unfold yL at h
 rw [if_pos hv,← rT 200 s hv] at h;have hc:=aBh 200 s;cases hh:vT 200 s with
 | mk o c=>
  rw [hh] at h hc;cases o with
  | some o=>cases h
  | none=>injection h with h;exact ⟨h.symm,c,rfl,hc rfl⟩
theorem qJ (k n:Int)(ks:List Tm)(A:Option Addr)(c:Nat)(w:World)(hv:aE (.mk k n ks)=true)(hr:Rd w A 0 ks) :
  Calls prog 132 #[.agg (Ro k n A ks.length c)] w (nP w (yL (.mk k n ks))):=by
 have hM:=aI hv;have hlen:=aJ ks;have hv':=aD hv;cases hR:yL (.mk k n ks) with
 | ok o=>
  have hvo:=aD (eT hR).2.1;obtain ⟨ko,no,os⟩:=o;have hh:=aD (aRg hR);clear hv hR;go_enter func132,ntmps132;go_wp2_with (first
   | (go_at_call 146;have _t:=tok;refine (wQ k n ks A c 200 (by omega) _ hv'.out (by omega) (hr.below g1)).mono ?_;rw [hh.out];rintro e w2 ⟨k3,n3,ks3,A3,c3,he3,rfl,hl3,hr3,hb3⟩;obtain ⟨rfl,rfl,rfl⟩:k3=ko∧n3=no∧ks3=os:=(by injection he3 with q1 q2 q3;exact ⟨q1.symm,q2.symm,q3.symm⟩);replace hZ:=(hZ.keep hb3).alloc (.cells (Ro k3 n3 A3 ks3.length c3) 25);have hK:=aC w2 25 (Ro k3 n3 A3 ks3.length c3) rfl;have s2:=hb3.size;have g2:=(g1.trans (hb3.mono g1.size)).alloc (by have:=g1.size;omega) (.cells (Ro k3 n3 A3 ks3.length c3) 25);have hr4:=hr3.rd.alloc (.cells (Ro k3 n3 A3 ks3.length c3) 25);obtain ⟨y0,y1,y2⟩:=hK.three;clear d0 d1 d2 e0 e1 e2;obtain ⟨d0,d1,d2,e0,e1,e2⟩:=cA hZ;have s3:=g2.size)
   | (go_at_call 46;refine (aN k n ks A c _ (by omega) ((hr.alloc _).alloc _)).mono ?_;rw [hv'.out];rintro e w1 ⟨rfl,hb1⟩;have hB:=cM hb1;have hZ:=bA hb1;have g1:Bw w w1:=bW bw2 hb1;obtain ⟨x0,x1,x2⟩:=hB.three;obtain ⟨d0,d1,d2,e0,e1,e2,s1⟩:=cZ hZ;have tok:=trivial))
  refine bodyPost_ret (v:=.tuple #[.agg (Ro k3 n3 A3 ks3.length c3),.int .i64 0]) (by simp [results,results132,go_sem,d0,d1,d2]) rfl ⟨A3,c3,rfl,hl3,gH hZ hvo.out hr4 _ _ _,?_⟩;exact bV g2
 | no b=>
  obtain ⟨rfl,cc,hh0,hcc⟩:=aQt hv hR;have hh:=aD hh0;have qc:(cc != 0)=true:=by simpa using hcc
  clear hv hR hh0 hcc;go_enter func132,ntmps132;go_wp2_with (first
   | (go_at_call 146;have _t:=tok;refine (wQ k n ks A c 200 (by omega) _ hv'.out (by omega) (hr.below g1)).mono ?_;rw [hh.out];rintro e w2 ⟨k3,n3,ks3,A3,c3,he3,rfl,hl3,hr3,hb3⟩;replace hZ:=(hZ.keep hb3).alloc (.cells (Ro k3 n3 A3 ks3.length c3) 25);have hK:=aC w2 25 (Ro k3 n3 A3 ks3.length c3) rfl;have s2:=hb3.size;have g2:=(g1.trans (hb3.mono g1.size)).alloc (by have:=g1.size;omega) (.cells (Ro k3 n3 A3 ks3.length c3) 25);obtain ⟨y0,y1,y2⟩:=hK.three;clear d0 d1 d2 e0 e1 e2;obtain ⟨d0,d1,d2,e0,e1,e2⟩:=cA hZ;have s3:=g2.size)
   | (go_at_call 46;refine (aN k n ks A c _ (by omega) ((hr.alloc _).alloc _)).mono ?_;rw [hv'.out];rintro e w1 ⟨rfl,hb1⟩;have hB:=cM hb1;have hZ:=bA hb1;have g1:Bw w w1:=bW bw2 hb1;obtain ⟨x0,x1,x2⟩:=hB.three;obtain ⟨d0,d1,d2,e0,e1,e2,s1⟩:=cZ hZ;have tok:=trivial))
  refine bodyPost_ret (v:=.tuple #[.agg Zr,.int .i64 2]) (by simp [results,results132,go_sem,d0,d1,d2]) rfl ⟨0,0,none,0,0,rfl,?_⟩;exact bV g2
theorem sJ (k n:Int)(ks:List Tm)(A:Option Addr)(c:Nat)(k2 n2:Int)(s2:List Tm)(A2:Option Addr)(c2:Nat)(w:World)(hv:aE (.mk k n ks)=true)(hv2:aE (.mk k2 n2 s2)=true)(hr:Rd w A 0 ks)(hr2:Rd w A2 0 s2) :
  Calls prog 162 #[.agg (Ro k n A ks.length c),.agg (Ro k2 n2 A2 s2.length c2),.int .i64 200] w fun e w'=>e = .returned (.int .i64 (lU 200 (.mk k n ks) (.mk k2 n2 s2)))∧Bw w w':=by
 have hM:=aI hv;have hM2:=aI hv2;have hlen:=aJ ks;have hlen2:=aJ s2;have hv':=aD hv;have hv2':=aD hv2;have en:=rS 200 _ hv;have en2:=rS 200 _ hv2;obtain ⟨R1,hR1⟩:∃R,iO 200 (.mk k n ks)=R:=⟨_,rfl⟩;obtain ⟨R2,hR2⟩:∃R,iO 200 (.mk k2 n2 s2)=R:=⟨_,rfl⟩;obtain ⟨m,hm⟩:∃m,lU 200 (.mk k n ks) (.mk k2 n2 s2)=m:=⟨_,rfl⟩;rw [hm];rw [lU,← en,← en2,hR1,hR2] at hm;clear en en2;have P1:True:=trivial;by_cases hsame:jO (.mk k n ks) (.mk k2 n2 s2)=true
 ·rw [if_pos hsame] at hm;subst hm;have hsm:=aD hsame;clear hv hv2 hsame hR1 hR2;go_enter func162,ntmps162;go_wp2_with (go_at_call 163;refine (iU _ k n ks A c k2 n2 s2 A2 c2 _ (nH _) (by omega) (by omega) ((hr.alloc _).alloc _) ((hr2.alloc _).alloc _)).mono ?_;rw [hsm.out];rintro e w1 ⟨rfl,hb1⟩;have hB:=cM hb1;have hB2:=bA hb1;have g1:Bw w w1:=bW bw2 hb1;obtain ⟨x0,x1,x2⟩:=hB.three;obtain ⟨z0,z1,z2⟩:=hB2.three;have s1:=hB2.lt;have tok:=trivial)
  go_ret
  exact ⟨rfl,g1⟩
 rw [if_neg hsame] at hm;have hsm:=aD (Bool.eq_false_iff.2 hsame);have hR1':=aD hR1;have hR2':=aD hR2;clear hv hv2 hsame hR1 hR2;by_cases hc1:R1.2=0
 ·by_cases hc2:R2.2=0
  ·rw [if_neg (by rintro (h|h);exact h hc1;exact h hc2)] at hm;have q1:(R1.2 != 0)=false:=by simpa using hc1
   have q2:(R2.2 != 0)=false:=by simpa using hc2
   by_cases hse:jO (R1.1.getD (.mk 0 0 [])) (R2.1.getD (.mk 0 0 []))=true
   ·rw [if_pos hse] at hm;subst hm;have hss:=aD hse;clear hse hc1 hc2;go_enter func162,ntmps162;go_wp2_with (first
     | (go_at_call 163;have _t:=tok3;refine (iU _ k3 n3 ks3 A3 c3 k4 n4 ks4 A4 c4 _ (nH _) hl3 hl4 hr7 hr6).mono ?_;rw [← he3'.out,← he4'.out,hss.out];rintro e w5 ⟨rfl,hb5⟩;have g4:=g3.trans (hb5.mono g3.size))
     | (go_at_call 164;have _t:=tok2;refine (gR fU k2 n2 s2 A2 c2 200 (by omega) _ hv2'.out (by omega) (hr2.below g2)).mono ?_;rw [hR2'.out];rintro e w3 ⟨k4,n4,ks4,A4,c4,he4,rfl,hl4,hr5,hb4⟩;have he4':=aD he4;clear he4;replace hK:=(hK.keep hb4).alloc (.cells (Ro k4 n4 A4 ks4.length c4) 25);have hL:=aC w3 25 (Ro k4 n4 A4 ks4.length c4) rfl;have g3:=(g2.trans (hb4.mono g2.size)).alloc (by have:=hb4.size;omega) (.cells (Ro k4 n4 A4 ks4.length c4) 25);have hr6:=hr5.rd.alloc (.cells (Ro k4 n4 A4 ks4.length c4) 25);have hr7:=(hr4.below hb4).alloc (.cells (Ro k4 n4 A4 ks4.length c4) 25);obtain ⟨y0,y1,y2⟩:=hK.three;obtain ⟨v0,v1,v2⟩:=hL.three;have s4':=g3.size;clear tok2;have tok3:=trivial)
     | (go_at_call 164;have _t:=tok;refine (gR fU k n ks A c 200 (by omega) _ hv'.out (by omega) (hr.below g1)).mono ?_;rw [hR1'.out];rintro e w2 ⟨k3,n3,ks3,A3,c3,he3,rfl,hl3,hr3,hb3⟩;have he3':=aD he3;clear he3;replace hB2:=(hB2.keep hb3).alloc (.cells (Ro k3 n3 A3 ks3.length c3) 25);have hK:=aC w2 25 (Ro k3 n3 A3 ks3.length c3) rfl;have s2':=hb3.size;have g2:=(g1.trans (hb3.mono g1.size)).alloc (by have:=g1.size;omega) (.cells (Ro k3 n3 A3 ks3.length c3) 25);have hr4:=hr3.rd.alloc (.cells (Ro k3 n3 A3 ks3.length c3) 25);clear x0 x1 x2 z0 z1 z2;obtain ⟨z0,z1,z2⟩:=hB2.three;have s3':=g2.size;clear tok;have tok2:=trivial)
     | (go_at_call 163;refine (iU _ k n ks A c k2 n2 s2 A2 c2 _ (nH _) (by omega) (by omega) ((hr.alloc _).alloc _) ((hr2.alloc _).alloc _)).mono ?_;rw [hsm.out];rintro e w1 ⟨rfl,hb1⟩;have hB:=cM hb1;have hB2:=bA hb1;have g1:Bw w w1:=bW bw2 hb1;obtain ⟨x0,x1,x2⟩:=hB.three;obtain ⟨z0,z1,z2⟩:=hB2.three;have s1:=hB2.lt;have tok:=trivial))
    go_ret
    exact ⟨rfl,g4⟩
   ·rw [if_neg hse] at hm;subst hm;have hss:=aD (Bool.eq_false_iff.2 hse);clear hse hc1 hc2;go_enter func162,ntmps162;go_wp2_with (first
     | (go_at_call 163;have _t:=tok3;refine (iU _ k3 n3 ks3 A3 c3 k4 n4 ks4 A4 c4 _ (nH _) hl3 hl4 hr7 hr6).mono ?_;rw [← he3'.out,← he4'.out,hss.out];rintro e w5 ⟨rfl,hb5⟩;have g4:=g3.trans (hb5.mono g3.size))
     | (go_at_call 164;have _t:=tok2;refine (gR fU k2 n2 s2 A2 c2 200 (by omega) _ hv2'.out (by omega) (hr2.below g2)).mono ?_;rw [hR2'.out];rintro e w3 ⟨k4,n4,ks4,A4,c4,he4,rfl,hl4,hr5,hb4⟩;have he4':=aD he4;clear he4;replace hK:=(hK.keep hb4).alloc (.cells (Ro k4 n4 A4 ks4.length c4) 25);have hL:=aC w3 25 (Ro k4 n4 A4 ks4.length c4) rfl;have g3:=(g2.trans (hb4.mono g2.size)).alloc (by have:=hb4.size;omega) (.cells (Ro k4 n4 A4 ks4.length c4) 25);have hr6:=hr5.rd.alloc (.cells (Ro k4 n4 A4 ks4.length c4) 25);have hr7:=(hr4.below hb4).alloc (.cells (Ro k4 n4 A4 ks4.length c4) 25);obtain ⟨y0,y1,y2⟩:=hK.three;obtain ⟨v0,v1,v2⟩:=hL.three;have s4':=g3.size;clear tok2;have tok3:=trivial)
     | (go_at_call 164;have _t:=tok;refine (gR fU k n ks A c 200 (by omega) _ hv'.out (by omega) (hr.below g1)).mono ?_;rw [hR1'.out];rintro e w2 ⟨k3,n3,ks3,A3,c3,he3,rfl,hl3,hr3,hb3⟩;have he3':=aD he3;clear he3;replace hB2:=(hB2.keep hb3).alloc (.cells (Ro k3 n3 A3 ks3.length c3) 25);have hK:=aC w2 25 (Ro k3 n3 A3 ks3.length c3) rfl;have s2':=hb3.size;have g2:=(g1.trans (hb3.mono g1.size)).alloc (by have:=g1.size;omega) (.cells (Ro k3 n3 A3 ks3.length c3) 25);have hr4:=hr3.rd.alloc (.cells (Ro k3 n3 A3 ks3.length c3) 25);clear x0 x1 x2 z0 z1 z2;obtain ⟨z0,z1,z2⟩:=hB2.three;have s3':=g2.size;clear tok;have tok2:=trivial)
     | (go_at_call 163;refine (iU _ k n ks A c k2 n2 s2 A2 c2 _ (nH _) (by omega) (by omega) ((hr.alloc _).alloc _) ((hr2.alloc _).alloc _)).mono ?_;rw [hsm.out];rintro e w1 ⟨rfl,hb1⟩;have hB:=cM hb1;have hB2:=bA hb1;have g1:Bw w w1:=bW bw2 hb1;obtain ⟨x0,x1,x2⟩:=hB.three;obtain ⟨z0,z1,z2⟩:=hB2.three;have s1:=hB2.lt;have tok:=trivial))
    go_ret
    exact ⟨rfl,g4⟩
  ·rw [if_pos (.inr hc2)] at hm;subst hm;have q1:(R1.2 != 0)=false:=by simpa using hc1
   have q2:(R2.2 != 0)=true:=by simpa using hc2
   clear hc1 hc2;go_enter func162,ntmps162;go_wp2_with (first
    | (go_at_call 164;have _t:=tok2;refine (gR fU k2 n2 s2 A2 c2 200 (by omega) _ hv2'.out (by omega) (hr2.below g2)).mono ?_;rw [hR2'.out];rintro e w3 ⟨k4,n4,ks4,A4,c4,he4,rfl,hl4,hr5,hb4⟩;have he4':=aD he4;clear he4;replace hK:=(hK.keep hb4).alloc (.cells (Ro k4 n4 A4 ks4.length c4) 25);have hL:=aC w3 25 (Ro k4 n4 A4 ks4.length c4) rfl;have g3:=(g2.trans (hb4.mono g2.size)).alloc (by have:=hb4.size;omega) (.cells (Ro k4 n4 A4 ks4.length c4) 25);have hr6:=hr5.rd.alloc (.cells (Ro k4 n4 A4 ks4.length c4) 25);have hr7:=(hr4.below hb4).alloc (.cells (Ro k4 n4 A4 ks4.length c4) 25);obtain ⟨y0,y1,y2⟩:=hK.three;obtain ⟨v0,v1,v2⟩:=hL.three;have s4':=g3.size;clear tok2;have tok3:=trivial)
    | (go_at_call 164;have _t:=tok;refine (gR fU k n ks A c 200 (by omega) _ hv'.out (by omega) (hr.below g1)).mono ?_;rw [hR1'.out];rintro e w2 ⟨k3,n3,ks3,A3,c3,he3,rfl,hl3,hr3,hb3⟩;have he3':=aD he3;clear he3;replace hB2:=(hB2.keep hb3).alloc (.cells (Ro k3 n3 A3 ks3.length c3) 25);have hK:=aC w2 25 (Ro k3 n3 A3 ks3.length c3) rfl;have s2':=hb3.size;have g2:=(g1.trans (hb3.mono g1.size)).alloc (by have:=g1.size;omega) (.cells (Ro k3 n3 A3 ks3.length c3) 25);have hr4:=hr3.rd.alloc (.cells (Ro k3 n3 A3 ks3.length c3) 25);clear x0 x1 x2 z0 z1 z2;obtain ⟨z0,z1,z2⟩:=hB2.three;have s3':=g2.size;clear tok;have tok2:=trivial)
    | (go_at_call 163;refine (iU _ k n ks A c k2 n2 s2 A2 c2 _ (nH _) (by omega) (by omega) ((hr.alloc _).alloc _) ((hr2.alloc _).alloc _)).mono ?_;rw [hsm.out];rintro e w1 ⟨rfl,hb1⟩;have hB:=cM hb1;have hB2:=bA hb1;have g1:Bw w w1:=bW bw2 hb1;obtain ⟨x0,x1,x2⟩:=hB.three;obtain ⟨z0,z1,z2⟩:=hB2.three;have s1:=hB2.lt;have tok:=trivial))
   go_ret
   exact ⟨rfl,g3⟩
 ·rw [if_pos (.inl hc1)] at hm;subst hm;have q1:(R1.2 != 0)=true:=by simpa using hc1
  clear hc1;go_enter func162,ntmps162;go_wp2_with (first
   | (go_at_call 164;have _t:=tok2;refine (gR fU k2 n2 s2 A2 c2 200 (by omega) _ hv2'.out (by omega) (hr2.below g2)).mono ?_;rw [hR2'.out];rintro e w3 ⟨k4,n4,ks4,A4,c4,he4,rfl,hl4,hr5,hb4⟩;have he4':=aD he4;clear he4;replace hK:=(hK.keep hb4).alloc (.cells (Ro k4 n4 A4 ks4.length c4) 25);have hL:=aC w3 25 (Ro k4 n4 A4 ks4.length c4) rfl;have g3:=(g2.trans (hb4.mono g2.size)).alloc (by have:=hb4.size;omega) (.cells (Ro k4 n4 A4 ks4.length c4) 25);have hr6:=hr5.rd.alloc (.cells (Ro k4 n4 A4 ks4.length c4) 25);have hr7:=(hr4.below hb4).alloc (.cells (Ro k4 n4 A4 ks4.length c4) 25);obtain ⟨y0,y1,y2⟩:=hK.three;obtain ⟨v0,v1,v2⟩:=hL.three;have s4':=g3.size;clear tok2;have tok3:=trivial)
   | (go_at_call 164;have _t:=tok;refine (gR fU k n ks A c 200 (by omega) _ hv'.out (by omega) (hr.below g1)).mono ?_;rw [hR1'.out];rintro e w2 ⟨k3,n3,ks3,A3,c3,he3,rfl,hl3,hr3,hb3⟩;have he3':=aD he3;clear he3;replace hB2:=(hB2.keep hb3).alloc (.cells (Ro k3 n3 A3 ks3.length c3) 25);have hK:=aC w2 25 (Ro k3 n3 A3 ks3.length c3) rfl;have s2':=hb3.size;have g2:=(g1.trans (hb3.mono g1.size)).alloc (by have:=g1.size;omega) (.cells (Ro k3 n3 A3 ks3.length c3) 25);have hr4:=hr3.rd.alloc (.cells (Ro k3 n3 A3 ks3.length c3) 25);clear x0 x1 x2 z0 z1 z2;obtain ⟨z0,z1,z2⟩:=hB2.three;have s3':=g2.size;clear tok;have tok2:=trivial)
   | (go_at_call 163;refine (iU _ k n ks A c k2 n2 s2 A2 c2 _ (nH _) (by omega) (by omega) ((hr.alloc _).alloc _) ((hr2.alloc _).alloc _)).mono ?_;rw [hsm.out];rintro e w1 ⟨rfl,hb1⟩;have hB:=cM hb1;have hB2:=bA hb1;have g1:Bw w w1:=bW bw2 hb1;obtain ⟨x0,x1,x2⟩:=hB.three;obtain ⟨z0,z1,z2⟩:=hB2.three;have s1:=hB2.lt;have tok:=trivial))
  go_ret
  exact ⟨rfl,g3⟩
theorem pT (k n:Int)(ks:List Tm)(A:Option Addr)(c:Nat)(k2 n2:Int)(s2:List Tm)(A2:Option Addr)(c2:Nat)(w:World)(hv:aE (.mk k n ks)=true)(hs2:aG s2≤1000000)(hr:Rd w A 0 ks)(hr2:Rd w A2 0 s2) :
  Calls prog 157 #[.agg (Ro k n A ks.length c),.agg (Ro k2 n2 A2 s2.length c2)] w fun e w'=>e = .returned (.int .i64 (smR (.mk k n ks) (.mk k2 n2 s2)).cd)∧Bw w w':=by
 have hM:=aI hv;have hv':=aD hv;unfold smR
 cases hv2:aE (.mk k2 n2 s2) with
 | false=>
  rw [if_neg (by rintro ⟨-,h⟩;cases h)];have hv2':=aD hv2;clear hv hv2;go_enter func157,ntmps157;go_wp2_with (first
   | (go_at_call 46;have _t:=tok;refine (aN k2 n2 s2 A2 c2 _ (by omega) (hr2.below g1)).mono ?_;rw [hv2'.out];rintro e w2 ⟨rfl,hb2⟩;have g2:=g1.trans (hb2.mono g1.size);have hB':=hB.keep hb2;have hB2':=hB2.keep hb2;clear x0 x1 x2 z0 z1 z2;obtain ⟨x0,x1,x2⟩:=hB'.three;obtain ⟨z0,z1,z2⟩:=hB2'.three;clear tok;have tok2:=trivial)
   | (go_at_call 46;refine (aN k n ks A c _ (by omega) ((hr.alloc _).alloc _)).mono ?_;rw [hv'.out];rintro e w1 ⟨rfl,hb1⟩;have hB:=cM hb1;have hB2:=bA hb1;have g1:Bw w w1:=bW bw2 hb1;obtain ⟨x0,x1,x2⟩:=hB.three;obtain ⟨z0,z1,z2⟩:=hB2.three;have s1:=hB2.lt;have tok:=trivial))
  go_ret
  exact ⟨rfl,g2⟩
 | true=>
  rw [if_pos ⟨hv,rfl⟩];have hv2':=aD hv2;obtain ⟨m,hm⟩:∃m,lU 200 (.mk k n ks) (.mk k2 n2 s2)=m:=⟨_,rfl⟩;rw [hm];have hm':=aD hm;clear hv hv2 hm;by_cases h1:m=1
  ·subst h1;rw [if_pos rfl];go_enter func157,ntmps157;go_wp2_with (first
    | (go_at_call 162;have _t:=tok2;refine (sJ k n ks A c k2 n2 s2 A2 c2 _ hv'.out hv2'.out (hr.below g2) (hr2.below g2)).mono ?_;rw [hm'.out];rintro e w3 ⟨rfl,hb3⟩;have g3:=g2.trans (hb3.mono g2.size))
    | (go_at_call 46;have _t:=tok;refine (aN k2 n2 s2 A2 c2 _ (by omega) (hr2.below g1)).mono ?_;rw [hv2'.out];rintro e w2 ⟨rfl,hb2⟩;have g2:=g1.trans (hb2.mono g1.size);have hB':=hB.keep hb2;have hB2':=hB2.keep hb2;clear x0 x1 x2 z0 z1 z2;obtain ⟨x0,x1,x2⟩:=hB'.three;obtain ⟨z0,z1,z2⟩:=hB2'.three;clear tok;have tok2:=trivial)
    | (go_at_call 46;refine (aN k n ks A c _ (by omega) ((hr.alloc _).alloc _)).mono ?_;rw [hv'.out];rintro e w1 ⟨rfl,hb1⟩;have hB:=cM hb1;have hB2:=bA hb1;have g1:Bw w w1:=bW bw2 hb1;obtain ⟨x0,x1,x2⟩:=hB.three;obtain ⟨z0,z1,z2⟩:=hB2.three;have s1:=hB2.lt;have tok:=trivial))
   go_ret
   exact ⟨rfl,g3⟩
  ·rw [if_neg h1];have q1:(m==1)=false:=by simpa using h1
   by_cases h2:m=2
   ·subst h2;rw [if_pos rfl];go_enter func157,ntmps157;go_wp2_with (first
     | (go_at_call 162;have _t:=tok2;refine (sJ k n ks A c k2 n2 s2 A2 c2 _ hv'.out hv2'.out (hr.below g2) (hr2.below g2)).mono ?_;rw [hm'.out];rintro e w3 ⟨rfl,hb3⟩;have g3:=g2.trans (hb3.mono g2.size))
     | (go_at_call 46;have _t:=tok;refine (aN k2 n2 s2 A2 c2 _ (by omega) (hr2.below g1)).mono ?_;rw [hv2'.out];rintro e w2 ⟨rfl,hb2⟩;have g2:=g1.trans (hb2.mono g1.size);have hB':=hB.keep hb2;have hB2':=hB2.keep hb2;clear x0 x1 x2 z0 z1 z2;obtain ⟨x0,x1,x2⟩:=hB'.three;obtain ⟨z0,z1,z2⟩:=hB2'.three;clear tok;have tok2:=trivial)
     | (go_at_call 46;refine (aN k n ks A c _ (by omega) ((hr.alloc _).alloc _)).mono ?_;rw [hv'.out];rintro e w1 ⟨rfl,hb1⟩;have hB:=cM hb1;have hB2:=bA hb1;have g1:Bw w w1:=bW bw2 hb1;obtain ⟨x0,x1,x2⟩:=hB.three;obtain ⟨z0,z1,z2⟩:=hB2.three;have s1:=hB2.lt;have tok:=trivial))
    go_ret
    exact ⟨rfl,g3⟩
   ·rw [if_neg h2];have q2:(m==2)=false:=by simpa using h2
    go_enter func157,ntmps157;go_wp2_with (first
     | (go_at_call 162;have _t:=tok2;refine (sJ k n ks A c k2 n2 s2 A2 c2 _ hv'.out hv2'.out (hr.below g2) (hr2.below g2)).mono ?_;rw [hm'.out];rintro e w3 ⟨rfl,hb3⟩;have g3:=g2.trans (hb3.mono g2.size))
     | (go_at_call 46;have _t:=tok;refine (aN k2 n2 s2 A2 c2 _ (by omega) (hr2.below g1)).mono ?_;rw [hv2'.out];rintro e w2 ⟨rfl,hb2⟩;have g2:=g1.trans (hb2.mono g1.size);have hB':=hB.keep hb2;have hB2':=hB2.keep hb2;clear x0 x1 x2 z0 z1 z2;obtain ⟨x0,x1,x2⟩:=hB'.three;obtain ⟨z0,z1,z2⟩:=hB2'.three;clear tok;have tok2:=trivial)
     | (go_at_call 46;refine (aN k n ks A c _ (by omega) ((hr.alloc _).alloc _)).mono ?_;rw [hv'.out];rintro e w1 ⟨rfl,hb1⟩;have hB:=cM hb1;have hB2:=bA hb1;have g1:Bw w w1:=bW bw2 hb1;obtain ⟨x0,x1,x2⟩:=hB.three;obtain ⟨z0,z1,z2⟩:=hB2.three;have s1:=hB2.lt;have tok:=trivial))
    go_ret
    exact ⟨rfl,g3⟩
theorem aAw (i j:Int)(w:World):Calls prog 147 #[.int .i64 i,.int .i64 j] w fun e w'=>e = .returned (.int .i64 (if j<i then i else j))∧Bw w w':=by
 by_cases h:j<i
 ·rw [if_pos h];have q:decide (j<i)=true:=decide_eq_true h;go_enter func147,ntmps147;go_wp2_with fail
  go_ret
  exact ⟨rfl,dV _ _⟩
 ·rw [if_neg h];have q:decide (j<i)=false:=decide_eq_false h;go_enter func147,ntmps147;go_wp2_with fail
  go_ret
  exact ⟨rfl,dV _ _⟩
theorem PartR.ownB {lo:Nat→Prop}{B:Nat}{w:World}{v:Value}{ts:List Tm}(h:PartR lo B w v ts):∀g,v.ownBlock=some g→B≤g:=fun g hg=>by
 obtain ⟨xs,h1,_⟩:=h;exact (h1.lt g hg).1
def Emp (w:World)(g:Nat):Prop:=w.heap[g]?=some (.cells #[] 25 (0,0))∧g<w.heap.size
theorem Emp.below {w w':World}{g:Nat}(h:Emp w g)(hb:Bw w w'):Emp w' g:=⟨by rw [hb.block g h.2];exact h.1,kT h.2 hb.size⟩
def aBg (w:World)(ts:List Tm)(e:Ending)(w':World):Prop:=∃D d,e = .returned (.slice D ts.length d)∧Rd w' D 0 ts∧Bw w w'
theorem oJ (ctx:List Tm)(C:Option Addr)(cc:Nat)(k n:Int)(ks:List Tm)(A:Option Addr)(c:Nat)(w:World)(hm:ctx.length≤1000)(hl:ks.length≤9223372036854775807)(hrc:Rd w C 0 ctx)(hra:Rd w A 0 ks) :
  Calls prog 81 #[.slice C ctx.length cc,.agg (Ro k n A ks.length c)] w (aBg w (ctx++[.mk k n ks])):=by
 go_enter func81,ntmps81;go_upto_region 1 with fail
 refine aQn (show Blk _ w.heap.size (Ro k n A ks.length c) from (aC _ 25 _ rfl)) bw1 ?_;intro wx hT gx;have rcx:=(hrc.below gx).rdp;have rax:=(hra.below gx).rdp;obtain ⟨v0,v1,v2⟩:=kZ hT;refine fE wx [5,6] [1,3] 7 5 (lT:=[_,_]) ?_;intro q0 bq0;refine cL (aD ?_);refine oC 0 4 ?_ ?_
 ·go_wp2_with fail
  refine bI ?_;intro q1 hn;have hbq1:Bw q0 q1:=by rw [hn];exact bw1
  have Eq1:Emp q1 q0.heap.size:=by rw [hn];exact ⟨heap_alloc_new _ _,by simp⟩
  have seq1:q0.heap.size<q1.heap.size:=by rw [hn];simp
  clear hn;refine bJ bq0 hbq1 ?_;intro bq1 lq1;refine oC 2 4 ?_ ?_
  ·have lgq2:q0.heap.size<q1.heap.size:=Eq1.2;refine cV (p:=fun b=>b<wx.heap.size) (g:=q0.heap.size) (cl:=cc) Eq1.1 (rcx.below bq1) (fun b hb=>⟨kT hb bq1.size,by have:=bq0.size;omega⟩) rfl (by omega) rfl _ _ rfl rfl rfl ?_;intro C2 c2 q2 hPq2 hgq2;have hbq2:Below q0.heap.size q1 q2:=⟨hgq2.os,hgq2.tape,hgq2.output,hgq2.size,fun k hk=>hgq2.block k (by omega) (fun e=>by injection e;omega)⟩;have bq2:Bw wx q2:=bq1.trans (hbq2.mono bq0.size);have lq2:=hbq2.size;refine aH bq2 ?_;refine bG 4 ?_
   ·go_wp2_with fail
    refine eQ ?_;intro q3 hbq3 zq3 seq3;have Pq3:=hPq2.below hbq3;refine bJ bq2 hbq3 ?_;intro bq3 lq3;refine cY [5,6] (lB:=[_,_]) ?_;have lB:q0.heap.size≤q3.heap.size:=by have:=lq3;omega
    have lA:wx.heap.size≤q0.heap.size:=bq0.size;refine cC (lo:=fun b=>b<wx.heap.size) (B:=q0.heap.size) (q:=fun b=>b<wx.heap.size) Pq3 lB (rax.below bq3) (fun b hb=>⟨.inl hb,kT hb bq3.size,fun e=>by have:=Pq3.ownB b e;omega⟩) hl rfl (by omega) q2.heap.size 1 zq3 rfl _ _ rfl rfl rfl ?_;intro A9 c9 w9 hp9 hb9 hg9 hn9;obtain ⟨A8,c8,e8,r8⟩:=hp9.rd;injection e8 with e81 e82 e83;subst e81 e83;have hlen9:(ctx++[Tm.mk k n ks]).length=ctx.length+1:=by simp
    refine gS (aD ?_);go_wp2_with fail
    go_ret
    exact ⟨A9,c9,by rw [hlen9];rfl,r8.rd,(gx.trans (bq3.mono gx.size)).trans (hb9.mono (by have:=gx.size;omega))⟩
  ·go_wp2_with fail
   refine eQ ?_;intro q4 hbq4 zq4 seq4;have Eq4:=Eq1.below hbq4;refine bJ bq1 hbq4 ?_;intro bq4 lq4;refine bG 2 ?_
   ·have lgq5:q0.heap.size<q4.heap.size:=Eq4.2;refine cV (p:=fun b=>b<wx.heap.size) (g:=q0.heap.size) (cl:=cc) Eq4.1 (rcx.below bq4) (fun b hb=>⟨kT hb bq4.size,by have:=bq0.size;omega⟩) rfl (by omega) rfl _ _ rfl rfl rfl ?_;intro C2 c2 q5 hPq5 hgq5;have hbq5:Below q0.heap.size q4 q5:=⟨hgq5.os,hgq5.tape,hgq5.output,hgq5.size,fun k hk=>hgq5.block k (by omega) (fun e=>by injection e;omega)⟩;have Kq5:=zq4.grown hgq5 (by simp;omega);have bq5:Bw wx q5:=bq4.trans (hbq5.mono bq0.size);have lq5:=hbq5.size;refine aH bq5 ?_;refine cY [5,6] (lB:=[_,_]) ?_;have lB:q0.heap.size≤q5.heap.size:=by have:=lq5;omega
    have lA:wx.heap.size≤q0.heap.size:=bq0.size;refine cC (lo:=fun b=>b<wx.heap.size) (B:=q0.heap.size) (q:=fun b=>b<wx.heap.size) hPq5 lB (rax.below bq5) (fun b hb=>⟨.inl hb,kT hb bq5.size,fun e=>by have:=hPq5.ownB b e;omega⟩) hl rfl (by omega) q1.heap.size 1 Kq5 rfl _ _ rfl rfl rfl ?_;intro A9 c9 w9 hp9 hb9 hg9 hn9;obtain ⟨A8,c8,e8,r8⟩:=hp9.rd;injection e8 with e81 e82 e83;subst e81 e83;have hlen9:(ctx++[Tm.mk k n ks]).length=ctx.length+1:=by simp
    refine gS (aD ?_);go_wp2_with fail
    go_ret
    exact ⟨A9,c9,by rw [hlen9];rfl,r8.rd,(gx.trans (bq5.mono gx.size)).trans (hb9.mono (by have:=gx.size;omega))⟩
 ·go_wp2_with fail
  refine eQ ?_;intro q6 hbq6 zq6 seq6;refine bJ bq0 hbq6 ?_;intro bq6 lq6;refine bG 0 ?_
  ·go_wp2_with fail
   refine bI ?_;intro q7 hn;have hbq7:Bw q6 q7:=by rw [hn];exact bw1
   have Eq7:Emp q7 q6.heap.size:=by rw [hn];exact ⟨heap_alloc_new _ _,by simp⟩
   have seq7:q6.heap.size<q7.heap.size:=by rw [hn];simp
   clear hn;have Kq7:=zq6.keep hbq7;refine bJ bq6 hbq7 ?_;intro bq7 lq7;refine bG 2 ?_
   ·have lgq8:q6.heap.size<q7.heap.size:=Eq7.2;refine cV (p:=fun b=>b<wx.heap.size) (g:=q6.heap.size) (cl:=cc) Eq7.1 (rcx.below bq7) (fun b hb=>⟨kT hb bq7.size,by have:=bq6.size;omega⟩) rfl (by omega) rfl _ _ rfl rfl rfl ?_;intro C2 c2 q8 hPq8 hgq8;have hbq8:Below q6.heap.size q7 q8:=⟨hgq8.os,hgq8.tape,hgq8.output,hgq8.size,fun k hk=>hgq8.block k (by omega) (fun e=>by injection e;omega)⟩;have Kq8:=Kq7.grown hgq8 (by simp;omega);have bq8:Bw wx q8:=bq7.trans (hbq8.mono bq6.size);have lq8:=hbq8.size;refine aH bq8 ?_;refine cY [5,6] (lB:=[_,_]) ?_;have lB:q6.heap.size≤q8.heap.size:=by have:=lq8;omega
    have lA:wx.heap.size≤q6.heap.size:=bq6.size;refine cC (lo:=fun b=>b<wx.heap.size) (B:=q6.heap.size) (q:=fun b=>b<wx.heap.size) hPq8 lB (rax.below bq8) (fun b hb=>⟨.inl hb,kT hb bq8.size,fun e=>by have:=hPq8.ownB b e;omega⟩) hl rfl (by omega) q0.heap.size 1 Kq8 rfl _ _ rfl rfl rfl ?_;intro A9 c9 w9 hp9 hb9 hg9 hn9;obtain ⟨A8,c8,e8,r8⟩:=hp9.rd;injection e8 with e81 e82 e83;subst e81 e83;have hlen9:(ctx++[Tm.mk k n ks]).length=ctx.length+1:=by simp
    refine gS (aD ?_);go_wp2_with fail
    go_ret
    exact ⟨A9,c9,by rw [hlen9];rfl,r8.rd,(gx.trans (bq8.mono gx.size)).trans (hb9.mono (by have:=gx.size;omega))⟩
def GtZ (w:World):Rs Tm→Ending→World→Prop
 | .ok (.mk k n ks)=>aOc w k n ks
 | .no b=>fun e w'=>e = .returned (.tuple #[.agg Zr,.int .i64 (gI b)])∧Bw w w'
def mU (N:Nat):Prop:=∀(ctx:List Tm) (k n:Int) (ks:List Tm) (r:Rs Tm),bZ N ctx (.mk k n ks)=some r→aE (.mk k n ks)=true→(∀u,u∈ctx→aE u=true)→ctx.length≤21→
 ∀(C:Option Addr) (cc:Nat) (A:Option Addr) (c:Nat) (w:World),Rd w C 0 ctx→Rd w A 0 ks→Calls prog 78 #[.slice C ctx.length cc,.agg (Ro k n A ks.length c)] w (GtZ w r)
theorem gtz {f:FuncId}{args:Array Value}{w:World}{r:Rs Tm}(h:Calls prog f args w (GtZ w r)):Calls prog f args w (nP w r):=h.mono fun e w' h=>by
 cases r with
 | ok t=>cases t;exact h
 | no b=>exact ⟨0,0,none,0,0,h.1,h.2⟩
def GtS (w:World):Rs Int→Ending→World→Prop
 | .ok l=>fun e w'=>e = .returned (.tuple #[.int .i64 l,.int .i64 0])∧Bw w w'
 | .no b=>fun e w'=>∃l,e = .returned (.tuple #[.int .i64 l,.int .i64 (gI b)])∧Bw w w'
theorem fO (b:Bool):(gI b != 0)=true:=by cases b<;>rfl
theorem iK (b:Bool):(gI b==0)=false:=by cases b<;>rfl
theorem eE {N:Nat}(ih:mU N)(ctx:List Tm)(C:Option Addr)(cc:Nat)(k n:Int)(ks:List Tm)(A:Option Addr)(c:Nat)(r:Rs Int)(w:World)(hs:pX (bZ N) ctx (.mk k n ks)=some r)(hv:aE (.mk k n ks)=true)(hvc:∀u,u∈ctx→aE u=true)(hm:ctx.length≤21)(hrc:Rd w C 0 ctx)(hra:Rd w A 0 ks) :
  Calls prog 111 #[.slice C ctx.length cc,.agg (Ro k n A ks.length c)] w (GtS w r):=by
 rcases cB hs with ⟨b,h1,rfl⟩|⟨⟨k1,n1,s1⟩,h1,hs⟩
 ·have hI:=aD (fun (w:World) (hrc:Rd w C 0 ctx) (hra:Rd w A 0 ks)=>gtz (ih ctx k n ks _ h1 hv hvc hm C cc A c w hrc hra));have qb:=fO b;clear hs h1 hv hvc ih;go_enter func111,ntmps111;go_wp2_with (go_at_call 78;refine (hI.out _ (hrc.alloc _) (hra.alloc _)).mono ?_;rintro e w1 ⟨k1,n1,A1,l1,c1,rfl,hb1⟩;have hT:=nJ hb1;have g1:Bw w w1:=bW bw1 hb1;have g2:=g1.alloc g1.size (.cells (Ro k1 n1 A1 l1 c1) 25))
  go_ret2
  exact ⟨0,rfl,g2⟩
 ·have hI:=aD (fun (w:World) (hrc:Rd w C 0 ctx) (hra:Rd w A 0 ks)=>gtz (ih ctx k n ks _ h1 hv hvc hm C cc A c w hrc hra));have hH:=aD (fun (w:World) (A:Option Addr) (c:Nat) (hr:Rd w A 0 s1)=>qJ k1 n1 s1 A c w (cO h1) hr);rcases cB hs with ⟨b,h2,rfl⟩|⟨⟨k3,n3,s3⟩,h2,hs⟩
  ·injection h2 with h2;rw [h2] at hH;have qb:=fO b;clear hs h1 h2 hv hvc ih;go_enter func111,ntmps111;go_wp2_with (first
    | (go_at_call 132;have _t:=tok;refine (hH.out _ A1 c1 r2).mono ?_;rintro e w3 ⟨k3,n3,A3,l3,c3,rfl,hb3⟩;have g3:=(g2.trans (hb3.mono g2.size)).alloc (by have:=g2.size;have:=hb3.size;omega) (.cells (Ro k3 n3 A3 l3 c3) 25))
    | (go_at_call 78;refine (hI.out _ (hrc.alloc _) (hra.alloc _)).mono ?_;rintro e w1 ⟨A1,c1,rfl,hl1,r1,hb1⟩;have hT:=nJ hb1;have g1:Bw w w1:=bW bw1 hb1;have hK:=aC w1 25 (Ro k1 n1 A1 s1.length c1) rfl;have g2:=g1.alloc g1.size (.cells (Ro k1 n1 A1 s1.length c1) 25);have r2:=r1.alloc (.cells (Ro k1 n1 A1 s1.length c1) 25);obtain ⟨y0,y1,y2⟩:=hK.three;have tok:=trivial))
   go_ret2
   exact ⟨0,rfl,g3⟩
  ·injection h2 with h2;rw [h2] at hH;unfold aRb at hs
   by_cases hk:k3=2
   ·subst hk;rw [if_pos (show (Tm.mk 2 n3 s3).k=2 from rfl)] at hs;injection hs with hs;subst hs;clear h1 h2 hv hvc ih;go_enter func111,ntmps111;go_wp2_with (first
     | (go_at_call 132;have _t:=tok;refine (hH.out _ A1 c1 r2).mono ?_;rintro e w3 ⟨A3,c3,rfl,hl3,r3,hb3⟩;have hJ:=aC w3 25 (Ro 2 n3 A3 s3.length c3) rfl;have g3:=(g2.trans (hb3.mono g2.size)).alloc (by have:=g2.size;have:=hb3.size;omega) (.cells (Ro 2 n3 A3 s3.length c3) 25);have r4:=r3.alloc (.cells (Ro 2 n3 A3 s3.length c3) 25);obtain ⟨v0,v1,v2⟩:=hJ.three)
     | (go_at_call 78;refine (hI.out _ (hrc.alloc _) (hra.alloc _)).mono ?_;rintro e w1 ⟨A1,c1,rfl,hl1,r1,hb1⟩;have hT:=nJ hb1;have g1:Bw w w1:=bW bw1 hb1;have hK:=aC w1 25 (Ro k1 n1 A1 s1.length c1) rfl;have g2:=g1.alloc g1.size (.cells (Ro k1 n1 A1 s1.length c1) 25);have r2:=r1.alloc (.cells (Ro k1 n1 A1 s1.length c1) 25);obtain ⟨y0,y1,y2⟩:=hK.three;have tok:=trivial))
    go_ret2
    exact ⟨rfl,g3⟩
   ·rw [if_neg (show ¬(Tm.mk k3 n3 s3).k=2 from hk)] at hs;injection hs with hs;subst hs;have qk:(k3 != 2)=true:=by simpa using hk
    clear h1 h2 hv hvc ih hk;go_enter func111,ntmps111;go_wp2_with (first
     | (go_at_call 132;have _t:=tok;refine (hH.out _ A1 c1 r2).mono ?_;rintro e w3 ⟨A3,c3,rfl,hl3,r3,hb3⟩;have hJ:=aC w3 25 (Ro k3 n3 A3 s3.length c3) rfl;have g3:=(g2.trans (hb3.mono g2.size)).alloc (by have:=g2.size;have:=hb3.size;omega) (.cells (Ro k3 n3 A3 s3.length c3) 25);have r4:=r3.alloc (.cells (Ro k3 n3 A3 s3.length c3) 25);obtain ⟨v0,v1,v2⟩:=hJ.three)
     | (go_at_call 78;refine (hI.out _ (hrc.alloc _) (hra.alloc _)).mono ?_;rintro e w1 ⟨A1,c1,rfl,hl1,r1,hb1⟩;have hT:=nJ hb1;have g1:Bw w w1:=bW bw1 hb1;have hK:=aC w1 25 (Ro k1 n1 A1 s1.length c1) rfl;have g2:=g1.alloc g1.size (.cells (Ro k1 n1 A1 s1.length c1) 25);have r2:=r1.alloc (.cells (Ro k1 n1 A1 s1.length c1) 25);obtain ⟨y0,y1,y2⟩:=hK.three;have tok:=trivial))
    go_ret2
    exact ⟨0,rfl,g3⟩
theorem cH {N:Nat}(ih:mU N)(ctx:List Tm)(C:Option Addr)(cc:Nat)(k n:Int)(ks:List Tm)(A:Option Addr)(c:Nat)(k2 n2:Int)(s2:List Tm)(A2:Option Addr)(c2:Nat)(r:Rs Unit)(w:World)(hs:jQ (bZ N) ctx (.mk k n ks) (.mk k2 n2 s2)=some r)(hv:aE (.mk k n ks)=true)(hvc:∀u,u∈ctx→aE u=true)(hm:ctx.length≤21)(hrc:Rd w C 0 ctx)(hra:Rd w A 0 ks)(hs2:aG s2≤1000000)(hr2:Rd w A2 0 s2) :
  Calls prog 149 #[.slice C ctx.length cc,.agg (Ro k n A ks.length c),.agg (Ro k2 n2 A2 s2.length c2)] w fun e w'=>e = .returned (.int .i64 r.cd)∧Bw w w':=by
 rcases cB hs with ⟨b,h1,rfl⟩|⟨⟨k1,n1,s1⟩,h1,hs⟩
 ·have hI:=aD (fun (w:World) (hrc:Rd w C 0 ctx) (hra:Rd w A 0 ks)=>gtz (ih ctx k n ks _ h1 hv hvc hm C cc A c w hrc hra));have qb:=fO b;clear hs h1 hv hvc ih;go_enter func149,ntmps149;go_wp2_with (go_at_call 78;refine (hI.out _ ((hrc.alloc _).alloc _) ((hra.alloc _).alloc _)).mono ?_;rintro e w1 ⟨k1,n1,A1,l1,c1,rfl,hb1⟩;have hT:=cM hb1;have hW:=bA hb1;have g1:Bw w w1:=bW bw2 hb1;have g2:=g1.alloc g1.size (.cells (Ro k1 n1 A1 l1 c1) 25))
  go_ret
  exact ⟨rfl,g2⟩
 ·have hI:=aD (fun (w:World) (hrc:Rd w C 0 ctx) (hra:Rd w A 0 ks)=>gtz (ih ctx k n ks _ h1 hv hvc hm C cc A c w hrc hra));injection hs with hs;have hS:=aD (fun (w:World) (A1:Option Addr) (c1:Nat) (hr:Rd w A1 0 s1) (hr2:Rd w A2 0 s2)=>pT k1 n1 s1 A1 c1 k2 n2 s2 A2 c2 w (cO h1) hs2 hr hr2);rw [hs] at hS;clear hs h1 hv hvc ih;go_enter func149,ntmps149;go_wp2_with (first
   | (go_at_call 157;have _t:=tok;refine (hS.out _ A1 c1 r2 (hr2.below g2)).mono ?_;rintro e w3 ⟨rfl,hb3⟩;have g3:=g2.trans (hb3.mono g2.size))
   | (go_at_call 78;refine (hI.out _ ((hrc.alloc _).alloc _) ((hra.alloc _).alloc _)).mono ?_;rintro e w1 ⟨A1,c1,rfl,hl1,r1,hb1⟩;have hT:=cM hb1;have hW:=bA hb1;have g1:Bw w w1:=bW bw2 hb1;have hK:=aC w1 25 (Ro k1 n1 A1 s1.length c1) rfl;have g2:=g1.alloc g1.size (.cells (Ro k1 n1 A1 s1.length c1) 25);have r2:=r1.alloc (.cells (Ro k1 n1 A1 s1.length c1) 25);obtain ⟨y0,y1,y2⟩:=hK.three;have tok:=trivial;have hW2:=hW.alloc (.cells (Ro k1 n1 A1 s1.length c1) 25);obtain ⟨z0,z1,z2⟩:=hW2.three))
  go_ret
  exact ⟨rfl,g3⟩
theorem fN {N:Nat}(ih:mU N)(ctx:List Tm)(C:Option Addr)(cc:Nat)(k n:Int)(ks:List Tm)(A:Option Addr)(c:Nat)(kind:Int)(r:Rs Tm)(w:World)(hs:uE (bZ N) ctx (.mk k n ks) kind=some r)(hv:aE (.mk k n ks)=true)(hvc:∀u,u∈ctx→aE u=true)(hm:ctx.length≤21)(hrc:Rd w C 0 ctx)(hra:Rd w A 0 ks) :
  Calls prog 148 #[.slice C ctx.length cc,.agg (Ro k n A ks.length c),.int .i64 kind] w (nP w r):=by
 rcases cB hs with ⟨b,h1,rfl⟩|⟨⟨k1,n1,s1⟩,h1,hs⟩
 ·have hI:=aD (fun (w:World) (hrc:Rd w C 0 ctx) (hra:Rd w A 0 ks)=>gtz (ih ctx k n ks _ h1 hv hvc hm C cc A c w hrc hra));have qb:=fO b;clear hs h1 hv hvc ih;go_enter func148,ntmps148;go_wp2_with (go_at_call 78;refine (hI.out _ ((hrc.alloc _).alloc _) ((hra.alloc _).alloc _)).mono ?_;rintro e w1 ⟨k1,n1,A1,l1,c1,rfl,hb1⟩;have hT:=cM hb1;have hZ:=bA hb1;have g1:Bw w w1:=bW bw2 hb1;have g2:=g1.alloc g1.size (.cells (Ro k1 n1 A1 l1 c1) 25);have hZ2:=hZ.alloc (.cells (Ro k1 n1 A1 l1 c1) 25);obtain ⟨d0,d1,d2,e0,e1,e2,lz⟩:=cZ hZ2)
  refine bodyPost_ret (v:=.tuple #[.agg Zr,.int .i64 (gI b)]) (by simp [results,results148,go_sem,d0,d1,d2]) rfl ⟨0,0,none,0,0,rfl,?_⟩;exact bV g2
 ·have hI:=aD (fun (w:World) (hrc:Rd w C 0 ctx) (hra:Rd w A 0 ks)=>gtz (ih ctx k n ks _ h1 hv hvc hm C cc A c w hrc hra));have hH:=aD (fun (w:World) (A:Option Addr) (c:Nat) (hr:Rd w A 0 s1)=>qJ k1 n1 s1 A c w (cO h1) hr);rcases cB hs with ⟨b,h2,rfl⟩|⟨⟨k3,n3,s3⟩,h2,hs⟩
  ·injection h2 with h2;rw [h2] at hH;have qb:=fO b;clear hs h1 h2 hv hvc ih;go_enter func148,ntmps148;go_wp2_with (first
    | (go_at_call 132;have _t:=tok;refine (hH.out _ A1 c1 r2).mono ?_;rintro e w3 ⟨k3,n3,A3,l3,c3,rfl,hb3⟩;have g3:=(g2.trans (hb3.mono g2.size)).alloc (by have:=g2.size;have:=hb3.size;omega) (.cells (Ro k3 n3 A3 l3 c3) 25);have hZ2:=((hZ.alloc (.cells (Ro k1 n1 A1 s1.length c1) 25)).keep hb3).alloc (.cells (Ro k3 n3 A3 l3 c3) 25);obtain ⟨d0,d1,d2,e0,e1,e2,lz⟩:=cZ hZ2)
    | (go_at_call 78;refine (hI.out _ ((hrc.alloc _).alloc _) ((hra.alloc _).alloc _)).mono ?_;rintro e w1 ⟨A1,c1,rfl,hl1,r1,hb1⟩;have hT:=cM hb1;have hZ:=bA hb1;have g1:Bw w w1:=bW bw2 hb1;have hK:=aC w1 25 (Ro k1 n1 A1 s1.length c1) rfl;have g2:=g1.alloc g1.size (.cells (Ro k1 n1 A1 s1.length c1) 25);have r2:=r1.alloc (.cells (Ro k1 n1 A1 s1.length c1) 25);obtain ⟨y0,y1,y2⟩:=hK.three;have tok:=trivial;have hZ2:=hZ.alloc (.cells (Ro k1 n1 A1 s1.length c1) 25);obtain ⟨d0,d1,d2,e0,e1,e2,lz⟩:=cZ hZ2))
   refine bodyPost_ret (v:=.tuple #[.agg Zr,.int .i64 (gI b)]) (by simp [results,results148,go_sem,d0,d1,d2]) rfl ⟨0,0,none,0,0,rfl,?_⟩;exact bV g3
  ·injection h2 with h2;have hv3:=aD (eT h2).2.1;rw [h2] at hH;unfold zW at hs
   by_cases hk:k3=kind
   ·subst hk;rw [if_pos (show (Tm.mk k3 n3 s3).k=k3 from rfl)] at hs;injection hs with hs;subst hs;clear h1 h2 hv hvc ih;go_enter func148,ntmps148;go_wp2_with (first
     | (go_at_call 132;have _t:=tok;refine (hH.out _ A1 c1 r2).mono ?_;rintro e w3 ⟨A3,c3,rfl,hl3,r3,hb3⟩;have hJ:=aC w3 25 (Ro k3 n3 A3 s3.length c3) rfl;have g3:=(g2.trans (hb3.mono g2.size)).alloc (by have:=g2.size;have:=hb3.size;omega) (.cells (Ro k3 n3 A3 s3.length c3) 25);have r4:=r3.alloc (.cells (Ro k3 n3 A3 s3.length c3) 25);obtain ⟨v0,v1,v2⟩:=hJ.three;have hZ2:=((hZ.alloc (.cells (Ro k1 n1 A1 s1.length c1) 25)).keep hb3).alloc (.cells (Ro k3 n3 A3 s3.length c3) 25);obtain ⟨d0,d1,d2,e0,e1,e2,lz⟩:=cZ hZ2)
     | (go_at_call 78;refine (hI.out _ ((hrc.alloc _).alloc _) ((hra.alloc _).alloc _)).mono ?_;rintro e w1 ⟨A1,c1,rfl,hl1,r1,hb1⟩;have hT:=cM hb1;have hZ:=bA hb1;have g1:Bw w w1:=bW bw2 hb1;have hK:=aC w1 25 (Ro k1 n1 A1 s1.length c1) rfl;have g2:=g1.alloc g1.size (.cells (Ro k1 n1 A1 s1.length c1) 25);have r2:=r1.alloc (.cells (Ro k1 n1 A1 s1.length c1) 25);obtain ⟨y0,y1,y2⟩:=hK.three;have tok:=trivial;have hZ2:=hZ.alloc (.cells (Ro k1 n1 A1 s1.length c1) 25);obtain ⟨d0,d1,d2,e0,e1,e2,lz⟩:=cZ hZ2))
    refine bodyPost_ret (v:=.tuple #[.agg (Ro k3 n3 A3 s3.length c3),.int .i64 0]) (by simp [results,results148,go_sem,d0,d1,d2]) rfl ⟨A3,c3,rfl,hl3,gH hZ2 hv3.out r4 _ _ _,?_⟩;exact bV g3
   ·rw [if_neg (show ¬(Tm.mk k3 n3 s3).k=kind from hk)] at hs;injection hs with hs;subst hs;have qk:(k3 != kind)=true:=by simpa using hk
    clear h1 h2 hv hvc ih hk;go_enter func148,ntmps148;go_wp2_with (first
     | (go_at_call 132;have _t:=tok;refine (hH.out _ A1 c1 r2).mono ?_;rintro e w3 ⟨A3,c3,rfl,hl3,r3,hb3⟩;have hJ:=aC w3 25 (Ro k3 n3 A3 s3.length c3) rfl;have g3:=(g2.trans (hb3.mono g2.size)).alloc (by have:=g2.size;have:=hb3.size;omega) (.cells (Ro k3 n3 A3 s3.length c3) 25);have r4:=r3.alloc (.cells (Ro k3 n3 A3 s3.length c3) 25);obtain ⟨v0,v1,v2⟩:=hJ.three;have hZ2:=((hZ.alloc (.cells (Ro k1 n1 A1 s1.length c1) 25)).keep hb3).alloc (.cells (Ro k3 n3 A3 s3.length c3) 25);obtain ⟨d0,d1,d2,e0,e1,e2,lz⟩:=cZ hZ2)
     | (go_at_call 78;refine (hI.out _ ((hrc.alloc _).alloc _) ((hra.alloc _).alloc _)).mono ?_;rintro e w1 ⟨A1,c1,rfl,hl1,r1,hb1⟩;have hT:=cM hb1;have hZ:=bA hb1;have g1:Bw w w1:=bW bw2 hb1;have hK:=aC w1 25 (Ro k1 n1 A1 s1.length c1) rfl;have g2:=g1.alloc g1.size (.cells (Ro k1 n1 A1 s1.length c1) 25);have r2:=r1.alloc (.cells (Ro k1 n1 A1 s1.length c1) 25);obtain ⟨y0,y1,y2⟩:=hK.three;have tok:=trivial;have hZ2:=hZ.alloc (.cells (Ro k1 n1 A1 s1.length c1) 25);obtain ⟨d0,d1,d2,e0,e1,e2,lz⟩:=cZ hZ2))
    refine bodyPost_ret (v:=.tuple #[.agg Zr,.int .i64 1]) (by simp [results,results148,go_sem,d0,d1,d2]) rfl ⟨0,0,none,0,0,rfl,?_⟩;exact bV g3
theorem pV {N:Nat}(ih:mU N)(ctx:List Tm)(C:Option Addr)(cc:Nat)(k n:Int)(A:Option Addr)(c:Nat)(ka na:Int)(sa:List Tm)(kb nb:Int)(sb:List Tm)(r:Rs Tm)(w:World)(hs:aCl (bZ N) ctx (.mk ka na sa) (.mk kb nb sb)=some r)(hva:aE (.mk ka na sa)=true)(hvb:aE (.mk kb nb sb)=true)(hvc:∀u,u∈ctx→aE u=true)(hm:ctx.length≤20)(hrc:Rd w C 0 ctx)(hr:Rd w A 0 [.mk ka na sa,.mk kb nb sb]) :
  Calls prog 133 #[.slice C ctx.length cc,.agg (Ro k n A 2 c)] w (nP w r):=by
 obtain ⟨bk,ok,Aa,ca,rfl,a1,a2,a3,hla,ra⟩:=oF hr;obtain ⟨Ab,cb,b1,b2,b3,hlb,rb⟩:=tX hr;simp only [Nat.zero_mul,Nat.add_zero,Nat.one_mul,Nat.reduceMul] at a1 a2 a3 b1 b2 b3
 have lbp:=jN _ _ a1;rcases cB hs with ⟨b,h1,rfl⟩|⟨li,h1,hs⟩
 ·have hS1:=aD (fun (w:World) (hrc:Rd w C 0 ctx) (hra:Rd w Aa 0 sa)=>eE ih ctx C cc ka na sa Aa ca _ w h1 hva hvc (by omega) hrc hra);have qb:=fO b;clear hs h1 hva hvb hvc ih;go_enter func133,ntmps133;go_wp2_with (go_at_call 111;refine (hS1.out _ ((hrc.alloc _).alloc _) ((ra.alloc _).alloc _)).mono ?_;rintro e w1 ⟨l1,rfl,hb1⟩;have hT1:=cM hb1;have hZ1:=bA hb1;have g1:Bw w w1:=bW bw2 hb1;obtain ⟨d0,d1,d2,e0,e1,e2,lz⟩:=cZ hZ1)
  refine bodyPost_ret (v:=.tuple #[.agg Zr,.int .i64 (gI b)]) (by simp [results,results133,go_sem,d0,d1,d2]) rfl ⟨0,0,none,0,0,rfl,?_⟩;exact bV g1
 ·have hS1:=aD (fun (w:World) (hrc:Rd w C 0 ctx) (hra:Rd w Aa 0 sa)=>eE ih ctx C cc ka na sa Aa ca _ w h1 hva hvc (by omega) hrc hra);rcases cB hs with ⟨b,h2,rfl⟩|⟨lj,h2,hs⟩
  ·obtain ⟨cx,hcx⟩:∃cx,ctx++[.mk ka na sa]=cx:=⟨_,rfl⟩;have hP:=aD (show ∀(w:World) (hrc:Rd w C 0 ctx) (hra:Rd w Aa 0 sa),Calls prog 81 #[.slice C ctx.length cc,.agg (Ro ka na Aa sa.length ca)] w (aBg w cx) from fun w hrc hra=>by rw [← hcx];exact oJ ctx C cc ka na sa Aa ca w (by omega) hla hrc hra);have hcl:cx.length≤21:=(by rw [← hcx];simp;omega);have hcv:∀u,u∈cx→aE u=true:=(by rw [← hcx];exact fun u hu=>(List.mem_append.1 hu).elim (hvc u) (fun h=>by rw [List.mem_singleton.1 h];exact hva));rw [hcx] at h2;clear hcx;have hS2:=aD (fun (D:Option Addr) (d:Nat) (w:World) (hrD:Rd w D 0 cx) (hrb:Rd w Ab 0 sb)=>eE ih cx D d kb nb sb Ab cb _ w h2 hvb hcv hcl hrD hrb);have qb:=fO b;clear hs h1 h2 hva hvb hvc ih hcv;go_enter func133,ntmps133;go_upto_region 4 with (go_at_call 111;refine (hS1.out _ ((hrc.alloc _).alloc _) ((ra.alloc _).alloc _)).mono ?_;rintro e w1 ⟨rfl,hb1⟩;have hT1:=cM hb1;have hZ1:=bA hb1;have g1:Bw w w1:=bW bw2 hb1)
   refine tO hT1 hZ1 g1 ?_;intro wx hTx hZx gx;have v2:=aF hTx.three.2.2;obtain ⟨ua1,ua2,ua3⟩:=iM gx a1 a2 a3;obtain ⟨ub1,ub2,ub3⟩:=iM gx b1 b2 b3;refine fE wx [11,12,13,14,15] [0,1,2,3,4,6,7,8,9] 16 7 (lT:=[_,_,_,_,_,_,_,_,_]) ?_;intro q0 bq0;refine cL (aD ?_);refine bG 5 ?_
   ·go_wp2_with (go_at_call 81;refine (hP.out _ ((hrc.below gx).below bq0) ((ra.below gx).below bq0)).mono ?_;rintro e q1 ⟨D,d,rfl,rDq1,hbq1⟩)
    refine bJ bq0 hbq1 ?_;intro bq1 lq1;refine bG 10 ?_
    ·go_wp2_with (go_at_call 111;refine (hS2.out _ _ _ rDq1 ((rb.below gx).below bq1)).mono ?_;rintro e q2 ⟨l2,rfl,hbq2⟩)
     have rDq2:=rDq1.below hbq2;refine bJ bq1 hbq2 ?_;intro bq2 lq2;refine jW [11,12,13] 2 (lT:=[_,_,_]) ?_;refine cL (aD ?_);refine cY [14,15] (lB:=[_,_]) ?_;refine gS (aD ?_);have hZ3:=hZx.keep bq2;obtain ⟨d0,d1,d2,e0,e1,e2,lz⟩:=cZ hZ3;have g3:=gx.trans (bq2.mono gx.size);go_wp2_with fail
     refine bodyPost_ret (v:=.tuple #[.agg Zr,.int .i64 (gI b)]) (by simp [results,results133,go_sem,d0,d1,d2]) rfl ⟨0,0,none,0,0,rfl,?_⟩;exact bV g3
  ·obtain ⟨cx,hcx⟩:∃cx,ctx++[.mk ka na sa]=cx:=⟨_,rfl⟩;have hP:=aD (show ∀(w:World) (hrc:Rd w C 0 ctx) (hra:Rd w Aa 0 sa),Calls prog 81 #[.slice C ctx.length cc,.agg (Ro ka na Aa sa.length ca)] w (aBg w cx) from fun w hrc hra=>by rw [← hcx];exact oJ ctx C cc ka na sa Aa ca w (by omega) hla hrc hra);have hcl:cx.length≤21:=(by rw [← hcx];simp;omega);have hcv:∀u,u∈cx→aE u=true:=(by rw [← hcx];exact fun u hu=>(List.mem_append.1 hu).elim (hvc u) (fun h=>by rw [List.mem_singleton.1 h];exact hva));rw [hcx] at h2;clear hcx;have hS2:=aD (fun (D:Option Addr) (d:Nat) (w:World) (hrD:Rd w D 0 cx) (hrb:Rd w Ab 0 sb)=>eE ih cx D d kb nb sb Ab cb _ w h2 hvb hcv hcl hrD hrb);injection hs with hs;subst hs;obtain ⟨lm,hlm⟩:∃lm,(if lj<li then li else lj)=lm:=⟨_,rfl⟩;rw [hlm];have hij:=aD hlm;clear h1 h2 hva hvb hvc ih hlm hcv;go_enter func133,ntmps133;go_upto_region 4 with (go_at_call 111;refine (hS1.out _ ((hrc.alloc _).alloc _) ((ra.alloc _).alloc _)).mono ?_;rintro e w1 ⟨rfl,hb1⟩;have hT1:=cM hb1;have hZ1:=bA hb1;have g1:Bw w w1:=bW bw2 hb1)
   refine tO hT1 hZ1 g1 ?_;intro wx hTx hZx gx;have v2:=aF hTx.three.2.2;obtain ⟨ua1,ua2,ua3⟩:=iM gx a1 a2 a3;obtain ⟨ub1,ub2,ub3⟩:=iM gx b1 b2 b3;refine fE wx [11,12,13,14,15] [0,1,2,3,4,6,7,8,9] 16 7 (lT:=[_,_,_,_,_,_,_,_,_]) ?_;intro q0 bq0;refine cL (aD ?_);refine bG 5 ?_
   ·go_wp2_with (go_at_call 81;refine (hP.out _ ((hrc.below gx).below bq0) ((ra.below gx).below bq0)).mono ?_;rintro e q1 ⟨D,d,rfl,rDq1,hbq1⟩)
    refine bJ bq0 hbq1 ?_;intro bq1 lq1;refine bG 10 ?_
    ·go_wp2_with (go_at_call 111;refine (hS2.out _ _ _ rDq1 ((rb.below gx).below bq1)).mono ?_;rintro e q2 ⟨rfl,hbq2⟩)
     have rDq2:=rDq1.below hbq2;refine bJ bq1 hbq2 ?_;intro bq2 lq2;refine jW [11,12,13] 2 (lT:=[_,_,_]) ?_;refine cL (aD ?_);refine cY [14,15] (lB:=[_,_]) ?_;refine gS (aD ?_);have hZ3:=hZx.keep bq2;obtain ⟨d0,d1,d2,e0,e1,e2,lz⟩:=cZ hZ3;have g3:=gx.trans (bq2.mono gx.size);go_wp2_with (first
      | (go_at_call 44;have _t:=tok;refine (bH _ _ _).mono ?_;rintro e w5 ⟨rfl,hb5⟩;have hZ5:=hZ4.keep hb5;clear d0 d1 d2 e0 e1 e2 lz;obtain ⟨d0,d1,d2,e0,e1,e2,lz⟩:=cZ hZ5;have g5:=g4.trans (hb5.mono g4.size))
      | (go_at_call 147;refine (aAw _ _ _).mono ?_;rw [hij.out];rintro e w4 ⟨rfl,hb4⟩;have hZ4:=hZ3.keep hb4;have g4:=g3.trans (hb4.mono g3.size);have tok:=trivial))
     refine bodyPost_ret (v:=.tuple #[.agg (Ro 2 lm none 0 0),.int .i64 0]) (by simp [results,results133,go_sem,d0,d1,d2]) rfl ⟨none,0,rfl,by simp,Rd.nil,?_⟩;exact bV g5
theorem aP {p:Nat→Prop}{w:World}{k n:Int}{ks:List Tm}{A:Option Addr}{c:Nat}{ts:List Tm}{ys:List Value}(hl:ks.length≤9223372036854775807)(hr:RdP p w A 0 ks)(hx:RdX p w ts ys):RdX p w (.mk k n ks::ts) (.int .i64 k :: .int .i64 n :: .slice A ks.length c::ys):=⟨A,c,ys,rfl,hl,hr,hx⟩
theorem cD {p:Nat→Prop}{w:World}:RdX p w [] []:=rfl
def aUp (w:World)(k n:Int)(ks:List Tm)(e:Ending)(w':World):Prop:=
 ∃A c,e = .returned (.agg (Ro k n A ks.length c))∧ks.length≤9223372036854775807∧Rd w' A 0 ks∧Bw w w'
theorem bK {w:World}{us:List Tm}{x1:List Value}(k:Int)(ht:RdX (·<w.heap.size) w us x1)(m:Nat)(hm:us.length=m)(hlen:m≤1000)(g c:Nat)(hb:Blk w g x1.toArray) :
  Calls prog 73 #[.int .i64 k,.slice (some ⟨g,0,none⟩) m c] w fun e w'=>∃A c,e = .returned (.agg (Ro k 0 A m c))∧Rd w' A 0 us∧Bw w w':=by
 subst hm;refine (fM k ht (fun _ h=>h) (by omega) g c hb).mono ?_;rintro e w' ⟨A,c',rfl,h1,h2,h3⟩;exact ⟨A,c',rfl,h2.rd,h3⟩
theorem dZ {w:World}{z:Nat}{ks:List Tm}{A:Option Addr}(hZ:Blk w z Zr)(hv:∀t,t∈ks→aE t=true)(hr:Rd w A 0 ks)(x y v:Value) :
  Rd (((w.setCell ⟨z,0,none⟩ x).setCell ⟨z,1,none⟩ y).setCell ⟨z,2,none⟩ v) A 0 ks:=
 (((((aJi hZ).2 ks 30 A 0 (fun t ht=>aY (hv t ht)) hr).setCell (a:=⟨z,0,none⟩) (fun h=>h rfl) x).setCell (a:=⟨z,1,none⟩) (fun h=>h rfl) y).setCell (a:=⟨z,2,none⟩) (fun h=>h rfl) v).rd
theorem xQ (k n:Int)(ks:List Tm)(A:Option Addr)(c:Nat)(ku nu:Int)(us:List Tm)(U:Option Addr)(cu:Nat)(w:World)(hv:aE (.mk k n ks)=true)(hu:shape 30 (.mk ku nu us)=true)(huz:aG us≤1000000)(hr:Rd w A 0 ks)(hru:Rd w U 0 us)(k2 n2:Int)(s2:List Tm)(h:jB (.mk ku nu us) 0 0 (.mk k n ks) = .mk k2 n2 s2) :
  Calls prog 150 #[.agg (Ro k n A ks.length c),.int .i64 0,.agg (Ro ku nu U us.length cu),.int .i64 0] w (tL w k2 n2 s2):=by
 have hM:=aI hv;exact vK ku nu us hu huz _ k n ks A c U cu 0 0 30 w (nH _) (by omega) (aY hv) (by omega) (by omega) (by omega) (by omega) hr hru k2 n2 s2 h
theorem aFw (k n:Int)(ks:List Tm)(A:Option Addr)(c:Nat)(ku nu:Int)(us:List Tm)(U:Option Addr)(cu:Nat)(w:World)(hv:aE (.mk k n ks)=true)(hu:shape 31 (.mk ku nu us)=true)(huz:aG us≤1000000)(hr:Rd w A 0 ks)(hru:Rd w U 0 us)(k2 n2:Int)(s2:List Tm)(h:jB (.mk ku nu us) 0 0 (.mk k n ks) = .mk k2 n2 s2) :
  Calls prog 150 #[.agg (Ro k n A ks.length c),.int .i64 0,.agg (Ro ku nu U us.length cu),.int .i64 0] w (tL w k2 n2 s2):=by
 have hM:=aI hv;exact yQ ku nu us hu huz _ k n ks A c U cu 0 0 30 w (nH _) (by omega) (aY hv) (by omega) (by omega) (by omega) (by omega) hr hru k2 n2 s2 h
theorem mI {N:Nat}{ctx:List Tm}{t h:Tm}{kind:Int}(hs:uE (bZ N) ctx t kind=some (.ok h)):h.k=kind∧aE h=true:=by
 rcases cB hs with ⟨b,_,hb⟩|⟨s,_,hs⟩
 ·cases hb
 ·rcases cB hs with ⟨b,_,hb⟩|⟨o,h2,hs⟩
  ·cases hb
  ·injection h2 with h2;unfold zW at hs
   split at hs
   ·injection hs with hs;injection hs with hs;subst hs;exact ⟨by assumption,(eT h2).2.1⟩
   ·injection hs with hs;cases hs
theorem yC {k n:Int}{ks:List Tm}(ha:aW k=2)(h:aE (.mk k n ks)=true):∃ka na sa kb nb sb,ks=[.mk ka na sa,.mk kb nb sb]:=by
 have h2:=eW h;obtain ⟨⟨ka,na,sa⟩,⟨kb,nb,sb⟩,rfl⟩:=aGa (ks:=ks) (by omega);exact ⟨ka,na,sa,kb,nb,sb,rfl⟩
theorem aPa {k n:Int}{ks:List Tm}(ha:aW k=3)(h:aE (.mk k n ks)=true):∃ka na sa kb nb sb kd nd sd,ks=[.mk ka na sa,.mk kb nb sb,.mk kd nd sd]:=by
 have h2:=eW h;obtain ⟨⟨ka,na,sa⟩,⟨kb,nb,sb⟩,⟨kd,nd,sd⟩,rfl⟩:=aDd (ks:=ks) (by omega);exact ⟨ka,na,sa,kb,nb,sb,kd,nd,sd,rfl⟩
theorem aIu {N:Nat}(ih:mU N)(ctx:List Tm)(C:Option Addr)(cc:Nat)(k n:Int)(A:Option Addr)(c:Nat)(ka na:Int)(sa:List Tm)(kb nb:Int)(sb:List Tm)(r:Rs Tm)(w:World)(hs:aSz (bZ N) ctx (.mk ka na sa) (.mk kb nb sb)=some r)(hva:aE (.mk ka na sa)=true)(hvb:aE (.mk kb nb sb)=true)(hvc:∀u,u∈ctx→aE u=true)(hm:ctx.length≤20)(hrc:Rd w C 0 ctx)(hr:Rd w A 0 [.mk ka na sa,.mk kb nb sb]) :
  Calls prog 135 #[.slice C ctx.length cc,.agg (Ro k n A 2 c)] w (nP w r):=by
 have hszb:=aI hvb;obtain ⟨bk,ok,Aa,ca,rfl,a1,a2,a3,hla,ra⟩:=oF hr;obtain ⟨Ab,cb,b1,b2,b3,hlb,rb⟩:=tX hr;simp only [Nat.zero_mul,Nat.add_zero,Nat.one_mul,Nat.reduceMul] at a1 a2 a3 b1 b2 b3
 have lbp:=jN _ _ a1;rcases cB hs with ⟨b,h1,rfl⟩|⟨⟨k3,n3,s3⟩,h1,hs⟩
 ·have hS1:=aD (fun (w:World) (hrc:Rd w C 0 ctx) (hra:Rd w Aa 0 sa)=>fN ih ctx C cc ka na sa Aa ca 3 _ w h1 hva hvc (by omega) hrc hra);have qb:=fO b;clear hs h1 hva hvb hvc ih;go_enter func135,ntmps135;go_wp2_with (go_at_call 148;refine (hS1.out _ ((hrc.alloc _).alloc _) ((ra.alloc _).alloc _)).mono ?_;rintro e w1 ⟨k3,n3,A3,l3,c3,rfl,hb1⟩;have hZ1:=bA hb1;have g1:Bw w w1:=bW bw2 hb1;have g2:=g1.alloc g1.size (.cells (Ro k3 n3 A3 l3 c3) 25);have hZ2:=hZ1.alloc (.cells (Ro k3 n3 A3 l3 c3) 25);obtain ⟨d0,d1,d2,e0,e1,e2,lz⟩:=cZ hZ2)
  refine bodyPost_ret (v:=.tuple #[.agg Zr,.int .i64 (gI b)]) (by simp [results,results135,go_sem,d0,d1,d2]) rfl ⟨0,0,none,0,0,rfl,?_⟩;exact bV g2
 ·obtain ⟨hk3,hv3⟩:=mI h1;obtain rfl:k3=3:=hk3;obtain ⟨kha,nha,sha,khb,nhb,shb,rfl⟩:=yC (k:=3) rfl hv3;have hvha:=aS (i:=0) hv3 (by simp);have hvhb:=aD (show aE (.mk khb nhb shb)=true from aS (i:=1) hv3 (by simp));have hszha:aG sha≤400:=aI (show aE (.mk kha nha sha)=true from hvha);have hS1:=aD (fun (w:World) (hrc:Rd w C 0 ctx) (hra:Rd w Aa 0 sa)=>fN ih ctx C cc ka na sa Aa ca 3 _ w h1 hva hvc (by omega) hrc hra);rcases cB hs with ⟨b,h2,rfl⟩|⟨lj,h2,hs⟩
  ·replace h2:jQ (bZ N) ctx (.mk kb nb sb) (.mk kha nha sha)=_:=h2;have hS2:=aD (fun (A2:Option Addr) (c2:Nat) (w:World) (hrc:Rd w C 0 ctx) (hrb:Rd w Ab 0 sb) (hr2:Rd w A2 0 sha)=>cH ih ctx C cc kb nb sb Ab cb kha nha sha A2 c2 _ w h2 hvb hvc (by omega) hrc hrb (by omega) hr2);have qb:=fO b;clear hs h1 h2 hva hvb hvc ih hv3 hvha;go_enter func135,ntmps135;go_upto_region 4 with (go_at_call 148;refine (hS1.out _ ((hrc.alloc _).alloc _) ((ra.alloc _).alloc _)).mono ?_;rintro e w1 ⟨A3,c3,rfl,hl3,r3,hb1⟩;have hT1:=cM hb1;have hZ1:=bA hb1;have g1:Bw w w1:=bW bw2 hb1)
   refine pR (hT1.alloc _) (hZ1.alloc _) (show Blk _ w1.heap.size (Ro 3 n3 A3 2 c3) from (aC _ 25 _ rfl)) (g1.alloc g1.size _) ?_;intro wx hTx hZx hKx0 gx hwx;have r3x:Rd wx A3 0 [.mk kha nha sha,.mk khb nhb shb]:=by rw [hwx];exact r3.alloc _
   clear hwx;obtain ⟨bh,oh,Aha,cha,rfl,ha1,ha2,ha3,hlha,rha⟩:=oF r3x;obtain ⟨Ahb,chb,hb1,hb2,hb3,hlhb,rhb⟩:=tX r3x;simp only [Nat.zero_mul,Nat.add_zero,Nat.one_mul,Nat.reduceMul] at ha1 ha2 ha3 hb1 hb2 hb3
   have hKx:Blk wx w1.heap.size (Ro 3 n3 (some ⟨bh,oh,none⟩) 2 c3):=hKx0;have v2:=aF hTx.three.2.2;have q2:=aF hKx.three.2.2;obtain ⟨ub1,ub2,ub3⟩:=iM gx b1 b2 b3;obtain ⟨uha1,uha2,uha3⟩:=pW ha1 ha2 ha3;refine fE wx [10] [0,1,2,3,4,5,6,7,8] 11 2 (lT:=[_,_,_,_,_,_,_,_,_]) ?_;intro q0 bq0;refine cL (aD ?_);refine bG 9 ?_
   ·go_wp2_with (go_at_call 149;refine (hS2.out _ _ _ ((hrc.below gx).below bq0) ((rb.below gx).below bq0) (rha.below bq0)).mono ?_;rintro e q1 ⟨he,hbq1⟩;obtain rfl:e = .returned (.int .i64 (gI b)):=he)
    refine bJ bq0 hbq1 ?_;intro bq1 lq1;refine cY [10] (lB:=[_]) ?_;refine gS (aD ?_);have hT3:=hTx.keep bq1;have hZ3:=hZx.keep bq1;have hK3:=hKx.keep bq1;have g3:=gx.trans (bq1.mono gx.size);obtain ⟨d0,d1,d2,e0,e1,e2,lz⟩:=cZ hZ3;go_wp2_with fail
    refine bodyPost_ret (v:=.tuple #[.agg Zr,.int .i64 (gI b)]) (by simp [results,results135,go_sem,d0,d1,d2]) rfl ⟨0,0,none,0,0,rfl,?_⟩;exact bV g3
  ·replace h2:jQ (bZ N) ctx (.mk kb nb sb) (.mk kha nha sha)=_:=h2;have hS2:=aD (fun (A2:Option Addr) (c2:Nat) (w:World) (hrc:Rd w C 0 ctx) (hrb:Rd w Ab 0 sb) (hr2:Rd w A2 0 sha)=>cH ih ctx C cc kb nb sb Ab cb kha nha sha A2 c2 _ w h2 hvb hvc (by omega) hrc hrb (by omega) hr2);injection hs with hs;subst hs;obtain ⟨k5,n5,s5,h5⟩:=iF (jB (.mk kb nb sb) 0 0 (aL (Tm.mk 3 n3 [.mk kha nha sha,.mk khb nhb shb]).ks 1));rw [h5];have hS3:=aD (fun (A2:Option Addr) (c2:Nat) (w:World) (hr2:Rd w A2 0 shb) (hrb:Rd w Ab 0 sb)=>xQ khb nhb shb A2 c2 kb nb sb Ab cb w hvhb.out (aY hvb) (by omega) hr2 hrb k5 n5 s5 h5);clear h1 h2 hva hvb hvc ih hv3 hvha h5;go_enter func135,ntmps135;go_upto_region 4 with (go_at_call 148;refine (hS1.out _ ((hrc.alloc _).alloc _) ((ra.alloc _).alloc _)).mono ?_;rintro e w1 ⟨A3,c3,rfl,hl3,r3,hb1⟩;have hT1:=cM hb1;have hZ1:=bA hb1;have g1:Bw w w1:=bW bw2 hb1)
   refine pR (hT1.alloc _) (hZ1.alloc _) (show Blk _ w1.heap.size (Ro 3 n3 A3 2 c3) from (aC _ 25 _ rfl)) (g1.alloc g1.size _) ?_;intro wx hTx hZx hKx0 gx hwx;have r3x:Rd wx A3 0 [.mk kha nha sha,.mk khb nhb shb]:=by rw [hwx];exact r3.alloc _
   clear hwx;obtain ⟨bh,oh,Aha,cha,rfl,ha1,ha2,ha3,hlha,rha⟩:=oF r3x;obtain ⟨Ahb,chb,hb1,hb2,hb3,hlhb,rhb⟩:=tX r3x;simp only [Nat.zero_mul,Nat.add_zero,Nat.one_mul,Nat.reduceMul] at ha1 ha2 ha3 hb1 hb2 hb3
   have hKx:Blk wx w1.heap.size (Ro 3 n3 (some ⟨bh,oh,none⟩) 2 c3):=hKx0;have v2:=aF hTx.three.2.2;have q2:=aF hKx.three.2.2;obtain ⟨ub1,ub2,ub3⟩:=iM gx b1 b2 b3;obtain ⟨uha1,uha2,uha3⟩:=pW ha1 ha2 ha3;refine fE wx [10] [0,1,2,3,4,5,6,7,8] 11 2 (lT:=[_,_,_,_,_,_,_,_,_]) ?_;intro q0 bq0;refine cL (aD ?_);refine bG 9 ?_
   ·go_wp2_with (go_at_call 149;refine (hS2.out _ _ _ ((hrc.below gx).below bq0) ((rb.below gx).below bq0) (rha.below bq0)).mono ?_;rintro e q1 ⟨he,hbq1⟩;obtain rfl:e = .returned (.int .i64 0):=he)
    refine bJ bq0 hbq1 ?_;intro bq1 lq1;refine cY [10] (lB:=[_]) ?_;refine gS (aD ?_);have hT3:=hTx.keep bq1;have hZ3:=hZx.keep bq1;have hK3:=hKx.keep bq1;have g3:=gx.trans (bq1.mono gx.size);go_upto_region 7 with fail
    refine aGx hT3 hZ3 hK3 g3 bq1 ?_;intro wu hTu hZu hKu gu hxu;have rbu:=rb.below gu;have rhbu:=rhb.below hxu;have lzu:=hZu.lt;clear v2 q2 ub1 ub2 ub3 uha1 uha2 uha3;have v2:=aF hTu.three.2.2;have q2:=aF hKu.three.2.2;obtain ⟨ub1,ub2,ub3⟩:=iM gu b1 b2 b3;obtain ⟨uhb1,uhb2,uhb3⟩:=iM hxu hb1 hb2 hb3;refine fE wu [9,10] [0,1,2,3,4,5,6,7] 11 3 (lT:=[_,_,_,_,_,_,_,_]) ?_;intro q0 bq0;refine cL (aD ?_);refine bG 8 ?_
    ·go_wp2_with (go_at_call 150;refine (hS3.out _ _ _ (rhbu.below bq0) (rbu.below bq0)).mono ?_;rintro e q1 ⟨A5,c5,rfl,hl5,hf5,hbq1⟩)
     refine bJ bq0 hbq1 ?_;intro bq1 lq1;refine cY [9,10] (lB:=[_,_]) ?_;refine gS (aD ?_);have hZ5:=hZu.keep bq1;obtain ⟨d0,d1,d2,e0,e1,e2,lz⟩:=cZ hZ5;have g5:=gu.trans (bq1.mono gu.size);have bq0s:=bq0.size;go_wp2_with fail
     refine bodyPost_ret (v:=.tuple #[.agg (Ro k5 n5 A5 s5.length c5),.int .i64 0]) (by simp [results,results135,go_sem,d0,d1,d2]) rfl ⟨A5,c5,rfl,hl5,?_,?_⟩
     ·exact (mW hf5).rd
     ·exact bV g5
theorem kV {N:Nat}(ih:mU N)(ctx:List Tm)(C:Option Addr)(cc:Nat)(kp np:Int)(sp:List Tm)(Ap:Option Addr)(cp:Nat)(kq nq:Int)(sq:List Tm)(Aq:Option Addr)(cq:Nat)(r:Rs Unit)(w:World)(hs:aBo (bZ N) ctx (.mk kp np sp) (.mk kq nq sq)=some r)(hvp:aE (.mk kp np sp)=true)(hszq:aG sq≤1000000)(hvc:∀u,u∈ctx→aE u=true)(hm:ctx.length≤20)(hrc:Rd w C 0 ctx)(rp:Rd w Ap 0 sp)(rq:Rd w Aq 0 sq) :
  Calls prog 151 #[.slice C ctx.length cc,.agg (Ro kp np Ap sp.length cp),.agg (Ro kq nq Aq sq.length cq)] w fun e w'=>e = .returned (.int .i64 r.cd)∧Bw w w':=by
 rcases cB hs with ⟨b,h1,rfl⟩|⟨⟨k3,n3,s3⟩,h1,hs⟩
 ·have hS1:=aD (fun (w:World) (hrc:Rd w C 0 ctx) (rp:Rd w Ap 0 sp)=>fN ih ctx C cc kp np sp Ap cp 3 _ w h1 hvp hvc (by omega) hrc rp);have qb:=fO b;clear hs h1 hvp hvc ih;go_enter func151,ntmps151;go_wp2_with (go_at_call 148;refine (hS1.out _ ((hrc.alloc _).alloc _) ((rp.alloc _).alloc _)).mono ?_;rintro e w1 ⟨k3,n3,A3,l3,c3,rfl,hb1⟩;have g1:Bw w w1:=bW bw2 hb1;have g2:=g1.alloc g1.size (.cells (Ro k3 n3 A3 l3 c3) 25))
  go_ret
  exact ⟨rfl,g2⟩
 ·obtain ⟨hk3,hv3⟩:=mI h1;obtain rfl:k3=3:=hk3;obtain ⟨kha,nha,sha,khb,nhb,shb,rfl⟩:=yC (k:=3) rfl hv3;have hvha:aE (.mk kha nha sha)=true:=aS (i:=0) hv3 (by simp);have hvhb:aE (.mk khb nhb shb)=true:=aS (i:=1) hv3 (by simp);have hS1:=aD (fun (w:World) (hrc:Rd w C 0 ctx) (rp:Rd w Ap 0 sp)=>fN ih ctx C cc kp np sp Ap cp 3 _ w h1 hvp hvc (by omega) hrc rp);rcases cB hs with ⟨b,h2,rfl⟩|⟨u2,h2,hs⟩
  ·injection h2 with h2;replace h2:smR (.mk kha nha sha) (.mk kq nq sq)=_:=h2;have hS2:=aD (fun (A:Option Addr) (c:Nat) (w:World) (hr:Rd w A 0 sha) (rq:Rd w Aq 0 sq)=>pT kha nha sha A c kq nq sq Aq cq w hvha hszq hr rq);rw [h2] at hS2;have qb:=fO b;clear hs h1 h2 hvp hvc ih hv3 hvha hvhb;go_enter func151,ntmps151;go_upto_region 4 with (go_at_call 148;refine (hS1.out _ ((hrc.alloc _).alloc _) ((rp.alloc _).alloc _)).mono ?_;rintro e w1 ⟨A3,c3,rfl,hl3,r3,hb1⟩;have hQw1:=bA hb1;have kww1:Bw w w1:=bW bw2 hb1)
   refine aJt (hQw1.alloc _) (show Blk _ w1.heap.size (Ro 3 n3 A3 2 c3) from (aC _ 25 _ (by simp))) (kww1.alloc (by have:=kww1.size;simp<;>omega) _) ?_;intro wx hQwx hKwx kwwx hwwx;have r3x:Rd wx A3 0 [.mk kha nha sha,.mk khb nhb shb]:=by rw [hwwx];exact r3.alloc _
   clear hwwx;obtain ⟨bh,oh,Aha,cha,rfl,ha1,ha2,ha3,hlha,rha⟩:=oF r3x;obtain ⟨Ahb,chb,hb1,hb2,hb3,hlhb,rhb⟩:=tX r3x;simp only [Nat.zero_mul,Nat.add_zero,Nat.one_mul,Nat.reduceMul] at ha1 ha2 ha3 hb1 hb2 hb3
   replace hKwx:Blk wx w1.heap.size (Ro 3 n3 (some ⟨bh,oh,none⟩) 2 c3):=hKwx;have v2:=aF hKwx.three.2.2;obtain ⟨z0,z1,z2⟩:=kZ hQwx;obtain ⟨uha1,uha2,uha3⟩:=pW ha1 ha2 ha3;refine fE wx [6] [0,1,2,3,4] 7 2 (lT:=[_,_,_,_,_]) ?_;intro q0 bq0;refine cL (aD ?_);refine bG 5 ?_
   ·go_wp2_with (go_at_call 157;refine (hS2.out _ _ _ (rha.below bq0) ((rq.below kwwx).below bq0)).mono ?_;rintro e q1 ⟨he,hbq1⟩;obtain rfl:e = .returned (.int .i64 (gI b)):=he)
    refine bJ bq0 hbq1 ?_;intro bq1 lq1;refine cY [6] (lB:=[_]) ?_;refine gS (aD ?_);have hQq1:=hQwx.keep bq1;have hKq1:=hKwx.keep bq1;have kwq1:=kwwx.trans (bq1.mono kwwx.size);have kwxq1:=bq1;go_wp2_with fail
    go_ret
    exact ⟨rfl,kwq1⟩
  ·injection h2 with h2;replace h2:smR (.mk kha nha sha) (.mk kq nq sq)=_:=h2;have hS2:=aD (fun (A:Option Addr) (c:Nat) (w:World) (hr:Rd w A 0 sha) (rq:Rd w Aq 0 sq)=>pT kha nha sha A c kq nq sq Aq cq w hvha hszq hr rq);rw [h2] at hS2;rcases cB hs with ⟨b,h4,rfl⟩|⟨⟨k6,n6,s6⟩,h4,hs⟩
   ·injection h4 with h4;replace h4:yL (.mk khb nhb shb)=_:=h4;have hH:=aD (fun (A:Option Addr) (c:Nat) (w:World) (hr:Rd w A 0 shb)=>qJ khb nhb shb A c w hvhb hr);rw [h4] at hH;have qb:=fO b;clear hs h1 h2 h4 hvp hvc ih hv3 hvha hvhb;go_enter func151,ntmps151;go_upto_region 4 with (go_at_call 148;refine (hS1.out _ ((hrc.alloc _).alloc _) ((rp.alloc _).alloc _)).mono ?_;rintro e w1 ⟨A3,c3,rfl,hl3,r3,hb1⟩;have hQw1:=bA hb1;have kww1:Bw w w1:=bW bw2 hb1)
    refine aJt (hQw1.alloc _) (show Blk _ w1.heap.size (Ro 3 n3 A3 2 c3) from (aC _ 25 _ (by simp))) (kww1.alloc (by have:=kww1.size;simp<;>omega) _) ?_;intro wx hQwx hKwx kwwx hwwx;have r3x:Rd wx A3 0 [.mk kha nha sha,.mk khb nhb shb]:=by rw [hwwx];exact r3.alloc _
    clear hwwx;obtain ⟨bh,oh,Aha,cha,rfl,ha1,ha2,ha3,hlha,rha⟩:=oF r3x;obtain ⟨Ahb,chb,hb1,hb2,hb3,hlhb,rhb⟩:=tX r3x;simp only [Nat.zero_mul,Nat.add_zero,Nat.one_mul,Nat.reduceMul] at ha1 ha2 ha3 hb1 hb2 hb3
    replace hKwx:Blk wx w1.heap.size (Ro 3 n3 (some ⟨bh,oh,none⟩) 2 c3):=hKwx;have v2:=aF hKwx.three.2.2;obtain ⟨z0,z1,z2⟩:=kZ hQwx;obtain ⟨uha1,uha2,uha3⟩:=pW ha1 ha2 ha3;refine fE wx [6] [0,1,2,3,4] 7 2 (lT:=[_,_,_,_,_]) ?_;intro q0 bq0;refine cL (aD ?_);refine bG 5 ?_
    ·go_wp2_with (go_at_call 157;refine (hS2.out _ _ _ (rha.below bq0) ((rq.below kwwx).below bq0)).mono ?_;rintro e q1 ⟨he,hbq1⟩;obtain rfl:e = .returned (.int .i64 0):=he)
     refine bJ bq0 hbq1 ?_;intro bq1 lq1;refine cY [6] (lB:=[_]) ?_;refine gS (aD ?_);have hQq1:=hQwx.keep bq1;have hKq1:=hKwx.keep bq1;have kwq1:=kwwx.trans (bq1.mono kwwx.size);have kwxq1:=bq1;have m2:=hKq1.three.2.2;obtain ⟨mhb1,mhb2,mhb3⟩:=kb3 kwxq1 hb1 hb2 hb3;go_wp2_with (go_at_call 132;refine (hH.out _ _ _ (rhb.below kwxq1)).mono ?_;rintro e w5 ⟨k6,n6,A6,l6,c6,rfl,hb5⟩;have g5:=(kwq1.trans (hb5.mono kwq1.size)).alloc (by have:=kwq1.size;have:=hb5.size;omega) (.cells (Ro k6 n6 A6 l6 c6) 25))
     go_ret
     exact ⟨rfl,g5⟩
   ·injection h4 with h4;replace h4:yL (.mk khb nhb shb)=_:=h4;have hH:=aD (fun (A:Option Addr) (c:Nat) (w:World) (hr:Rd w A 0 shb)=>qJ khb nhb shb A c w hvhb hr);rw [h4] at hH;unfold aQb at hs
    by_cases hk:k6=2
    ·subst hk;rw [if_pos (show (Tm.mk 2 n6 s6).k=2 from rfl)] at hs;injection hs with hs;subst hs;clear h1 h2 h4 hvp hvc ih hv3 hvha hvhb;go_enter func151,ntmps151;go_upto_region 4 with (go_at_call 148;refine (hS1.out _ ((hrc.alloc _).alloc _) ((rp.alloc _).alloc _)).mono ?_;rintro e w1 ⟨A3,c3,rfl,hl3,r3,hb1⟩;have hQw1:=bA hb1;have kww1:Bw w w1:=bW bw2 hb1)
     refine aJt (hQw1.alloc _) (show Blk _ w1.heap.size (Ro 3 n3 A3 2 c3) from (aC _ 25 _ (by simp))) (kww1.alloc (by have:=kww1.size;simp<;>omega) _) ?_;intro wx hQwx hKwx kwwx hwwx;have r3x:Rd wx A3 0 [.mk kha nha sha,.mk khb nhb shb]:=by rw [hwwx];exact r3.alloc _
     clear hwwx;obtain ⟨bh,oh,Aha,cha,rfl,ha1,ha2,ha3,hlha,rha⟩:=oF r3x;obtain ⟨Ahb,chb,hb1,hb2,hb3,hlhb,rhb⟩:=tX r3x;simp only [Nat.zero_mul,Nat.add_zero,Nat.one_mul,Nat.reduceMul] at ha1 ha2 ha3 hb1 hb2 hb3
     replace hKwx:Blk wx w1.heap.size (Ro 3 n3 (some ⟨bh,oh,none⟩) 2 c3):=hKwx;have v2:=aF hKwx.three.2.2;obtain ⟨z0,z1,z2⟩:=kZ hQwx;obtain ⟨uha1,uha2,uha3⟩:=pW ha1 ha2 ha3;refine fE wx [6] [0,1,2,3,4] 7 2 (lT:=[_,_,_,_,_]) ?_;intro q0 bq0;refine cL (aD ?_);refine bG 5 ?_
     ·go_wp2_with (go_at_call 157;refine (hS2.out _ _ _ (rha.below bq0) ((rq.below kwwx).below bq0)).mono ?_;rintro e q1 ⟨he,hbq1⟩;obtain rfl:e = .returned (.int .i64 0):=he)
      refine bJ bq0 hbq1 ?_;intro bq1 lq1;refine cY [6] (lB:=[_]) ?_;refine gS (aD ?_);have hQq1:=hQwx.keep bq1;have hKq1:=hKwx.keep bq1;have kwq1:=kwwx.trans (bq1.mono kwwx.size);have kwxq1:=bq1;have m2:=hKq1.three.2.2;obtain ⟨mhb1,mhb2,mhb3⟩:=kb3 kwxq1 hb1 hb2 hb3;go_wp2_with (go_at_call 132;refine (hH.out _ _ _ (rhb.below kwxq1)).mono ?_;rintro e w5 ⟨A6,c6,rfl,hl6,r6,hb5⟩;have hL5:=aC w5 25 (Ro 2 n6 A6 s6.length c6) rfl;obtain ⟨y0,y1,y2⟩:=hL5.three;have g5:=(kwq1.trans (hb5.mono kwq1.size)).alloc (by have:=kwq1.size;have:=hb5.size;omega) (.cells (Ro 2 n6 A6 s6.length c6) 25))
      go_ret
      exact ⟨rfl,g5⟩
    ·rw [if_neg (show ¬(Tm.mk k6 n6 s6).k=2 from hk)] at hs;injection hs with hs;subst hs;have qk:(k6 != 2)=true:=by simpa using hk
     clear h1 h2 h4 hvp hvc ih hv3 hvha hvhb hk;go_enter func151,ntmps151;go_upto_region 4 with (go_at_call 148;refine (hS1.out _ ((hrc.alloc _).alloc _) ((rp.alloc _).alloc _)).mono ?_;rintro e w1 ⟨A3,c3,rfl,hl3,r3,hb1⟩;have hQw1:=bA hb1;have kww1:Bw w w1:=bW bw2 hb1)
     refine aJt (hQw1.alloc _) (show Blk _ w1.heap.size (Ro 3 n3 A3 2 c3) from (aC _ 25 _ (by simp))) (kww1.alloc (by have:=kww1.size;simp<;>omega) _) ?_;intro wx hQwx hKwx kwwx hwwx;have r3x:Rd wx A3 0 [.mk kha nha sha,.mk khb nhb shb]:=by rw [hwwx];exact r3.alloc _
     clear hwwx;obtain ⟨bh,oh,Aha,cha,rfl,ha1,ha2,ha3,hlha,rha⟩:=oF r3x;obtain ⟨Ahb,chb,hb1,hb2,hb3,hlhb,rhb⟩:=tX r3x;simp only [Nat.zero_mul,Nat.add_zero,Nat.one_mul,Nat.reduceMul] at ha1 ha2 ha3 hb1 hb2 hb3
     replace hKwx:Blk wx w1.heap.size (Ro 3 n3 (some ⟨bh,oh,none⟩) 2 c3):=hKwx;have v2:=aF hKwx.three.2.2;obtain ⟨z0,z1,z2⟩:=kZ hQwx;obtain ⟨uha1,uha2,uha3⟩:=pW ha1 ha2 ha3;refine fE wx [6] [0,1,2,3,4] 7 2 (lT:=[_,_,_,_,_]) ?_;intro q0 bq0;refine cL (aD ?_);refine bG 5 ?_
     ·go_wp2_with (go_at_call 157;refine (hS2.out _ _ _ (rha.below bq0) ((rq.below kwwx).below bq0)).mono ?_;rintro e q1 ⟨he,hbq1⟩;obtain rfl:e = .returned (.int .i64 0):=he)
      refine bJ bq0 hbq1 ?_;intro bq1 lq1;refine cY [6] (lB:=[_]) ?_;refine gS (aD ?_);have hQq1:=hQwx.keep bq1;have hKq1:=hKwx.keep bq1;have kwq1:=kwwx.trans (bq1.mono kwwx.size);have kwxq1:=bq1;have m2:=hKq1.three.2.2;obtain ⟨mhb1,mhb2,mhb3⟩:=kb3 kwxq1 hb1 hb2 hb3;go_wp2_with (go_at_call 132;refine (hH.out _ _ _ (rhb.below kwxq1)).mono ?_;rintro e w5 ⟨A6,c6,rfl,hl6,r6,hb5⟩;have hL5:=aC w5 25 (Ro k6 n6 A6 s6.length c6) rfl;obtain ⟨y0,y1,y2⟩:=hL5.three;have g5:=(kwq1.trans (hb5.mono kwq1.size)).alloc (by have:=kwq1.size;have:=hb5.size;omega) (.cells (Ro k6 n6 A6 s6.length c6) 25))
      go_ret
      exact ⟨rfl,g5⟩
theorem aFe {N:Nat}(ih:mU N)(ctx:List Tm)(C:Option Addr)(cc:Nat)(k n:Int)(A:Option Addr)(c:Nat)(ka na:Int)(sa:List Tm)(r:Rs Tm)(w:World)(hs:aRo (bZ N) ctx k (.mk ka na sa)=some r)(hva:aE (.mk ka na sa)=true)(hvc:∀u,u∈ctx→aE u=true)(hm:ctx.length≤20)(hrc:Rd w C 0 ctx)(hr:Rd w A 0 [.mk ka na sa]) :
  Calls prog 154 #[.slice C ctx.length cc,.agg (Ro k n A 1 c)] w (nP w r):=by
 have hsza:=aI hva;obtain ⟨bk,ok,Aa,ca,rfl,a1,a2,a3,hla,ra⟩:=oF hr;simp only [Nat.zero_mul,Nat.add_zero,Nat.one_mul,Nat.reduceMul] at a1 a2 a3
 have lbp:=jN _ _ a1;rcases cB hs with ⟨b,h1,rfl⟩|⟨⟨k3,n3,s3⟩,h1,hs⟩
 ·have hS1:=aD (fun (w:World) (hrc:Rd w C 0 ctx) (ra:Rd w Aa 0 sa)=>fN ih ctx C cc ka na sa Aa ca 13 _ w h1 hva hvc (by omega) hrc ra);have qb:=fO b;clear hs h1 hva hvc ih;go_enter func154,ntmps154;go_wp2_with (go_at_call 148;refine (hS1.out _ ((hrc.alloc _).alloc _) ((ra.alloc _).alloc _)).mono ?_;rintro e w1 ⟨k3,n3,A3,l3,c3,rfl,hb1⟩;have hZ1:=bA hb1;have g1:Bw w w1:=bW bw2 hb1;have g2:=g1.alloc g1.size (.cells (Ro k3 n3 A3 l3 c3) 25);have hZ2:=hZ1.alloc (.cells (Ro k3 n3 A3 l3 c3) 25);obtain ⟨d0,d1,d2,e0,e1,e2,lz⟩:=cZ hZ2)
  refine bodyPost_ret (v:=.tuple #[.agg Zr,.int .i64 (gI b)]) (by simp [results,results154,go_sem,d0,d1,d2]) rfl ⟨0,0,none,0,0,rfl,?_⟩;exact bV g2
 ·obtain ⟨hk3,hv3⟩:=mI h1;obtain rfl:k3=13:=hk3;obtain ⟨kha,nha,sha,khb,nhb,shb,rfl⟩:=yC (k:=13) rfl hv3;have hvha:=aD (show aE (.mk kha nha sha)=true from aS (i:=0) hv3 (by simp));have hvhb:=aD (show aE (.mk khb nhb shb)=true from aS (i:=1) hv3 (by simp));have hS1:=aD (fun (w:World) (hrc:Rd w C 0 ctx) (ra:Rd w Aa 0 sa)=>fN ih ctx C cc ka na sa Aa ca 13 _ w h1 hva hvc (by omega) hrc ra);by_cases hk:k=15
  ·subst hk;rw [if_pos rfl] at hs;injection hs with hs;replace hs:Rs.ok (.mk kha nha sha)=r:=hs;subst hs;clear h1 hva hvc ih hv3;go_enter func154,ntmps154;go_upto_region 5 with (go_at_call 148;refine (hS1.out _ ((hrc.alloc _).alloc _) ((ra.alloc _).alloc _)).mono ?_;rintro e w1 ⟨A3,c3,rfl,hl3,r3,hb1⟩;have hTw1:=cM hb1;have hZw1:=bA hb1;have kww1:Bw w w1:=bW bw2 hb1;have ltw:=hTw1.lt;obtain ⟨t0,t1,t2⟩:=hTw1.three)
   refine pR (hTw1.alloc _) (hZw1.alloc _) (show Blk _ w1.heap.size (Ro 13 n3 A3 2 c3) from (aC _ 25 _ (by simp))) (kww1.alloc (by have:=kww1.size;simp<;>omega) _) ?_;intro wx hTwx hZwx hKwx kwwx hwwx;have r3x:Rd wx A3 0 [.mk kha nha sha,.mk khb nhb shb]:=by rw [hwwx];exact r3.alloc _
   clear hwwx;obtain ⟨bh,oh,Aha,cha,rfl,ha1,ha2,ha3,hlha,rha⟩:=oF r3x;obtain ⟨Ahb,chb,hb1,hb2,hb3,hlhb,rhb⟩:=tX r3x;simp only [Nat.zero_mul,Nat.add_zero,Nat.one_mul,Nat.reduceMul] at ha1 ha2 ha3 hb1 hb2 hb3
   replace hKwx:Blk wx w1.heap.size (Ro 13 n3 (some ⟨bh,oh,none⟩) 2 c3):=hKwx;clear t0 t1 t2;have m2:=hKwx.three.2.2;obtain ⟨d0,d1,d2,e0,e1,e2,lz⟩:=cZ hZwx;go_wp2_with fail
   refine bodyPost_ret (v:=.tuple #[.agg (Ro kha nha Aha sha.length cha),.int .i64 0]) (by simp [results,results154,go_sem,d0,d1,d2]) rfl ⟨Aha,cha,rfl,hlha,gH hZwx hvha.out rha _ _ _,?_⟩;exact ((kwwx.setCell (by simp<;>omega) _).setCell (by simp<;>omega) _).setCell (by simp<;>omega) _
  ·rw [if_neg hk] at hs;injection hs with hs;replace hs:Rs.ok (jB (.mk 15 0 [.mk ka na sa]) 0 0 (.mk khb nhb shb))=r:=hs;subst hs;have qk:(k==15)=false:=by simpa using hk
   have h31:shape 31 (.mk 15 0 [.mk ka na sa])=true:=by
    have:=aY hva;rw [bD];exact ⟨rfl,by omega,by decide,fun t ht=>by rw [List.mem_singleton.1 ht];exact this⟩
   obtain ⟨k5,n5,s5,h5⟩:=iF (jB (.mk 15 0 [.mk ka na sa]) 0 0 (.mk khb nhb shb));rw [h5];have hS3:=aD (fun (A2:Option Addr) (c2:Nat) (U:Option Addr) (cu:Nat) (w:World) (hr2:Rd w A2 0 shb) (hru:Rd w U 0 [.mk ka na sa])=>aFw khb nhb shb A2 c2 15 0 [.mk ka na sa] U cu w hvhb.out h31 (by simp only [aG,Tm.size];omega) hr2 hru k5 n5 s5 h5);clear h1 hva hvc ih hv3 h5 hk h31;go_enter func154,ntmps154;go_upto_region 6 with (go_at_call 148;refine (hS1.out _ ((hrc.alloc _).alloc _) ((ra.alloc _).alloc _)).mono ?_;rintro e w1 ⟨A3,c3,rfl,hl3,r3,hb1⟩;have hTw1:=cM hb1;have hZw1:=bA hb1;have kww1:Bw w w1:=bW bw2 hb1;have ltw:=hTw1.lt;obtain ⟨t0,t1,t2⟩:=hTw1.three)
   refine pR (hTw1.alloc _) (hZw1.alloc _) (show Blk _ w1.heap.size (Ro 13 n3 A3 2 c3) from (aC _ 25 _ (by simp))) (kww1.alloc (by have:=kww1.size;simp<;>omega) _) ?_;intro wx hTwx hZwx hKwx kwwx hwwx;have r3x:Rd wx A3 0 [.mk kha nha sha,.mk khb nhb shb]:=by rw [hwwx];exact r3.alloc _
   clear hwwx;obtain ⟨bh,oh,Aha,cha,rfl,ha1,ha2,ha3,hlha,rha⟩:=oF r3x;obtain ⟨Ahb,chb,hb1,hb2,hb3,hlhb,rhb⟩:=tX r3x;simp only [Nat.zero_mul,Nat.add_zero,Nat.one_mul,Nat.reduceMul] at ha1 ha2 ha3 hb1 hb2 hb3
   replace hKwx:Blk wx w1.heap.size (Ro 13 n3 (some ⟨bh,oh,none⟩) 2 c3):=hKwx;clear t0 t1 t2;have v2:=aF hKwx.three.2.2;have z2:=aF hTwx.three.2.2;obtain ⟨uhb1,uhb2,uhb3⟩:=pW hb1 hb2 hb3;obtain ⟨ua1,ua2,ua3⟩:=iM kwwx a1 a2 a3;refine fE wx [11,12] [0,1,2,3,4,5,6,7] 13 5 (lT:=[_,_,_,_,_,_,_,_]) ?_;intro q0 bq0;refine cL (aD ?_);refine bG 8 ?_
   ·go_wp2_with fail
    refine eQ ?_;intro q1 hbq1 zq1 seq1;refine bJ bq0 hbq1 ?_;intro bq1 lq1;refine bG 9 ?_
    ·go_wp2_with (go_at_call 73;refine (bK 15 (aP hla ((ra.below kwwx).below bq1).rdp cD) 1 rfl (by omega) _ _ zq1).mono ?_;rintro e q2 ⟨A7,c7,rfl,r7,hbq2⟩)
     refine bJ bq1 hbq2 ?_;intro bq2 lq2;refine bG 10 ?_
     ·go_wp2_with (go_at_call 150;refine (hS3.out _ _ _ _ _ (rhb.below bq2) r7).mono ?_;rintro e q3 ⟨A5,c5,rfl,hl5,hf5,hbq3⟩)
      refine bJ bq2 hbq3 ?_;intro bq3 lq3;refine cY [11,12] (lB:=[_,_]) ?_;refine gS (aD ?_);have hTq3:=hTwx.keep bq3;have hZq3:=hZwx.keep bq3;have hKq3:=hKwx.keep bq3;have kwq3:=kwwx.trans (bq3.mono kwwx.size);have kwxq3:=bq3;obtain ⟨d0,d1,d2,e0,e1,e2,lz⟩:=cZ hZq3;have hqs:wx.heap.size≤q0.heap.size:=bq0.size;go_wp2_with fail
      refine bodyPost_ret (v:=.tuple #[.agg (Ro k5 n5 A5 s5.length c5),.int .i64 0]) (by simp [results,results154,go_sem,d0,d1,d2]) rfl ⟨A5,c5,rfl,hl5,?_,?_⟩
      ·have hlz:=hZwx.lt;have hl2:=lq2;have hl1:=lq1;exact (mW hf5).rd
      ·exact ((kwq3.setCell (by simp<;>omega) _).setCell (by simp<;>omega) _).setCell (by simp<;>omega) _
end Go.Proofs.YtddkehjdjfmhmaaGreat
