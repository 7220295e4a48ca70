/- Parts of the proof. No condition. -/
import Derived.Test.YtjlaenhcemacdaaGreatK9
import Derived.Test.YtjlaenhcemacdaaGreatK10
import Derived.Laws.DeepStrings4
import Derived.Laws.Concat
import Derived.IntWalk
import Derived.Outline
import Derived.Laws.IdiomStrings
import Derived.Laws.BitsAllLaws
import Derived.Laws.BitsLemmas
open Go.Proofs.Tryz
namespace Go.Proofs.YtjlaenhcemacdaaGreat
open Go.RowKit
set_option maxHeartbeats 8000000
set_option maxRecDepth 100000
set_option linter.unusedSimpArgs false
set_option linter.unusedVariables false
def FreshN (f1:List Nat)(g:Nat)(w:World)(A:Option Addr)(ks:List Tm):Prop:=∃fp,Ow w A ks fp∧fp.Nodup∧∀b,b∈fp→b∈f1∨g≤b
theorem FreshN.setCell {f1:List Nat}{g:Nat}{w:World}{A:Option Addr}{ks:List Tm}(h:FreshN f1 g w A ks){a:Addr}(ha:a.block ∉ f1∧a.block<g)(u:Value):FreshN f1 g (w.setCell a u) A ks:=by
 obtain ⟨fp,h1,h2,h3⟩:=h;refine ⟨fp,h1.frame fun b hb=>qQ w a u b (fun e=>?_),h2,h3⟩;rcases h3 b hb with h|h
 ·exact ha.1 (e▸h)
 ·omega
theorem FreshN.fresh {f1:List Nat}{g:Nat}{w:World}{A:Option Addr}{ks:List Tm}(h:FreshN f1 g w A ks){B:Nat}(hf:∀b,b∈f1→B≤b)(hg:B≤g):Fresh B w A ks:=by
 obtain ⟨fp,h1,h2,h3⟩:=h;exact ⟨fp,h1,h2,fun b hb=>(h3 b hb).elim (hf b) (fun h=>Nat.le_trans hg h)⟩
theorem OwX.oneCell {w:World}{ts:List Tm}:∀{xs:List Value} {fp:List Nat},OwX w ts xs fp→∀u,u∈xs→u.oneCell'=true:=by
 induction ts with
 | nil=>intro xs fp h u hu;rw [(OwX_d_nil_iff.1 h).1] at hu;cases hu
 | cons t ts ih=>
  intro xs fp h u hu;obtain ⟨x1,x2,f1,f2,rfl,rfl,h1,h2⟩:=OwX.cons_iff.1 h;rcases List.mem_append.1 hu with hu|hu
  ·exact h1.oneCell u hu
  ·exact ih h2 u hu
theorem aIb (g j:Nat):Addr.add ⟨g,0,none⟩ j=⟨g,j,none⟩:=by unfold Addr.add;split<;>simp_all
def Has (s:ByteArray)(i:Nat)(bs:List UInt8):Prop:=∃rest,s.data.toList.drop i=bs++rest
theorem Has.le {s:ByteArray}{i:Nat}{bs:List UInt8}(h:Has s i bs)(hb:bs≠[]):i+bs.length≤s.size:=by
 obtain ⟨rest,h⟩:=h;have h1:=congrArg List.length h;have h2:0<bs.length:=List.length_pos_iff.2 hb;simp only [List.length_drop,List.length_append,Array.length_toList] at h1
 have h3:s.data.size=s.size:=rfl;omega
theorem Has.cons {s:ByteArray}{i:Nat}{c:UInt8}{bs:List UInt8}(h:Has s i (c::bs)):(∃hi:i<s.size,s[i]'hi=c)∧Has s (i+1) bs:=by
 have hl:=h.le (by simp);simp only [List.length_cons] at hl
 obtain ⟨rest,h⟩:=h;have hi:i<s.size:=by omega
 refine ⟨⟨hi,?_⟩,rest,?_⟩
 ·have h1:=congrArg (fun l=>l[0]?) h;simp only [List.getElem?_drop,Nat.add_zero,List.cons_append,List.getElem?_cons_zero] at h1
  have h2:s.data.toList[i]?=some (s[i]'hi):=by
   rw [qR (by simpa using hi)];rfl
  rw [h2] at h1;injection h1
 ·rw [← List.drop_drop,h];rfl
theorem Has.app {s:ByteArray}{i:Nat}{a b:List UInt8}(h:Has s i (a++b)):Has s i a∧Has s (i+a.length) b:=by
 obtain ⟨rest,h⟩:=h;refine ⟨⟨b++rest,by rw [h,List.append_assoc]⟩,rest,?_⟩;rw [← List.drop_drop,h,List.append_assoc,List.drop_left]
theorem Has.all (bs:List UInt8):Has ⟨bs.toArray⟩ 0 bs:=⟨[],by simp⟩
def Nd (s:ByteArray)(i:Nat):Prop:=∀hi:i<s.size,(s[i]'hi).toNat<48∨57<(s[i]'hi).toNat
theorem Nd.of {s:ByteArray}{i:Nat}{c:UInt8}{bs:List UInt8}(h:Has s i (c::bs))(hc:c.toNat<48∨57<c.toNat):Nd s i:=fun hi=>by
 obtain ⟨⟨_,e⟩,_⟩:=h.cons;rw [e];exact hc
theorem Nd.out {s:ByteArray}{i:Nat}(h:s.size≤i):Nd s i:=fun hi=>absurd hi (by omega)
def ser (c:UInt8):List (List UInt8)→List UInt8
 | []=>[]
 | [b]=>b++[c]
 | b::bs=>b++44::ser c bs
def aUe (k:Int)(c:UInt8):Prop:=(k=8∧c=43)∨(k=11∧c=33)∨(k=15∧c=94)∨(k=16∧c=105)
def aTy (k:Int)(c:UInt8):Prop:=(k=3∧c=62)∨(k=13∧c=42)∨(k=5∧c=32)
def aTz (k:Int)(m:Nat)(o:List UInt8)(c:UInt8):Prop:=(k=9∧m=4∧o=[60]∧c=62)∨(k=10∧m=3∧o=[123]∧c=125)∨(k=14∧m=3∧o=[124]∧c=124)∨(k=12∧m=3∧o=[64,60]∧c=62)
inductive Tx:Nat→Tm→List UInt8→Prop
 | var (d:Nat) (n:Int) (c:UInt8) (h:0≤n∧n≤9∧(c.toNat:Int)=48+n):Tx (d+1) (.mk 1 n []) [35,c]
 | sort (d:Nat) (n:Int) (c:UInt8) (h:0≤n∧n≤3∧(c.toNat:Int)=48+n):Tx (d+1) (.mk 2 n []) [42,c]
 | nat (d:Nat):Tx (d+1) (.mk 6 0 []) [78]
 | zero (d:Nat):Tx (d+1) (.mk 7 0 []) [48]
 | pre (d:Nat) (k:Int) (c:UInt8) (t:Tm) (b:List UInt8) (h:aUe k c) (ht:Tx d t b):Tx (d+1) (.mk k 0 [t]) (c::b)
 | rnd (d:Nat) (k:Int) (c:UInt8) (t u:Tm) (x y:List UInt8) (h:aTy k c) (ht:Tx d t x) (hu:Tx d u y):Tx (d+1) (.mk k 0 [t,u]) (40::(x++c::(y++[41])))
 | lam (d:Nat) (t u:Tm) (x y:List UInt8) (ht:Tx d t x) (hu:Tx d u y):Tx (d+1) (.mk 4 0 [t,u]) (91::(x++93::y))
 | blk (d:Nat) (k:Int) (m:Nat) (o:List UInt8) (c:UInt8) (ts:List Tm) (xs:List (List UInt8)) (h:aTz k m o c) (hm:ts.length=m) (hx:xs.length=m) (ht:∀(j:Nat) (t:Tm) (x:List UInt8),ts[j]?=some t→xs[j]?=some x→Tx d t x):Tx (d+1) (.mk k 0 ts) (o++ser c xs)
theorem Tx.ne {d:Nat}{t:Tm}{b:List UInt8}(h:Tx d t b):b≠[]:=by
 cases h<;>simp
 rename_i h _ _ _
 rcases h with ⟨_,_,rfl,_⟩|⟨_,_,rfl,_⟩|⟨_,_,rfl,_⟩|⟨_,_,rfl,_⟩<;>simp
theorem Tx.mono {d:Nat}{t:Tm}{b:List UInt8}(h:Tx d t b):∀{d':Nat},d≤d'→Tx d' t b:=by
 induction h with
 | var d n c h=>intro d' hd;obtain ⟨e,rfl⟩:∃e,d'=e+1:=⟨d' - 1,by omega⟩;exact .var e n c h
 | sort d n c h=>intro d' hd;obtain ⟨e,rfl⟩:∃e,d'=e+1:=⟨d' - 1,by omega⟩;exact .sort e n c h
 | nat d=>intro d' hd;obtain ⟨e,rfl⟩:∃e,d'=e+1:=⟨d' - 1,by omega⟩;exact .nat e
 | zero d=>intro d' hd;obtain ⟨e,rfl⟩:∃e,d'=e+1:=⟨d' - 1,by omega⟩;exact .zero e
 | pre d k c t b h ht ih=>intro d' hd;obtain ⟨e,rfl⟩:∃e,d'=e+1:=⟨d' - 1,by omega⟩;exact .pre e k c t b h (ih (by omega))
 | rnd d k c t u x y h ht hu i1 i2=>intro d' hd;obtain ⟨e,rfl⟩:∃e,d'=e+1:=⟨d' - 1,by omega⟩;exact .rnd e k c t u x y h (i1 (by omega)) (i2 (by omega))
 | lam d t u x y ht hu i1 i2=>intro d' hd;obtain ⟨e,rfl⟩:∃e,d'=e+1:=⟨d' - 1,by omega⟩;exact .lam e t u x y (i1 (by omega)) (i2 (by omega))
 | blk d k m o c ts xs h hm hx ht ih=>intro d' hd;obtain ⟨e,rfl⟩:∃e,d'=e+1:=⟨d' - 1,by omega⟩;exact .blk e k m o c ts xs h hm hx (fun j t x h1 h2=>ih j t x h1 h2 (by omega))
theorem Fresh.node {B:Nat}{w:World}{A:Option Addr}{ks:List Tm}(h:Fresh B w A ks)(hl:ks.length≤9223372036854775807)(k n:Int)(c:Nat) :
  ∃fp,OwX w [.mk k n ks] [.int .i64 k,.int .i64 n,.slice A ks.length c] fp∧fp.Nodup∧∀b,b∈fp→B≤b:=by
 obtain ⟨fp,h1,h2,h3⟩:=h;exact ⟨fp,OwX.one (OwT.iff.2 ⟨A,c,rfl,hl,h1⟩),h2,h3⟩
theorem OwX.below {w w':World}{ts:List Tm}{xs:List Value}{fp:List Nat}(h:OwX w ts xs fp)(hb:Bw w w'):OwX w' ts xs fp:=h.frame fun b hbf=>hb.block b (h.lt b hbf)
theorem OwX.alloc {w:World}{ts:List Tm}{xs:List Value}{fp:List Nat}(h:OwX w ts xs fp)(o:Obj):OwX (w.alloc o) ts xs fp:=h.frame fun b hb=>Below.heap_alloc w o b (h.lt b hb)
theorem Part.empty {B g:Nat}{w:World}(h:Blk w g #[])(hg:B≤g)(ht:∀t,w.heap[g]?=some (.cells #[] t (0,0))→t=32):Part B w (.slice (some ⟨g,0,none⟩) 0 0) []:=by
 obtain ⟨t,h⟩:=h;have:=ht t h;subst this;exact ⟨[],[],⟨by simp,.inr ⟨g,0,#[],rfl,hg,h,oL _,by simp [maxLen],by simp,by simp⟩⟩,OwX.nil,List.nodup_nil,by simp,by simp⟩
theorem Has.lt {s:ByteArray}{i:Nat}{c:UInt8}{bs:List UInt8}(h:Has s i (c::bs)):i<s.size:=h.cons.1.1
theorem aH {k n:Int}{ks:List Tm}(h:aE (.mk k n ks)=true):aG ks≤400:=by
 simp only [aE,Bool.and_eq_true,decide_eq_true_eq] at h
 have:=h.2;rw [Tm.size] at this;omega
theorem aSi (n n0 ka na:Int)(kas:List Tm)(kb nb:Int)(kbs:List Tm)(k1 n1:Int)(s1:List Tm)(A:Option Addr)(c:Nat)(w:World)(hv:aE (.mk 5 n [.mk 4 n0 [.mk ka na kas,.mk kb nb kbs],.mk k1 n1 s1])=true)(hr:Rd w A 0 [.mk 4 n0 [.mk ka na kas,.mk kb nb kbs],.mk k1 n1 s1]) :
  Calls prog 133 #[.agg (Ro 5 n A 2 c)] w (oM w (fM 0 (.mk k1 n1 s1) (.mk kb nb kbs))):=by
 have har:=aD (bG hv).1;have hrx:=aD (show rdx 5 [.mk 4 n0 [.mk ka na kas,.mk kb nb kbs],.mk k1 n1 s1]=1 from rfl);have hv1:=aO hv (t:=.mk k1 n1 s1) (by simp);have hvb:=aO (aO hv (t:=.mk 4 n0 [.mk ka na kas,.mk kb nb kbs]) (by simp)) (t:=.mk kb nb kbs) (by simp);have hsh1:=aD (aZ hv1);have hshb:=aD (aZ hvb);have hz1:=aH hv1;have hzb:=aH hvb;clear hv hv1 hvb;obtain ⟨b0,o0,k0',n0',ks0',A0,c0,hA0,hk0,i1,i2,i3,hl0,hr0⟩:=hr.at_ (j:=0) (by simp);injection hk0 with e1 e2 e3;subst e1 e2 e3 hA0;obtain ⟨b0',o0',k1',n1',ks1',A1,c1,hA1,hk1,j1,j2,j3,hl1,hr1⟩:=hr.at_ (j:=1) (by simp);injection hk1 with e1 e2 e3;injection hA1 with hA1;injection hA1 with hA2 hA3;subst e1 e2 e3 hA2 hA3;obtain ⟨bb,ob,kb',nb',kbs',Ab,cb,hAb,hkb,m1,m2,m3,hlb,hrb⟩:=hr0.at_ (j:=1) (by simp);injection hkb with e1 e2 e3;subst e1 e2 e3 hAb;simp only [Nat.zero_mul,Nat.add_zero,Nat.one_mul] at i1 i2 i3 j1 j2 j3 m1 m2 m3
 cases hres:fM 0 (.mk k1 n1 s1) (.mk kb nb kbs) with
 | none=>
  replace hres:=aD hres;go_enter func133,ntmps133;go_wp2_with (go_at_call 110;refine (cU 5 n [.mk 4 n0 [.mk ka na kas,.mk kb nb kbs],.mk k1 n1 s1] _ c _ (by simp) har.out ((hr.alloc _).alloc _)).mono ?_;rw [hrx.out];rintro e w1 ⟨rfl,hb1⟩;have hX:=((aC w 32 (Ro 5 n (some ⟨b0,o0,none⟩) 2 c) rfl).alloc (.cells Zr 32)).keep hb1;have hZ:Blk w1 (w.heap.size+1) Zr:=(aC _ 32 _ (by simp)).keep hb1;have g1:Bw w w1:=bU bw2 hb1)
  refine aW ?_;intro wx hwx;have hXx:=(show Blk wx w.heap.size _ by rw [hwx];exact hX);have hZx:=(show Blk wx (w.heap.size+1) _ by rw [hwx];exact hZ);have gx:Bw w wx:=by rw [hwx];exact g1
  clear hwx;have lz:=hZx.lt;have g0:=aF hXx.three.1;have g1':=aF hXx.three.2.1;have g2:=aF hXx.three.2.2;have y2:=aF ((cM gx) _ _ i3);have m0:=aF ((cM gx) _ _ m1);have m1':=aF ((cM gx) _ _ m2);have m2':=aF ((cM gx) _ _ m3);have v0:=aF ((cM gx) _ _ j1);have v1:=aF ((cM gx) _ _ j2);have v2:=aF ((cM gx) _ _ j3);have r1:=hr1.below gx;have rb:=hrb.below gx;clear i1 i2 i3 j1 j2 j3 m1 m2 m3;refine eT wx [12,13,14,15] [0,1,2,3,4,5,6,7,8,9,10] 16 5 (lT:=[_,_,_,_,_,_,_,_,_,_,_]) ?_;intro q0 bq0;refine bZ (aD ?_);refine bB 11 ?_
  ·go_wp2_with (go_at_call 95;refine (fH kb nb kbs Ab cb 0 k1 n1 s1 A1 c1 _ (by omega) hsh1.out (by omega) (r1.below bq0) (by omega) hshb.out (rb.below bq0)).mono ?_;rw [hres.out];intro e q1 hgo;obtain ⟨rfl,hbq1⟩:=(eH hgo))
   refine aX bq0 hbq1 ?_;intro bq1 lq1;refine fB [12,13] 2 (lT:=[_,_]) ?_;refine bZ (aD ?_);refine cP [14,15] (lB:=[_,_]) ?_;have hZ2:=hZx.keep bq1;obtain ⟨d0,d1,d2,e0,e1,e2⟩:=bW hZ2;have gf:=gx.trans (bq1.mono gx.size);have sx:=gx.size;go_wp2_with fail
   refine bodyPost_ret (v:=.tuple #[fO,.bool false]) (by simp [results,results133,go_sem,d0,d1,d2,fO]) rfl ⟨rfl,?_⟩;exact ((gf.setCell (by simp) _).setCell (by simp) _).setCell (by simp) _
 | some r=>
  obtain ⟨kr,nr,rs⟩:=r;replace hres:=aD hres;go_enter func133,ntmps133;go_wp2_with (go_at_call 110;refine (cU 5 n [.mk 4 n0 [.mk ka na kas,.mk kb nb kbs],.mk k1 n1 s1] _ c _ (by simp) har.out ((hr.alloc _).alloc _)).mono ?_;rw [hrx.out];rintro e w1 ⟨rfl,hb1⟩;have hX:=((aC w 32 (Ro 5 n (some ⟨b0,o0,none⟩) 2 c) rfl).alloc (.cells Zr 32)).keep hb1;have hZ:Blk w1 (w.heap.size+1) Zr:=(aC _ 32 _ (by simp)).keep hb1;have g1:Bw w w1:=bU bw2 hb1)
  refine aW ?_;intro wx hwx;have hXx:=(show Blk wx w.heap.size _ by rw [hwx];exact hX);have hZx:=(show Blk wx (w.heap.size+1) _ by rw [hwx];exact hZ);have gx:Bw w wx:=by rw [hwx];exact g1
  clear hwx;have lz:=hZx.lt;have g0:=aF hXx.three.1;have g1':=aF hXx.three.2.1;have g2:=aF hXx.three.2.2;have y2:=aF ((cM gx) _ _ i3);have m0:=aF ((cM gx) _ _ m1);have m1':=aF ((cM gx) _ _ m2);have m2':=aF ((cM gx) _ _ m3);have v0:=aF ((cM gx) _ _ j1);have v1:=aF ((cM gx) _ _ j2);have v2:=aF ((cM gx) _ _ j3);have r1:=hr1.below gx;have rb:=hrb.below gx;clear i1 i2 i3 j1 j2 j3 m1 m2 m3;refine eT wx [12,13,14,15] [0,1,2,3,4,5,6,7,8,9,10] 16 5 (lT:=[_,_,_,_,_,_,_,_,_,_,_]) ?_;intro q0 bq0;refine bZ (aD ?_);refine bB 11 ?_
  ·go_wp2_with (go_at_call 95;refine (fH kb nb kbs Ab cb 0 k1 n1 s1 A1 c1 _ (by omega) hsh1.out (by omega) (r1.below bq0) (by omega) hshb.out (rb.below bq0)).mono ?_;rw [hres.out];intro e q1 hgo;obtain ⟨A7,c7,rfl,hl7,hfq1,hbq1⟩:=cS hgo)
   refine aX bq0 hbq1 ?_;intro bq1 lq1;refine fB [12,13] 2 (lT:=[_,_]) ?_;refine bZ (aD ?_);refine cP [14,15] (lB:=[_,_]) ?_;have hZ2:=hZx.keep bq1;obtain ⟨d0,d1,d2,e0,e1,e2⟩:=bW hZ2;have gf:=gx.trans (bq1.mono gx.size);have sx:=gx.size;go_wp2_with fail
   refine bodyPost_ret (v:=.tuple #[.agg (Ro kr nr A7 rs.length c7),.bool true]) (by simp [results,results133,go_sem,d0,d1,d2,fO]) rfl ⟨A7,c7,rfl,hl7,?_,?_⟩
   ·exact ((((hfq1.mono (by have:=bq0.size;omega)).setCell (by simp;omega) _).setCell (by simp;omega) _).setCell (by simp;omega) _).mono (by omega)
   ·exact ((gf.setCell (by simp) _).setCell (by simp) _).setCell (by simp) _
theorem aSv (n:Int)(t0:Tm)(k1 n1:Int)(s1:List Tm)(t2:Tm)(n3:Int)(s3:List Tm)(A:Option Addr)(c:Nat)(w:World)(hv:aE (.mk 9 n [t0,.mk k1 n1 s1,t2,.mk 7 n3 s3])=true)(hr:Rd w A 0 [t0,.mk k1 n1 s1,t2,.mk 7 n3 s3]) :
  Calls prog 133 #[.agg (Ro 9 n A 4 c)] w (oM w (some (.mk k1 n1 s1))):=by
 have har:=aD (bG hv).1;have hrx:=aD (show rdx 9 [t0,.mk k1 n1 s1,t2,.mk 7 n3 s3]=2 from rfl);have hv1:=aD (aO hv (t:=.mk k1 n1 s1) (by simp));have hz1:=aH hv1.out;clear hv;obtain ⟨b0,o0,k0',n0',ks0',A0,c0,hA0,hk0,i1,i2,i3,hl0,hr0⟩:=hr.at_ (j:=1) (by simp);injection hk0 with e1 e2 e3;subst e1 e2 e3 hA0;simp only [Nat.zero_mul,Nat.add_zero,Nat.one_mul,Nat.reduceMul] at i1 i2 i3
 have q5:=((Keeps.alloc w (.cells (Ro 9 n (some ⟨b0,o0,none⟩) 4 c) 32)).trans (Keeps.alloc _ (.cells Zr 32)));go_enter func133,ntmps133;go_wp2_with (first
  | (go_at_call 84;have _t:=tok2;refine (gY k1 n1 s1 A8 c8 _ (by omega) hf8.rd hv1.out).mono ?_;rintro e w9 ⟨rfl,hb9⟩;have hZ9:=hZ8.keep hb9;have g9:=g8.trans (hb9.mono g8.size);have hf9:=hf8.below hb9;obtain ⟨d0,d1,d2,e0,e1,e2⟩:=bW hZ9)
  | (go_at_call 63;have _t:=tok1;refine (kA (s1.length+aG s1+1) k1 n1 s1 A0 c0 _ (by omega) (by omega) rP).mono ?_;rintro e w8 ⟨A8,c8,rfl,hl8,hf8,hb8⟩;have hZ8:=hZ.keep hb8;have g8:=g1.trans (hb8.mono g1.size);have tok2:=trivial)
  | (go_at_call 110;refine (cU 9 n [t0,.mk k1 n1 s1,t2,.mk 7 n3 s3] _ c _ (by simp) har.out ((hr.alloc _).alloc _)).mono ?_;rw [hrx.out];rintro e w1 ⟨rfl,hb1⟩;have hX:=((aC w 32 (Ro 9 n (some ⟨b0,o0,none⟩) 4 c) rfl).alloc (.cells Zr 32)).keep hb1;have hZ:Blk w1 (w.heap.size+1) Zr:=(aC _ 32 _ (by simp)).keep hb1;have g1:Bw w w1:=bU bw2 hb1;obtain ⟨x0,x1,x2⟩:=hX.three;have y0:=(cM g1) _ _ i1;have y1:=(cM g1) _ _ i2;have y2:=(cM g1) _ _ i3;  have rP:=hr0.below g1;have tok1:=trivial))
 have sz:=g1.size;have s8:=hb8.size;refine bodyPost_ret (v:=.tuple #[.agg (Ro k1 n1 A8 s1.length c8),.bool true]) (by simp [results,results133,go_sem,d0,d1,d2]) rfl ⟨A8,c8,rfl,hl8,?_,?_⟩
 ·exact (((hf9.setCell (by have:=hZ.lt;simp;omega) _).setCell (by have:=hZ.lt;simp;omega) _).setCell (by have:=hZ.lt;simp;omega) _).mono sz
 ·exact bP g9
theorem aTe (n:Int)(t0:Tm)(n3:Int)(s3:List Tm)(k1 n1:Int)(s1:List Tm)(A:Option Addr)(c:Nat)(w:World)(hv:aE (.mk 12 n [t0,.mk 11 n3 s3,.mk k1 n1 s1])=true)(hr:Rd w A 0 [t0,.mk 11 n3 s3,.mk k1 n1 s1]) :
  Calls prog 133 #[.agg (Ro 12 n A 3 c)] w (oM w (some (.mk k1 n1 s1))):=by
 have har:=aD (bG hv).1;have hrx:=aD (show rdx 12 [t0,.mk 11 n3 s3,.mk k1 n1 s1]=4 from rfl);have hv1:=aD (aO hv (t:=.mk k1 n1 s1) (by simp));have hz1:=aH hv1.out;clear hv;obtain ⟨b0,o0,k0',n0',ks0',A0,c0,hA0,hk0,i1,i2,i3,hl0,hr0⟩:=hr.at_ (j:=2) (by simp);injection hk0 with e1 e2 e3;subst e1 e2 e3 hA0;simp only [Nat.zero_mul,Nat.add_zero,Nat.one_mul,Nat.reduceMul] at i1 i2 i3
 have q5:=((Keeps.alloc w (.cells (Ro 12 n (some ⟨b0,o0,none⟩) 3 c) 32)).trans (Keeps.alloc _ (.cells Zr 32)));go_enter func133,ntmps133;go_wp2_with (first
  | (go_at_call 84;have _t:=tok2;refine (gY k1 n1 s1 A8 c8 _ (by omega) hf8.rd hv1.out).mono ?_;rintro e w9 ⟨rfl,hb9⟩;have hZ9:=hZ8.keep hb9;have g9:=g8.trans (hb9.mono g8.size);have hf9:=hf8.below hb9;obtain ⟨d0,d1,d2,e0,e1,e2⟩:=bW hZ9)
  | (go_at_call 63;have _t:=tok1;refine (kA (s1.length+aG s1+1) k1 n1 s1 A0 c0 _ (by omega) (by omega) rP).mono ?_;rintro e w8 ⟨A8,c8,rfl,hl8,hf8,hb8⟩;have hZ8:=hZ.keep hb8;have g8:=g1.trans (hb8.mono g1.size);have tok2:=trivial)
  | (go_at_call 110;refine (cU 12 n [t0,.mk 11 n3 s3,.mk k1 n1 s1] _ c _ (by simp) har.out ((hr.alloc _).alloc _)).mono ?_;rw [hrx.out];rintro e w1 ⟨rfl,hb1⟩;have hX:=((aC w 32 (Ro 12 n (some ⟨b0,o0,none⟩) 3 c) rfl).alloc (.cells Zr 32)).keep hb1;have hZ:Blk w1 (w.heap.size+1) Zr:=(aC _ 32 _ (by simp)).keep hb1;have g1:Bw w w1:=bU bw2 hb1;obtain ⟨x0,x1,x2⟩:=hX.three;have y0:=(cM g1) _ _ i1;have y1:=(cM g1) _ _ i2;have y2:=(cM g1) _ _ i3;  have rP:=hr0.below g1;have tok1:=trivial))
 have sz:=g1.size;have s8:=hb8.size;refine bodyPost_ret (v:=.tuple #[.agg (Ro k1 n1 A8 s1.length c8),.bool true]) (by simp [results,results133,go_sem,d0,d1,d2]) rfl ⟨A8,c8,rfl,hl8,?_,?_⟩
 ·exact (((hf9.setCell (by have:=hZ.lt;simp;omega) _).setCell (by have:=hZ.lt;simp;omega) _).setCell (by have:=hZ.lt;simp;omega) _).mono sz
 ·exact bP g9
theorem aTc (n:Int)(n3:Int)(t0:Tm)(k1 n1:Int)(s1:List Tm)(t2:Tm)(A:Option Addr)(c:Nat)(w:World)(hv:aE (.mk 15 n [.mk 14 n3 [t0,.mk k1 n1 s1,t2]])=true)(hr:Rd w A 0 [.mk 14 n3 [t0,.mk k1 n1 s1,t2]]) :
  Calls prog 133 #[.agg (Ro 15 n A 1 c)] w (oM w (some (.mk k1 n1 s1))):=by
 have har:=aD (bG hv).1;have hrx:=aD (show rdx 15 [.mk 14 n3 [t0,.mk k1 n1 s1,t2]]=5 from rfl);have hv1:=aD (aO (aO hv (t:=.mk 14 n3 [t0,.mk k1 n1 s1,t2]) (by simp)) (t:=.mk k1 n1 s1) (by simp));have hz1:=aH hv1.out;clear hv;obtain ⟨b0,o0,k0',n0',ks0',A0,c0,hA0,hk0,i1,i2,i3,hl0,hr0⟩:=hr.at_ (j:=0) (by simp);injection hk0 with e1 e2 e3;subst e1 e2 e3 hA0;simp only [Nat.zero_mul,Nat.add_zero,Nat.one_mul,Nat.reduceMul] at i1 i2 i3
 obtain ⟨bb,ob,kb',nb',kbs',Ab,cb,hAb,hkb,m1,m2,m3,hlb,hrb⟩:=hr0.at_ (j:=1) (by simp);injection hkb with e1 e2 e3;subst e1 e2 e3 hAb;simp only [Nat.zero_mul,Nat.add_zero,Nat.one_mul,Nat.reduceMul] at m1 m2 m3
 have q5:=((Keeps.alloc w (.cells (Ro 15 n (some ⟨b0,o0,none⟩) 1 c) 32)).trans (Keeps.alloc _ (.cells Zr 32)));go_enter func133,ntmps133;go_wp2_with (first
  | (go_at_call 84;have _t:=tok2;refine (gY k1 n1 s1 A8 c8 _ (by omega) hf8.rd hv1.out).mono ?_;rintro e w9 ⟨rfl,hb9⟩;have hZ9:=hZ8.keep hb9;have g9:=g8.trans (hb9.mono g8.size);have hf9:=hf8.below hb9;obtain ⟨d0,d1,d2,e0,e1,e2⟩:=bW hZ9)
  | (go_at_call 63;have _t:=tok1;refine (kA (s1.length+aG s1+1) k1 n1 s1 Ab cb _ (by omega) (by omega) rP).mono ?_;rintro e w8 ⟨A8,c8,rfl,hl8,hf8,hb8⟩;have hZ8:=hZ.keep hb8;have g8:=g1.trans (hb8.mono g1.size);have tok2:=trivial)
  | (go_at_call 110;refine (cU 15 n [.mk 14 n3 [t0,.mk k1 n1 s1,t2]] _ c _ (by simp) har.out ((hr.alloc _).alloc _)).mono ?_;rw [hrx.out];rintro e w1 ⟨rfl,hb1⟩;have hX:=((aC w 32 (Ro 15 n (some ⟨b0,o0,none⟩) 1 c) rfl).alloc (.cells Zr 32)).keep hb1;have hZ:Blk w1 (w.heap.size+1) Zr:=(aC _ 32 _ (by simp)).keep hb1;have g1:Bw w w1:=bU bw2 hb1;obtain ⟨x0,x1,x2⟩:=hX.three;have y0:=(cM g1) _ _ i1;have y1:=(cM g1) _ _ i2;have y2:=(cM g1) _ _ i3;have z0:=(cM g1) _ _ m1;have z1:=(cM g1) _ _ m2;have z2:=(cM g1) _ _ m3;have rP:=hrb.below g1;have tok1:=trivial))
 have sz:=g1.size;have s8:=hb8.size;refine bodyPost_ret (v:=.tuple #[.agg (Ro k1 n1 A8 s1.length c8),.bool true]) (by simp [results,results133,go_sem,d0,d1,d2]) rfl ⟨A8,c8,rfl,hl8,?_,?_⟩
 ·exact (((hf9.setCell (by have:=hZ.lt;simp;omega) _).setCell (by have:=hZ.lt;simp;omega) _).setCell (by have:=hZ.lt;simp;omega) _).mono sz
 ·exact bP g9
theorem aSj (n:Int)(n3:Int)(t0 t1:Tm)(k1 n1:Int)(s1:List Tm)(A:Option Addr)(c:Nat)(w:World)(hv:aE (.mk 16 n [.mk 14 n3 [t0,t1,.mk k1 n1 s1]])=true)(hr:Rd w A 0 [.mk 14 n3 [t0,t1,.mk k1 n1 s1]]) :
  Calls prog 133 #[.agg (Ro 16 n A 1 c)] w (oM w (some (.mk k1 n1 s1))):=by
 have har:=aD (bG hv).1;have hrx:=aD (show rdx 16 [.mk 14 n3 [t0,t1,.mk k1 n1 s1]]=6 from rfl);have hv1:=aD (aO (aO hv (t:=.mk 14 n3 [t0,t1,.mk k1 n1 s1]) (by simp)) (t:=.mk k1 n1 s1) (by simp));have hz1:=aH hv1.out;clear hv;obtain ⟨b0,o0,k0',n0',ks0',A0,c0,hA0,hk0,i1,i2,i3,hl0,hr0⟩:=hr.at_ (j:=0) (by simp);injection hk0 with e1 e2 e3;subst e1 e2 e3 hA0;simp only [Nat.zero_mul,Nat.add_zero,Nat.one_mul,Nat.reduceMul] at i1 i2 i3
 obtain ⟨bb,ob,kb',nb',kbs',Ab,cb,hAb,hkb,m1,m2,m3,hlb,hrb⟩:=hr0.at_ (j:=2) (by simp);injection hkb with e1 e2 e3;subst e1 e2 e3 hAb;simp only [Nat.zero_mul,Nat.add_zero,Nat.one_mul,Nat.reduceMul] at m1 m2 m3
 have q5:=((Keeps.alloc w (.cells (Ro 16 n (some ⟨b0,o0,none⟩) 1 c) 32)).trans (Keeps.alloc _ (.cells Zr 32)));go_enter func133,ntmps133;go_wp2_with (first
  | (go_at_call 84;have _t:=tok2;refine (gY k1 n1 s1 A8 c8 _ (by omega) hf8.rd hv1.out).mono ?_;rintro e w9 ⟨rfl,hb9⟩;have hZ9:=hZ8.keep hb9;have g9:=g8.trans (hb9.mono g8.size);have hf9:=hf8.below hb9;obtain ⟨d0,d1,d2,e0,e1,e2⟩:=bW hZ9)
  | (go_at_call 63;have _t:=tok1;refine (kA (s1.length+aG s1+1) k1 n1 s1 Ab cb _ (by omega) (by omega) rP).mono ?_;rintro e w8 ⟨A8,c8,rfl,hl8,hf8,hb8⟩;have hZ8:=hZ.keep hb8;have g8:=g1.trans (hb8.mono g1.size);have tok2:=trivial)
  | (go_at_call 110;refine (cU 16 n [.mk 14 n3 [t0,t1,.mk k1 n1 s1]] _ c _ (by simp) har.out ((hr.alloc _).alloc _)).mono ?_;rw [hrx.out];rintro e w1 ⟨rfl,hb1⟩;have hX:=((aC w 32 (Ro 16 n (some ⟨b0,o0,none⟩) 1 c) rfl).alloc (.cells Zr 32)).keep hb1;have hZ:Blk w1 (w.heap.size+1) Zr:=(aC _ 32 _ (by simp)).keep hb1;have g1:Bw w w1:=bU bw2 hb1;obtain ⟨x0,x1,x2⟩:=hX.three;have y0:=(cM g1) _ _ i1;have y1:=(cM g1) _ _ i2;have y2:=(cM g1) _ _ i3;have z0:=(cM g1) _ _ m1;have z1:=(cM g1) _ _ m2;have z2:=(cM g1) _ _ m3;have rP:=hrb.below g1;have tok1:=trivial))
 have sz:=g1.size;have s8:=hb8.size;refine bodyPost_ret (v:=.tuple #[.agg (Ro k1 n1 A8 s1.length c8),.bool true]) (by simp [results,results133,go_sem,d0,d1,d2]) rfl ⟨A8,c8,rfl,hl8,?_,?_⟩
 ·exact (((hf9.setCell (by have:=hZ.lt;simp;omega) _).setCell (by have:=hZ.lt;simp;omega) _).setCell (by have:=hZ.lt;simp;omega) _).mono sz
 ·exact bP g9
def Rdr (B:Nat)(w:World)(r p:Nat):Prop:=
 ∃(A:Option Addr) (bs:List Int) (c:Nat),Blk w r #[.slice A bs.length c,.int .i64 p]∧bs.length≤2000∧r<B∧
  ∀j (hj:j<bs.length),∃b off,A=some ⟨b,off,none⟩∧w.cell? ⟨b,off+j,none⟩=some (.int .u8 bs[j])∧0≤bs[j]∧bs[j]≤255∧b≠r∧b<B
theorem Rdr.keep {B r p:Nat}{w w':World}(h:Rdr B w r p)(hk:∀b,b<B→w'.heap[b]?=w.heap[b]?):Rdr B w' r p:=by
 obtain ⟨A,bs,c,⟨t,h1⟩,h2,h3,h4⟩:=h;refine ⟨A,bs,c,⟨t,(hk r h3).trans h1⟩,h2,h3,fun j hj=>?_⟩;obtain ⟨b,off,e,h5,h6,h7,h8,h9⟩:=h4 j hj;exact ⟨b,off,e,(World.cell?_of_block (w:=w) (a:=⟨b,off+j,none⟩) (hk b h9)).trans h5,h6,h7,h8,h9⟩
theorem Rdr.below {B B' r p:Nat}{w w':World}(h:Rdr B w r p)(hb:Below B' w w')(hB:B≤B'):Rdr B w' r p:=h.keep fun b hl=>hb.block b (by omega)
theorem Rdr.alloc {B r p:Nat}{w:World}(h:Rdr B w r p)(hB:B≤w.heap.size)(o:Obj):Rdr B (w.alloc o) r p:=h.keep fun b hl=>Below.heap_alloc w o b (by omega)
theorem Rdr.drew {B r p:Nat}{w:World}(h:Rdr B w r p):Rdr B w.drew r p:=h
theorem Rdr.setCell {B r p:Nat}{w:World}(h:Rdr B w r p){a:Addr}(ha:B≤a.block)(u:Value):Rdr B (w.setCell a u) r p:=h.keep fun b hl=>qQ w a u b (by omega)
theorem Rdr.step {B r p:Nat}{w:World}(h:Rdr B w r p)(q:Nat):Rdr B (w.setCell ⟨r,1,none⟩ (.int .i64 q)) r q:=by
 obtain ⟨A,bs,c,h1,h2,h3,h4⟩:=h;refine ⟨A,bs,c,h1.set_ 1 _,h2,h3,fun j hj=>?_⟩;obtain ⟨b,off,e,h5,h6,h7,h8,h9⟩:=h4 j hj;exact ⟨b,off,e,(World.cell?_of_block (w:=w) (a:=⟨b,off+j,none⟩) (qQ w _ _ b h8)).trans h5,h6,h7,h8,h9⟩
def RdY (w:World)(A:Option Addr)(bs:List Int):Prop:=∀j (hj:j<bs.length),∃b off,A=some ⟨b,off,none⟩∧w.cell? ⟨b,off+j,none⟩=some (.int .u8 bs[j])∧0≤bs[j]∧bs[j]≤255
theorem RdY.take {w:World}{A:Option Addr}{bs:List Int}(h:RdY w A bs)(n:Nat):RdY w A (bs.take n):=fun j hj=>by
 rw [List.length_take] at hj;obtain ⟨b,off,e,h1,h2,h3⟩:=h j (by omega);exact ⟨b,off,e,by rw [List.getElem_take];exact h1,by rw [List.getElem_take];exact h2,by rw [List.getElem_take];exact h3⟩
theorem RdY.keeps {w w':World}{A:Option Addr}{bs:List Int}(h:RdY w A bs)(hk:Keeps w w'):RdY w' A bs:=fun j hj=>by
 obtain ⟨b,off,e,h1,h2,h3⟩:=h j hj;exact ⟨b,off,e,hk _ _ h1,h2,h3⟩
theorem Rdr.new {w:World}{A:Option Addr}{bs:List Int}{c:Nat}{t:TypeId}(h:RdY w A bs)(hl:bs.length≤2000):Rdr (w.heap.size+1) (w.alloc (.cells #[.slice A bs.length c,.int .i64 0] t)) w.heap.size 0:=
 ⟨A,bs,c,aC _ _ _ rfl,hl,by omega,fun j hj=>by
  obtain ⟨b,off,e,h1,h2,h3⟩:=h j hj;have hb:=mI _ _ h1;have hb:b<w.heap.size:=hb;exact ⟨b,off,e,Keeps.alloc _ _ _ _ h1,h2,h3,by omega,by omega⟩⟩
theorem Rdr.mono {B B':Nat}{w:World}{r p:Nat}(h:Rdr B w r p)(hB:B≤B'):Rdr B' w r p:=by
 obtain ⟨A,bs,c,h1,h2,h3,h4⟩:=h;exact ⟨A,bs,c,h1,h2,by omega,fun j hj=>by obtain ⟨b,off,e,h5,h6,h7,h8,h9⟩:=h4 j hj;exact ⟨b,off,e,h5,h6,h7,h8,by omega⟩⟩
section
variable {u:Tm}(hsu:shape 30 u=true)
include hsu
theorem aTb (t:Tm):∀(q:Nat) (d:Int),0≤d→shape q t=true→eQ (pO 0 u) d t=true→tS (sbF 0 u) d t=bX u d d t:=by
 refine Tm.rec (motive_1:=fun t=>∀(q:Nat) (d:Int),0≤d→shape q t=true→eQ (pO 0 u) d t=true→tS (sbF 0 u) d t=bX u d d t)
  (motive_2 := fun ts => ∀ (q : Nat) (k d : Int) (i : Nat), 0 ≤ d → (∀ t, t ∈ ts → shape q t = true) → dM (pO 0 u) k d i ts = true → gI (sbF 0 u) k d i ts = cE u k d d i ts) ?_ ?_ ?_ t
 ·intro k n ks ih q d hd h hok;obtain ⟨q',rfl,ha,h0,h1,hk⟩:=bY h;rw [eQ] at hok;rw [tS,bX];by_cases h1:k=1
  ·subst h1;have:=rN ha;subst this;rw [if_pos rfl] at hok⊢;unfold pO at hok
   unfold sbF
   by_cases h2:n=d
   ·rw [if_pos (show n - d=0 by omega)] at hok⊢;rw [if_pos (show (1:Int)=1∧n=d from ⟨rfl,h2⟩)];exact fS hsu hok
   ·rw [if_neg (show ¬n - d=0 by omega),if_neg (show ¬((1:Int)=1∧n=d) from fun h=>h2 h.2)];by_cases h3:d<n
    ·rw [if_pos (show 0<n - d by omega),if_pos (show (1:Int)=1∧d<n from ⟨rfl,h3⟩)];rfl
    ·rw [if_neg (show ¬0<n - d by omega),if_neg (show ¬((1:Int)=1∧d<n) from fun h=>h3 h.2)];rfl
  ·rw [if_neg h1] at hok⊢;rw [if_neg (by rintro ⟨h,-⟩;exact h1 h),if_neg (by rintro ⟨h,-⟩;exact h1 h),ih q' k d 0 hd hk hok]
 ·intro q k d i _ _ _;rfl
 ·intro t ts h1 h2 q k d i hd hk hok;rw [dM,Bool.and_eq_true] at hok;rw [gI,cE,h1 q _ (by have:=cW k i;omega) (hk t List.mem_cons_self) hok.1,h2 q k d (i+1) hd (fun t ht=>hk t (List.mem_cons_of_mem _ ht)) hok.2]
theorem aOu (t:Tm):∀(q p:Nat) (d:Int),0≤d→p≤30→shape q t=true→shape p (bX u d d t)=true→(bX u d d t).size≤400→eQ (pO 0 u) d t=true:=by
 refine Tm.rec (motive_1:=fun t=>∀(q p:Nat) (d:Int),0≤d→p≤30→shape q t=true→shape p (bX u d d t)=true→(bX u d d t).size≤400→eQ (pO 0 u) d t=true)
  (motive_2 := fun ts => ∀ (q p : Nat) (k d : Int) (i : Nat), 0 ≤ d → p ≤ 30 → (∀ t, t ∈ ts → shape q t = true) → (∀ t, t ∈ cE u k d d i ts → shape p t = true) → aG (cE u k d d i ts) ≤ 400 → dM (pO 0 u) k d i ts = true) ?_ ?_ ?_ t
 ·intro k n ks ih q p d hd hp h hs hz;obtain ⟨q',rfl,ha,h0,h1,hk⟩:=bY h;rw [eQ];rw [bX] at hs hz;by_cases h1:k=1
  ·subst h1;rw [if_pos rfl];unfold pO
   by_cases h2:n=d
   ·rw [if_pos (show n - d=0 by omega)];rw [if_pos (show (1:Int)=1∧n=d from ⟨rfl,h2⟩)] at hs hz;refine xS hd hsu ?_;rw [aE,rI hp _ hs,decide_eq_true hz];rfl
   ·rw [if_neg (show ¬n - d=0 by omega)]
  ·rw [if_neg h1];have hn:¬(k=1∧n=d):=by rintro ⟨h,-⟩;exact h1 h
   rw [if_neg hn] at hs hz;obtain ⟨p',rfl,hpa,hp0,hp1,hpk⟩:=bY hs;rw [Tm.size] at hz;exact ih q' p' k d 0 hd (by omega) hk hpk (by omega)
 ·intro q p k d i _ _ _ _ _;rfl
 ·intro t ts h1 h2 q p k d i hd hp hk hs hz;rw [cE] at hs hz;rw [aG] at hz;rw [dM,h1 q p _ (by have:=cW k i;omega) hp (hk t List.mem_cons_self) (hs _ List.mem_cons_self) (by omega),h2 q p k d (i+1) hd hp (fun t ht=>hk t (List.mem_cons_of_mem _ ht)) (fun t ht=>hs t (List.mem_cons_of_mem _ ht)) (by omega)];rfl
end
theorem aY {t:Tm}(h:aE t=true):shape 30 t=true:=by simp only [aE,Bool.and_eq_true] at h;exact h.1
theorem nA {u t:Tm}(hu:aE u=true)(ht:aE t=true):fM 0 u t=vO (bX u 0 0 t):=by
 have hsu:=aY hu;unfold fM vO
 by_cases hv:aE (bX u 0 0 t)=true
 ·have h2:(bX u 0 0 t).size≤400:=by simp only [aE,Bool.and_eq_true,decide_eq_true_eq] at hv;exact hv.2
  have hok:=aOu hsu t 30 30 0 (Int.le_refl _) (oL _) (aY ht) (aY hv) h2;rw [if_pos hok,aTb hsu t 30 0 (Int.le_refl _) (aY ht) hok,if_pos hv]
 ·rw [if_neg hv];by_cases hok:eQ (pO 0 u) 0 t=true
  ·rw [if_pos hok,aTb hsu t 30 0 (Int.le_refl _) (aY ht) hok,if_neg hv]
  ·rw [if_neg hok]
def eA:Tm→Tm
 | .mk k n ks=>
  if rdx k ks=1 then bX (aI ks 1) 0 0 (aI (aI ks 0).ks 1)
  else if rdx k ks=2 then aI ks 1
  else if rdx k ks=3 then .mk 5 0 [.mk 5 0 [aI ks 2,aI (aI ks 3).ks 0],.mk 9 0 [aI ks 0,aI ks 1,aI ks 2,aI (aI ks 3).ks 0]]
  else if rdx k ks=4 then aI ks 2
  else if rdx k ks=5 then aI (aI ks 0).ks 1
  else aI (aI ks 0).ks 2
theorem gF {ks:List Tm}{i:Nat}(h:i<ks.length):aI ks i∈ks:=by
 rw [aI,List.getD_eq_getElem?_getD,qR h];exact iC h
theorem fA {k n:Int}{ks:List Tm}(h:aE (.mk k n ks)=true):aU k=(ks.length:Int):=by
 obtain ⟨q,_,ha,_,_,_⟩:=bY (aY h);exact ha
theorem aT {k n:Int}{ks:List Tm}{i:Nat}(h:aE (.mk k n ks)=true)(hi:i<ks.length):aE (aI ks i)=true:=aO h (gF hi)
theorem aRf (k:Int)(ks:List Tm):0≤rdx k ks∧rdx k ks≤6:=by unfold rdx;repeat' split<;>omega
theorem aOr {k:Int}{ks:List Tm}(h:rdx k ks=1):k=5∧fZ ks 0=4:=by
 unfold rdx at h
 repeat' split at h
 all_goals first|(exact absurd h (by decide))|(constructor<;>assumption)
theorem aKx (ks:List Tm)(i:Nat)(h:i<ks.length):fZ ks i=(aI ks i).k:=by
 rw [aI,List.getD_eq_getElem?_getD,qR h];simp [fZ,h]
theorem xZ {k n:Int}{ks:List Tm}(hv:aE (.mk k n ks)=true)(hr:rdx k ks≠0):tX (.mk k n ks)=vO (eA (.mk k n ks)):=by
 have hle:=aRf k ks;rw [tX,eA];by_cases h1:rdx k ks=1
 ·rw [if_pos h1,if_pos h1];obtain ⟨rfl,h4⟩:=aOr h1;have ha:aU 5=(ks.length:Int):=fA hv;have hl:ks.length=2:=by have h5:aU 5=2:=rfl;omega
  have hv0:=aT (i:=0) hv (by omega);have hv1:=aT (i:=1) hv (by omega);rw [aKx ks 0 (by omega)] at h4;generalize aI ks 0=t0 at hv0 h4
  obtain ⟨k0,n0,ks0⟩:=t0;have h4:k0=4:=h4;subst h4;have ha0:aU 4=(ks0.length:Int):=fA hv0;have hl0:ks0.length=2:=by have h5:aU 4=2:=rfl;omega
  exact nA hv1 (aT (i:=1) hv0 (show 1<ks0.length by omega))
 ·rw [if_neg h1,if_neg h1];by_cases h2:rdx k ks=2
  ·rw [if_pos h2,if_pos h2]
  rw [if_neg h2,if_neg h2];by_cases h3:rdx k ks=3
  ·rw [if_pos h3,if_pos h3]
  rw [if_neg h3,if_neg h3];by_cases h4:rdx k ks=4
  ·rw [if_pos h4,if_pos h4]
  rw [if_neg h4,if_neg h4];by_cases h5:rdx k ks=5
  ·rw [if_pos h5,if_pos h5]
  rw [if_neg h5,if_neg h5,if_pos (by omega)]
mutual
def dT:Tm→Option Tm
 | .mk k n ks=>if rdx k ks=0 then (gA ks).map (Tm.mk k n) else some (eA (.mk k n ks))
def gA:List Tm→Option (List Tm)
 | []=>none
 | t::ts=>match dT t with|some u=>some (u::ts)|none=>(gA ts).map (t::·)
end
def fD:Nat→Tm→Option Tm × Int
 | fuel,t=>match dT t with
  | none=>(some t,0)
  | some t'=>match fuel with
   | 0=>(none,1)
   | fuel+1=>if aE t'=true then fD fuel t' else (none,2)
theorem yN {k n:Int}{ks:List Tm}{j:Nat}{p:List Int}{u:Tm}(hj:j<ks.length):jV (.mk k n ks) ((j:Int)::p) u = .mk k n (ks.set j (jV ks[j] p u)):=by
 rw [jV];simp [List.getD,qR hj]
theorem out_step:(∀t:Tm,(eL t=none→dT t=none)∧∀p,eL t=some p→∃k n ks,mK t p=some (.mk k n ks)∧rdx k ks≠0∧dT t=some (jV t p (eA (.mk k n ks))))∧
  (∀ (ts : List Tm) (i : Nat), (iQ i ts = none → gA ts = none) ∧ ∀ p, iQ i ts = some p → ∃ (j : Nat) (q : List Int) (h : j < ts.length), p = ((i + j : Nat) : Int) :: q ∧ ∃ k n ks, mK ts[j] q = some (.mk k n ks) ∧ rdx k ks ≠ 0 ∧ gA ts = some (ts.set j (jV ts[j] q (eA (.mk k n ks))))) := by
 refine bA (fun k n ks ih=>⟨fun h=>?_,fun p hp=>?_⟩) (fun i=>⟨fun h=>rfl,fun p hp=>?_⟩) (fun t ts h1 h2 i=>⟨fun h=>?_,fun p hp=>?_⟩)
 ·rw [eL] at h;rw [dT];split at h
  ·rename_i hr
   rw [if_pos hr,(ih 0).1 h];rfl
  ·cases h
 ·rw [eL] at hp;rw [dT];split at hp
  ·rename_i hr
   obtain ⟨j,q,hj,rfl,k1,n1,ks1,ha,hr1,hs⟩:=(ih 0).2 p hp;refine ⟨k1,n1,ks1,?_,hr1,?_⟩
   ·rw [Nat.zero_add,rC hj];exact ha
   ·rw [if_pos hr,hs,Nat.zero_add,yN hj];rfl
  ·rename_i hr
   injection hp with hp;subst hp;exact ⟨k,n,ks,rfl,hr,by rw [if_neg hr];rfl⟩
 ·rw [iQ] at hp;cases hp
 ·rw [iQ] at h;rw [gA];cases ho:eL t with
  | some q=>rw [ho] at h;cases h
  | none=>
   rw [ho] at h;rw [h1.1 ho,(h2 (i+1)).1 (by simpa using h)];rfl
 ·rw [iQ] at hp;rw [gA];cases ho:eL t with
  | some q=>
   rw [ho] at hp;injection hp with hp;subst hp;obtain ⟨k1,n1,ks1,ha,hr1,hs⟩:=h1.2 q ho;exact ⟨0,q,by simp,by simp,k1,n1,ks1,ha,hr1,by rw [hs];rfl⟩
  | none=>
   rw [ho] at hp;obtain ⟨j,q,hj,rfl,k1,n1,ks1,ha,hr1,hs⟩:=(h2 (i+1)).2 p (by simpa using hp);refine ⟨j+1,q,by simp;omega,by congr 1;omega,k1,n1,ks1,by simpa using ha,hr1,?_⟩;rw [h1.1 ho,hs];simp
theorem qE:∀(p:List Int) (t u v:Tm),mK t p=some u→aE (jV t p v)=true→aE v=true
 | [],t,u,v,h,hv=>hv
 | i::is,.mk k n ks,u,v,h,hv=>by
  rw [mK] at h;split at h
  ·rename_i hi
   have hj:i.toNat<ks.length:=by have h2:=hi.2;simp only [Tm.kids] at h2;omega
   rw [jV] at hv;refine qE is _ u v h (aO hv ?_);exact List.mem_iff_getElem.2 ⟨i.toNat,by simpa using hj,by simp [Tm.kids]⟩
  ·cases h
theorem sJ {t:Tm}(h:¬aE t=true):vO t=none:=by rw [vO,if_neg h]
theorem aAq {t:Tm}(h:aE t=true):vO t=some t:=by rw [vO,if_pos h]
theorem aKp {t:Tm}{p:List Int}(hv:aE t=true)(hp:eL t=some p):∃t',dT t=some t'∧mS t p=vO t':=by
 obtain ⟨k,n,ks,ha,hr,hs⟩:=(out_step.1 t).2 p hp;refine ⟨_,hs,?_⟩;have hu:=pB ha hv;rw [mS,ha];simp only [xZ hu hr]
 by_cases hc:aE (eA (.mk k n ks))=true
 ·rw [aAq hc]
 ·rw [sJ hc,sJ (fun h=>hc (qE p t _ _ ha h))]
theorem mB:∀(fuel:Nat) (t:Tm),aE t=true→fD fuel t=redI eL fuel t
 | fuel,t,hv=>by
  rw [fD,redI];cases hp:eL t with
  | none=>rw [(out_step.1 t).1 hp]
  | some p=>
   obtain ⟨t',hs,hc⟩:=aKp hv hp;rw [hs];cases fuel with
   | zero=>rfl
   | succ fuel=>
    simp only [hc]
    by_cases h:aE t'=true
    ·rw [if_pos h,aAq h];exact mB fuel t' h
    ·rw [if_neg h,sJ h]
theorem Rdr.lt {B r p:Nat}{w:World}(h:Rdr B w r p):r<B:=by obtain ⟨_,_,_,_,_,h,_⟩:=h;exact h
theorem own_rdp {w:World}{P:Nat→Prop}:(∀t xs fp,OwT w t xs fp→(∀b,b∈fp→P b)→∀g off i,P g→(∀j u,xs[j]?=some u→w.cell? ⟨g,off+i*3+j,none⟩=some u)→RdPC P w g off i t)∧
  (∀ ts xs fp, OwX w ts xs fp → (∀ b, b ∈ fp → P b) → ∀ g off i, P g → (∀ j u, xs[j]? = some u → w.cell? ⟨g, off + i * 3 + j, none⟩ = some u) → RdP P w (some ⟨g, off, none⟩) i ts) := by
 refine bA (fun k n ks ih xs fp h hP g off i hg hc=>?_) (fun xs fp h hP g off i hg hc=>RdP.nil) (fun t ts h1 h2 xs fp h hP g off i hg hc=>?_)
 ·obtain ⟨A,c,rfl,hl,h⟩:=OwT.iff.1 h;refine RdPC.iff.2 ⟨hg,hc 0 _ rfl,hc 1 _ rfl,A,c,hc 2 _ rfl,hl,?_⟩;rcases h with ⟨rfl,rfl⟩|⟨g',cur,e,f,hne,rfl,hg',rfl,hx⟩
  ·exact RdP.nil
  ·refine ih _ _ hx (fun b hb=>hP b (by simp [hb])) g' 0 0 (hP g' (by simp)) fun j u hu=>?_
   have e0:0+0*3+j=j:=by omega
   rw [e0,cell_of_row w g' j cur e (0,0) hg'];rw [List.getElem?_take] at hu;split at hu
   ·simpa using hu
   ·cases hu
 ·obtain ⟨x1,x2,f1,f2,rfl,rfl,ht,hx⟩:=OwX.cons_iff.1 h;have hl:=ht.length;refine RdP.cons_iff.2 ⟨⟨g,off,rfl,h1 _ _ ht (fun b hb=>hP b (by simp [hb])) g off i hg fun j u hu=>hc j u ?_⟩,h2 _ _ hx (fun b hb=>hP b (by simp [hb])) g off (i+1) hg fun j u hu=>?_⟩
  ·rw [List.getElem?_append_left (by have:=(List.getElem?_eq_some_iff.1 hu).1;omega)];exact hu
  ·have:=hc (3+j) u (by rw [List.getElem?_append_right (by omega),hl];simpa using hu);rw [show off+(i+1)*3+j=off+i*3+(3+j) from by omega];exact this
theorem Fresh.rdp {B:Nat}{w:World}{A:Option Addr}{ks:List Tm}(h:Fresh B w A ks):RdP (fun b=>B≤b∧b<w.heap.size) w A 0 ks:=by
 obtain ⟨fp,h,hn,hge⟩:=h;have hlt:=h.lt;rcases h with ⟨rfl,rfl⟩|⟨g,cur,e,f,hne,rfl,hg,rfl,hx⟩
 ·exact RdP.nil
 ·refine own_rdp.2 _ _ _ hx (fun b hb=>⟨hge b (by simp [hb]),hlt b (by simp [hb])⟩) g 0 0 ⟨hge g (by simp),hlt g (by simp)⟩ fun j u hu=>?_
  have e0:0+0*3+j=j:=by omega
  rw [e0,cell_of_row w g j cur e (0,0) hg];rw [List.getElem?_take] at hu;split at hu
  ·simpa using hu
  ·cases hu
def aRu (p:Nat→Prop)(w:World)(k n:Int)(ks:List Tm)(e:Ending)(w':World):Prop:=
 ∃A c,e = .returned (.agg (Ro k n A ks.length c))∧ks.length≤9223372036854775807∧RdP (fun b=>p b∨w.heap.size≤b) w' A 0 ks∧Bw w w'
theorem xT {p:Nat→Prop}(k n:Int)(ks:List Tm)(A:Option Addr)(c:Nat)(i:Nat)(ku nu:Int)(us:List Tm)(U:Option Addr)(cu:Nat)(L:List Tm)(hL:L.length=ks.length)(hi:∀(j:Nat) (t:Tm),ks[j]?=some t→L[j]?=some (if j=i then .mk ku nu us else t))(w:World)(hM:aG ks≤1000000)(hlu:us.length≤9223372036854775807)(hr:Rd w A 0 ks)(hru:RdP p w U 0 us)(hpw:∀b,p b→b<w.heap.size) :
  Calls prog 130 #[.agg (Ro k n A ks.length c),.int .i64 i,.agg (Ro ku nu U us.length cu)] w (aRu p w k n L):=by
 have hlen:=aJ ks;have hL':=aD hL;have hi':=aD hi;clear hi hL;go_enter func130,ntmps130;go_wp2_with fail
 go_loopw [8] (fun jv wr=>∃(j:Nat) (v:Value),j≤ks.length∧jv = .int .i64 j∧PartR p (w.heap.size+4) wr v (L.take j)∧Blk wr (w.heap.size+1+1+1) #[.int .i64 k,.int .i64 n,v]∧Blk wr (w.heap.size+1+1) Zr∧Blk wr (w.heap.size+1) (Ro ku nu U us.length cu)∧Blk wr w.heap.size (Ro k n A ks.length c)∧Bw w wr)
  (fun jv _ => ks.length - (intOf jv).toNat)
 case atStart=>exact ⟨0,_,Nat.zero_le _,rfl,PartR.nil,aC _ _ _ (by simp),(aC _ _ _ (by simp)).alloc _,((aC _ _ _ (by simp)).alloc _).alloc _,(((aC _ _ _ rfl).alloc _).alloc _).alloc _,bw4⟩
 case round=>
  obtain ⟨j,v,hj,rfl,hp,hB3,hB2,hBu,hB1,hb⟩:=hrel;have c12:=hB1.at_ (i:=2) rfl;have hz:=hB3.lt;have sr:=hb.size;by_cases hlt:j<ks.length
  ·have hlL:j<L.length:=by have:=hL'.out;omega
   have htk:=aD (tI hlL);have hte:=aD (show L[j]=if j=i then .mk ku nu us else ks[j] from by have:=hi'.out j ks[j] (qR hlt);rw [qR hlL] at this;injection this);have htl:(L.take j).length=j:=by rw [List.length_take];omega
   by_cases hji:j=i
   ·have q0:((j:Int)==(i:Int))=true:=by rw [hji];simp
    have hte2:=aD (hte.out.trans (if_pos hji));clear hji;obtain ⟨u0,u1,u2⟩:=hBu.three;have c32:=hB3.at_ (i:=2) rfl;have z3:=hB3.frozen 2;go_wp2_with (at_builtin;refine jC (lo:=p) (B:=w.heap.size+4) (m:=j) (k:=ku) (n:=nu) (ks:=us) (A:=U) (c:=cu) (q:=p) hp (by omega) (hru.below hb) (fun b hb=>⟨.inl hb,by have:=hpw b hb;omega,fun e=>by obtain ⟨xs,h1,_⟩:=hp;have:=(h1.lt b e).1;have:=hpw b hb;omega⟩) hlu htl (by omega) rfl _ _ rfl rfl (by show Value.slice (some ⟨wr.heap.size,0,none⟩) 1 1=_;simp) ?_;intro A2 c2 w2 hp2 hb2 hg2;have q3:Blk w2 (w.heap.size+1+1+1) #[.int .i64 k,.int .i64 n,v]:=hB3.below hb2 (by omega);have q2:Blk w2 (w.heap.size+1+1) Zr:=hB2.below hb2 (by omega);have qu:Blk w2 (w.heap.size+1) (Ro ku nu U us.length cu):=hBu.below hb2 (by omega);have q1':Blk w2 w.heap.size (Ro k n A ks.length c):=hB1.below hb2 (by omega);have c3:w2.cell? ⟨w.heap.size+1+1+1,2,none⟩=some v:=q3.at_ rfl;clear z3;have z3:=q3.frozen 2;have hbf:Bw w w2:=bU hb hb2)
    go_roundw
    case rel=>exact ⟨j+1,_,by omega,by go_num,by rw [htk.out,hte2.out];exact hp2.setCell ⟨fun h=>by have h1:=hpw _ h;simp at h1;omega,by simp⟩ _,q3.set_ 2 _,q2.far (by simp) _,qu.far (by simp) _,q1'.far (by simp;omega) _,hbf.setCell (by simp;omega) _⟩
    case measure=>simp [intOf];omega
   ·have q0:((j:Int)==(i:Int))=false:=beq_eq_false_iff_ne.2 (by omega);have hte2:=aD (hte.out.trans (if_neg hji));clear hji;obtain ⟨b,off,k',n',ks',A',c',rfl,hkj,hc1,hc2,hc3,hl',hr'⟩:=(hr.below hb).at_ hlt;have hsz:=cF (iC hlt);rw [hkj] at hsz;simp only [Tm.size] at hsz
    have H3:=aD hkj;clear hkj;go_wp2_with fail
    have x2:=hB3.rule (i:=2) rfl;have b2:=hB1.rule (i:=2) rfl;obtain ⟨y0,y1,y2⟩:=qD hc1 hc2 hc3;refine bL (fun w'=>Bw wr w') [0,1,2,3,4,5,6] [7,8] [9,10,11] [_,_,_,_,_,_,_] [_,_] [_,_,_] (by kernel_rfl) (by kernel_rfl) rfl rfl rfl (fun _ _ d _ _ h=>by cases d<;>exact h) (eR _ _).drew ?_;refine bZ (aD ?_);refine bO ?_;go_wp2_with (go_at_call 35;refine (eI _ k' n' ks' A' c' _ (oH _) (by omega) hr'.drew).mono ?_;rintro e w1 ⟨A1,c1,rfl,hl1,hf1,hb1⟩)
    have hx1:Bw wr w1:=(eR _ _).drew.trans hb1;have hpx:=hp.below hx1;refine aQ hx1 (bO ?_);go_wp2_with fail
    refine aQ (hx1.alloc hx1.size _) (dL ?_);have hf1:Fresh wr.heap.size w1 A1 ks':=hf1;refine jC (lo:=p) (B:=w.heap.size+4) (m:=j) (q:=fun b=>wr.heap.size≤b∧b<w1.heap.size) hpx (by have:=hx1.size;omega) (Fresh.rdp hf1) (fun b hb=>⟨.inr (by omega),hb.2,fun e=>by obtain ⟨xs,h1,_⟩:=hp;have:=(h1.lt b e).2;omega⟩) hl1 htl (by omega) rfl (.tmp 31) (.tmp 38) rfl rfl rfl ?_;intro A2 c2 w2 hp2 hb2 hg2;have q3:Blk w2 (w.heap.size+1+1+1) #[.int .i64 k,.int .i64 n,v]:=(hB3.below hx1 (by omega)).below hb2 (by omega);have q2:Blk w2 (w.heap.size+1+1) Zr:=(hB2.below hx1 (by omega)).below hb2 (by omega);have qu:Blk w2 (w.heap.size+1) (Ro ku nu U us.length cu):=(hBu.below hx1 (by omega)).below hb2 (by omega);have q1':Blk w2 w.heap.size (Ro k n (some ⟨b,off,none⟩) ks.length c):=(hB1.below hx1 (by omega)).below hb2 (by omega);have c3:w2.cell? ⟨w.heap.size+1+1+1,2,none⟩=some v:=q3.at_ rfl;have z3:=q3.frozen 2;have hbf:Bw w w2:=(hb.trans (hx1.mono (by omega))).trans (hb2.mono (by omega));clear x2 y0 y1 y2 b2;go_wp2_with fail
    go_roundw
    case rel=>exact ⟨j+1,_,by omega,by go_num,by rw [htk.out,hte2.out,H3.out];exact hp2.setCell ⟨fun h=>by have h1:=hpw _ h;simp at h1;omega,by simp⟩ _,q3.set_ 2 _,q2.far (by simp) _,qu.far (by simp) _,q1'.far (by simp;omega) _,hbf.setCell (by simp;omega) _⟩
    case measure=>simp [intOf];omega
  ·have hjl:j=L.length:=by have:=hL'.out;omega
   have hjk:j=ks.length:=by omega
   rw [hjl,List.take_length] at hp;subst hjk;obtain ⟨Ar,cr,rfl,hfr⟩:=hp.rd;obtain ⟨c0,c1,c2⟩:=hB3.three;obtain ⟨d0,d1,d2,e0,e1,e2⟩:=bW hB2;clear hjl;have hzz:¬(p (w.heap.size+1+1)∨w.heap.size+4≤w.heap.size+1+1):=fun h=>h.elim (fun h=>by have:=hpw _ h;omega) (fun h=>by omega)
   go_wp2_with fail
   refine bodyPost_ret (v:=.agg (Ro k n Ar L.length cr)) (by simp [results,results130,go_sem,d0,d1,d2]) rfl ⟨Ar,cr,rfl,by have:=hL'.out;omega,?_,?_⟩
   ·exact (((hfr.setCell hzz _).setCell hzz _).setCell hzz _).mono (fun b hb=>hb.imp id (fun h=>by omega))
   ·exact bP hb
end Go.Proofs.YtjlaenhcemacdaaGreat
