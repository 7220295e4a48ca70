/- Parts of the proof. No condition. -/
import Derived.Test.YtajjhldcjikkpaaGreatK1
import Derived.Outline
open Go.Proofs.Tryz
namespace Go.Proofs.YtajjhldcjikkpaaGreat
open Go.RowKit
set_option maxHeartbeats 4000000
set_option maxRecDepth 100000
set_option linter.unusedSimpArgs false
set_option linter.unusedVariables false
def ParsedT (w:World)(k n:Int)(ks:List Tm)(j:Nat)(e:Ending)(w':World):Prop:=
 ∃(m:Nat) (A:Option Addr) (c:Nat),m=j∧e = .returned (.tuple #[.agg (Ro k n A ks.length c),.int .i64 m])∧ks.length≤9223372036854775807∧Fresh w.heap.size w' A ks∧Bw w w'
def pO (k n:Int)(ks:List Tm)(bs:List UInt8)(d:Nat):Prop:=
 ∀(s:ByteArray) (i:Nat) (I D:Int) (w:World),s.size≤1000000→I=i→Has s i bs→Nd s (i+bs.length)→(d:Int)≤D→D≤1000→
  Calls prog 52 #[.string s,.int .i64 I,.int .i64 D] w (ParsedT w k n ks (i+bs.length))
theorem Fresh.node {B:Nat}{w:World}{A:Option Addr}{ks:List Tm}(h:Fresh B w A ks)(hl:ks.length≤9223372036854775807)(k n:Int)(c:Nat) :
  ∃fp,OwX w [.mk k n ks] [.int .i64 k,.int .i64 n,.slice A ks.length c] fp∧fp.Nodup∧∀b,b∈fp→B≤b:=by
 obtain ⟨fp,h1,h2,h3⟩:=h;exact ⟨fp,jE (OwT.iff.2 ⟨A,c,rfl,hl,h1⟩),h2,h3⟩
theorem Fresh.node2 {B:Nat}{w1 w2:World}{A1 A2:Option Addr}{ks1 ks2:List Tm}(h1:Fresh B w1 A1 ks1)(hb:Bw w1 w2)(h2:Fresh w1.heap.size w2 A2 ks2)(hB:B≤w1.heap.size)
  (hl1 : ks1.length ≤ 9223372036854775807) (hl2 : ks2.length ≤ 9223372036854775807) (k1 n1 k2 n2 : Int) (c1 c2 : Nat) :
  ∃fp,OwX w2 [.mk k1 n1 ks1,.mk k2 n2 ks2] [.int .i64 k1,.int .i64 n1,.slice A1 ks1.length c1,.int .i64 k2,.int .i64 n2,.slice A2 ks2.length c2] fp∧fp.Nodup∧∀b,b∈fp→B≤b:=by
 obtain ⟨f1,a1,a2,a3⟩:=h1;obtain ⟨f2,b1,b2,b3⟩:=h2;have hlt:=a1.lt;refine ⟨f1++f2,OwX.cons_iff.2 ⟨[.int .i64 k1,.int .i64 n1,.slice A1 ks1.length c1],[.int .i64 k2,.int .i64 n2,.slice A2 ks2.length c2],f1,f2,rfl,rfl,OwT.iff.2 ⟨A1,c1,rfl,hl1,a1.frame fun b hbf=>hb.block b (hlt b hbf)⟩,jE (OwT.iff.2 ⟨A2,c2,rfl,hl2,b1⟩)⟩,?_,?_⟩
 ·refine List.nodup_append.2 ⟨a2,b2,fun x hx y hy e=>?_⟩;have:=hlt x hx;have:=b3 y hy;omega
 ·intro b hbm;rcases List.mem_append.1 hbm with h|h
  ·exact a3 b h
  ·have:=b3 b h;omega
theorem OwX.below {w w':World}{ts:List Tm}{xs:List Value}{fp:List Nat}(h:OwX w ts xs fp)(hb:Bw w w'):OwX w' ts xs fp:=h.frame fun b hbf=>hb.block b (h.lt b hbf)
theorem OwX.alloc {w:World}{ts:List Tm}{xs:List Value}{fp:List Nat}(h:OwX w ts xs fp)(o:Obj):OwX (w.alloc o) ts xs fp:=h.frame fun b hb=>Below.heap_alloc w o b (h.lt b hb)
theorem aRf {B g:Nat}{w:World}(h:Blk w g #[])(hg:B≤g)(ht:∀t,w.heap[g]?=some (.cells #[] t (0,0))→t=25):Part B w (.slice (some ⟨g,0,none⟩) 0 0) []:=by
 obtain ⟨t,h⟩:=h;have:=ht t h;subst this;exact ⟨[],[],⟨by simp,.inr ⟨g,0,#[],rfl,hg,h,pS _,by simp [maxLen],by simp,by simp⟩⟩,OwX.nil,List.nodup_nil,by simp,by simp⟩
theorem xZ {B g:Nat}{w:World}(hg:g=w.heap.size)(hB:B≤g):Part B (w.alloc (.cells #[] 25)) (.slice (some ⟨g,0,none⟩) 0 0) []:=by
 subst hg;exact ⟨[],[],⟨by simp,.inr ⟨_,0,#[],rfl,hB,heap_alloc_new w _,pS _,by simp [maxLen],by simp,by simp⟩⟩,OwX.nil,List.nodup_nil,by simp,by simp⟩
theorem aGi {k:Int}{c:UInt8}{k1 n1:Int}{ks1:List Tm}{b:List UInt8}{d:Nat}(h:aUw k c)(ih:pO k1 n1 ks1 b d)(s:ByteArray)(i:Nat)(I D:Int)(w:World)(hs:s.size≤1000000)(hI:I=i)(hh:Has s i (c::b))(hn:Nd s (i+1+b.length))(hD:(d:Int)+1≤D)(hD2:D≤1000) :
  Calls prog 75 #[.string s,.int .i64 I,.int .i64 D] w (ParsedT w k 0 [.mk k1 n1 ks1] (i+1+b.length)):=by
 subst hI;obtain ⟨⟨hi,hc⟩,hh2⟩:=hh.cons;have hpar:=aD (fun w=>ih s (i+1) ((i:Int)+1) (D - 1) w hs (by omega) hh2 hn (by omega) (by omega));clear ih hh hh2 hn;have enter:∀x:Nat,(s[i]'hi).toNat=x→(x=c.toNat)→Calls prog 75 #[.string s,.int .i64 i,.int .i64 D] w (ParsedT w k 0 [.mk k1 n1 ks1] (i+1+b.length)):=by
  intro x he hx;clear hc;rcases h with ⟨rfl,rfl⟩|⟨rfl,rfl⟩|⟨rfl,rfl⟩|⟨rfl,rfl⟩
  all_goals
   subst hx;go_enter func75,ntmps75;go_wp2_with (first
    | (go_at_call 31;refine (nS (B:=w.heap.size+1) (us:=[.mk k1 n1 ks1]) _ (by simp;omega) ((hO.alloc _).alloc _) hnd hge (by simp) _ 1 (aC _ 25 _ (by simp))).mono ?_;rintro e w2 ⟨A2,c2,rfl,hf2,hb2⟩;replace hZ:=((hZ.alloc _).alloc _).keep hb2;have d0:=hZ.at_ (i:=0) rfl;have d1:=hZ.at_ (i:=1) rfl;have d2:=hZ.at_ (i:=2) rfl;obtain ⟨e0,e1,e2⟩:=lF hZ;have g2:Bw w w2:=((g1.alloc (by omega) _).alloc (by simp;omega) _).trans (hb2.mono (by simp;omega)))
    | (go_at_call 52;refine (hpar.out _).mono ?_;rintro e w1 ⟨m,A1,c1,hm,rfl,hl1,hf1,hb1⟩;have hm':=aD hm;clear hm;obtain ⟨fp,hO,hnd,hge⟩:=(hf1.mono (B':=w.heap.size+1) (by simp)).node hl1 k1 n1 c1;have hZ:=(aC w 25 Zr rfl).keep hb1;have g1:Bw w w1:=bQ bw1 hb1;have s1:=g1.size))
   refine bodyPost_ret (v:=_) ?_ rfl ⟨m,A2,c2,hm'.out,rfl,by simp,?_,(bT g2)⟩
   ·simp [results,results75,go_sem,d0,d1,d2]
   ·exact (mU hf2).mono (by omega)
 exact enter _ rfl (by rw [hc])
theorem Has.lt {s:ByteArray}{i:Nat}{c:UInt8}{bs:List UInt8}(h:Has s i (c::bs)):i<s.size:=h.cons.1.1
theorem aJk {k:Int}{c:UInt8}{k1 n1:Int}{ks1:List Tm}{x:List UInt8}{k2 n2:Int}{ks2:List Tm}{y:List UInt8}{d:Nat}(h:aUo k c)(ih1:pO k1 n1 ks1 x d)(ih2:pO k2 n2 ks2 y d)(s:ByteArray)(i:Nat)(I D:Int)(w:World)(hs:s.size≤1000000)(hI:I=i)(hh:Has s i (x++c::(y++[41])))(hD:(d:Int)≤D)(hD2:D≤1000) :
  Calls prog 76 #[.string s,.int .i64 I,.int .i64 D] w (ParsedT w k 0 [.mk k1 n1 ks1,.mk k2 n2 ks2] (i+x.length+1+y.length+1)):=by
 subst hI;obtain ⟨hh1,hh2⟩:=hh.app;obtain ⟨⟨hi,hc⟩,hh3⟩:=hh2.cons;obtain ⟨hh4,hh5⟩:=hh3.app;obtain ⟨⟨hi2,hc2⟩,_⟩:=hh5.cons;have hnd1:Nd s (i+x.length):=.of hh2 (by rcases h with ⟨_,rfl⟩|⟨_,rfl⟩|⟨_,rfl⟩<;>decide);have hnd2:Nd s (i+x.length+1+y.length):=.of hh5 (by decide);have enter:∀(j1 j2:Nat) (hi:j1<s.size) (hi2:j2<s.size) (z z2:Nat),(s[j1]'hi).toNat=z→z=c.toNat→(s[j2]'hi2).toNat=z2→z2=41→(∀w,Calls prog 52 #[.string s,.int .i64 i,.int .i64 D] w (ParsedT w k1 n1 ks1 j1))→
   (∀w (I:Int),I=(j1+1:Nat)→Calls prog 52 #[.string s,.int .i64 I,.int .i64 D] w (ParsedT w k2 n2 ks2 j2))→Calls prog 76 #[.string s,.int .i64 i,.int .i64 D] w (ParsedT w k 0 [.mk k1 n1 ks1,.mk k2 n2 ks2] (j2+1)):=by
  clear hc hc2 hi hi2 hh hh1 hh2 hh3 hh4 hh5 hnd1 hnd2 ih1 ih2;intro j1 j2 hi hi2 z z2 he hx he2 hx2 hp1 hp2;have hpar1:=aD hp1;have hpar2:=aD hp2;clear hp1 hp2;subst hx2;rcases h with ⟨rfl,rfl⟩|⟨rfl,rfl⟩|⟨rfl,rfl⟩
  all_goals
   subst hx;go_enter func76,ntmps76;go_wp2_with (first
    | (go_at_call 31;(refine (nS (B:=w.heap.size+1) (us:=[.mk k1 n1 ks1,.mk k2 n2 ks2]) _ (by simp;omega) ((hO2.alloc _).alloc _) hnd hge (by simp) _ 2 (aC _ 25 _ (by simp))).mono ?_);rintro e w4 ⟨A4,c4,rfl,hf4,hb4⟩;replace hZ:=((hZ.alloc _).alloc _).keep hb4;have d0:=hZ.at_ (i:=0) rfl;have d1:=hZ.at_ (i:=1) rfl;have d2:=hZ.at_ (i:=2) rfl;obtain ⟨e0,e1,e2⟩:=lF hZ;have g4:Bw w w4:=((g3.alloc (by omega) _).alloc (by simp;omega) _).trans (hb4.mono (by simp;omega)))
    | (go_at_call 52;have _t:=tok;refine (hpar2.out _ _ (by omega)).mono ?_;rintro e w3 ⟨m2,A2,c2,hm2,rfl,hl2,hf2,hb2⟩;subst hm2;clear tok;obtain ⟨fp,hO2,hnd,hge⟩:=(hf1.alloc _).node2 hb2 hf2 (by simp;omega) hl1 hl2 k1 n1 k2 n2 c1 c2;replace hZ:=(hZ.alloc _).keep hb2;have hX1:=(aC w1 25 (Ro k1 n1 A1 ks1.length c1) rfl).keep hb2;have x0:=hX1.at_ (i:=0) rfl;have x1:=hX1.at_ (i:=1) rfl;have x2:=hX1.at_ (i:=2) rfl;have lx:=hX1.lt;have lz:=hZ.lt;have g3:Bw w w3:=(g1.alloc (by omega) _).trans (hb2.mono (by simp;omega));have s3:=g3.size;have s13:w1.heap.size+1≤w3.heap.size:=(by have:=hb2.size;simpa using this))
    | (go_at_call 52;refine (hpar1.out _).mono ?_;rintro e w1 ⟨m,A1,c1,hm,rfl,hl1,hf1,hb1⟩;subst hm;have tok:True:=trivial;replace hf1:=hf1.mono (B':=w.heap.size+1) (by simp);have hZ:=(aC w 25 Zr rfl).keep hb1;have g1:Bw w w1:=bQ bw1 hb1;have s1:=g1.size;have s1':=hZ.lt))
   refine bodyPost_ret (v:=_) ?_ rfl ⟨m2+1,A4,c4,rfl,rfl,by simp,?_,(bT g4)⟩
   ·simp [results,results76,go_sem,d0,d1,d2]
   ·exact (mU hf4).mono (by omega)
 exact enter _ _ hi hi2 _ _ rfl (by rw [hc]) rfl (by rw [hc2];rfl) (fun w=>ih1 s i i D w hs rfl hh1 hnd1 hD hD2) (fun w I hI=>ih2 s (i+x.length+1) I D w hs hI hh4 hnd2 hD hD2)
def aHr (w:World)(ts:List Tm)(j:Nat)(e:Ending)(w':World):Prop:=
 ∃(m:Nat) (A:Option Addr) (c:Nat),m=j∧e = .returned (.tuple #[.slice A ts.length c,.int .i64 m])∧Fresh w.heap.size w' A ts∧Bw w w'
theorem aPo {c:UInt8}{xs:List (List UInt8)}{j:Nat}{x:List UInt8}(hj:j<xs.length)(hx:xs[j]=x) :
  mX c (xs.drop j)=x++(if j+1<xs.length then 44 else c)::mX c (xs.drop (j+1)):=by
 rw [List.drop_eq_getElem_cons hj,hx];by_cases h:j+1<xs.length
 ·rw [if_pos h,List.drop_eq_getElem_cons h,aDd]
 ·rw [if_neg h,List.drop_eq_nil_of_le (by omega:xs.length≤j+1),aQr];simp [mX]
theorem aGg {d:Nat}(c:UInt8)(hcd:c.toNat<48∨57<c.toNat)(ts:List Tm)(xs:List (List UInt8))(hl:xs.length=ts.length)(hl4:ts.length≤4)
  (ih : ∀ (j : Nat) (k n : Int) (ks : List Tm) (x : List UInt8), ts[j]? = some (.mk k n ks) → xs[j]? = some x → pO k n ks x d)
  (s : ByteArray) (i : Nat) (I D : Int) (w : World) (hs : s.size ≤ 1000000) (hI : I = i) (hh : Has s i (mX c xs)) (hD : (d : Int) ≤ D) (hD2 : D ≤ 1000) :
  Calls prog 96 #[.string s,.int .i64 I,.int .i64 D,.int .i64 ts.length,.int .u8 c.toNat] w (aHr w ts (i+(mX c xs).length)):=by
 subst hI;have hl':=aD hl;have hh':=aD hh;have ih':=aD ih;clear hl hh ih;obtain ⟨cv,hcv⟩:∃cv,c.toNat=cv:=⟨_,rfl⟩;rw [hcv] at hcd⊢;have hcv':=aD hcv;clear hcv;go_enter func96,ntmps96;go_wp2_with fail
 go_loopw [1,12,13] (fun a v jv wr=>∃(j p:Nat),j≤ts.length∧jv = .int .i64 j∧a = .int .i64 p∧Part w.heap.size wr v (ts.take j)∧Has s p (mX c (xs.drop j))∧p+(mX c (xs.drop j)).length=i+(mX c xs).length∧Bw w wr) (fun _ _ jv _=>ts.length - (intOf jv).toNat)
 case atStart=>exact ⟨0,i,Nat.zero_le _,rfl,rfl,xZ rfl (pS _),hh'.out,by simp,bw1⟩
 case round=>
  obtain ⟨j,p,hj,rfl,rfl,hp,hs1,hs2,hb⟩:=hrel;have hs2':=aD hs2;clear hs2;by_cases hlt:j<ts.length
  ·have hlx:j<xs.length:=by have:=hl'.out;omega
   obtain ⟨k1,n1,ks1,hk1⟩:∃k n ks,ts[j] = .mk k n ks:=by cases h:ts[j];exact ⟨_,_,_,rfl⟩
   obtain ⟨x,hx⟩:∃x,xs[j]=x:=⟨_,rfl⟩;have hst:=aPo (c:=c) hlx hx;rw [hst] at hs1;obtain ⟨hh1,hh2⟩:=hs1.app;obtain ⟨⟨hi,hc⟩,hh3⟩:=hh2.cons;have hnd:Nd s (p+x.length):=.of hh2 (by split;decide;rw [hcv'.out];exact hcd);obtain ⟨j1,hj1⟩:∃j1,j1=p+x.length:=⟨_,rfl⟩;have hi1:j1<s.size:=by omega
   have he1:(s[j1]'hi1).toNat=if j+1<ts.length then 44 else cv:=by
    subst hj1;rw [hc,← hl'.out];split
    ·rfl
    ·exact hcv'.out
   have hpar:=aD (fun w=>show Calls prog 52 #[.string s,.int .i64 p,.int .i64 D] w (ParsedT w k1 n1 ks1 j1) by rw [hj1];exact ih'.out j k1 n1 ks1 x (by rw [oE hlt,hk1]) (by rw [oE hlx,hx]) s p p D w hs rfl hh1 hnd hD hD2);have hend:Hid (j1+1+(mX c (xs.drop (j+1))).length=i+(mX c xs).length):=by
    have:=hs2'.out;rw [hst] at this;simp only [List.length_append,List.length_cons] at this;show _=_;omega
   have hk1':=aD hk1;have hh3':=aD (hj1▸hh3);clear hh1 hh2 hh3 hst hs1 hnd hk1 hc hi hj1 hx hlx;by_cases hmore:j+1<ts.length
   ·rw [if_pos hmore] at he1;have q1:decide ((j:Int)+1<(ts.length:Int))=true:=decide_eq_true (by omega);have q2:(((j:Int)+1)==(ts.length:Int))=false:=beq_eq_false_iff_ne.2 (by omega);go_wp2_with (first
     | (at_builtin;refine cL (B:=w.heap.size) (m:=j) (k:=k1) (n:=n1) (c:=c1) hp (hb1.alloc hb1.size _) (by have:=hb.size;omega) (hf1.alloc _) hl1 (by rw [List.length_take];omega) (by omega) rfl _ _ rfl rfl (by show Value.slice (some ⟨w1.heap.size+1,0,none⟩) 1 1=_;simp) ?_;intro A2 c2 w2 hp2 hb2 hg2)
     | (go_at_call 52;refine (hpar.out _).mono ?_;rintro e w1 ⟨m,A1,c1,hm,rfl,hl1,hf1,hb1⟩;subst hm))
    go_roundw
    case rel=>exact ⟨j+1,m+1,by omega,by go_num,by go_num,by rw [uQ hlt,hk1'.out];exact hp2,hh3'.out,hend.out,(hb.trans (hb1.mono hb.size)).trans (((fG _ _).alloc (by have:=hb.size;have:=hb1.size;omega) _).trans hb2)⟩
    case measure=>simp [intOf];omega
   ·rw [if_neg hmore] at he1;have q1:decide ((j:Int)+1<(ts.length:Int))=false:=decide_eq_false (by omega);have q2:(((j:Int)+1)==(ts.length:Int))=true:=by rw [show ((j:Int)+1)=(ts.length:Int) by omega];exact beq_self_eq_true _
    go_wp2_with (first
     | (at_builtin;refine cL (B:=w.heap.size) (m:=j) (k:=k1) (n:=n1) (c:=c1) hp (hb1.alloc hb1.size _) (by have:=hb.size;omega) (hf1.alloc _) hl1 (by rw [List.length_take];omega) (by omega) rfl _ _ rfl rfl (by show Value.slice (some ⟨w1.heap.size+1,0,none⟩) 1 1=_;simp) ?_;intro A2 c2 w2 hp2 hb2 hg2)
     | (go_at_call 52;refine (hpar.out _).mono ?_;rintro e w1 ⟨m,A1,c1,hm,rfl,hl1,hf1,hb1⟩;subst hm))
    go_roundw
    case rel=>exact ⟨j+1,m+1,by omega,by go_num,by go_num,by rw [uQ hlt,hk1'.out];exact hp2,hh3'.out,hend.out,(hb.trans (hb1.mono hb.size)).trans (((fG _ _).alloc (by have:=hb.size;have:=hb1.size;omega) _).trans hb2)⟩
    case measure=>simp [intOf];omega
  ·have hjl:j=ts.length:=by omega
   subst hjl;rw [List.take_length] at hp;obtain ⟨Ar,cr,rfl,hfr⟩:=hp.fresh;have hx0:mX c (xs.drop ts.length)=[]:=by rw [← hl'.out,List.drop_length];rfl
   have hfin:=aD (show p=i+(mX c xs).length by have:=hs2'.out;rw [hx0] at this;simpa using this);clear hs1 hx0;go_wp2_with fail
   go_ret2
   exact ⟨p,Ar,cr,hfin.out,rfl,hfr,hb⟩
theorem aKz {d:Nat}{k:Int}{m:Nat}{o:List UInt8}{c:UInt8}(h:aOm k m o c)(ts:List Tm)(xs:List (List UInt8))(hm:ts.length=m)(hx:xs.length=m)
  (ih : ∀ (j : Nat) (k n : Int) (ks : List Tm) (x : List UInt8), ts[j]? = some (.mk k n ks) → xs[j]? = some x → pO k n ks x d)
  (s : ByteArray) (i : Nat) (I D : Int) (w : World) (hs : s.size ≤ 1000000) (hI : I = i) (hh : Has s i (o ++ mX c xs)) (hD : (d : Int) + 1 ≤ D) (hD2 : D ≤ 1000) :
  Calls prog 77 #[.string s,.int .i64 I,.int .i64 D] w (ParsedT w k 0 ts (i+(o++mX c xs).length)):=by
 subst hI;obtain ⟨hh1,hh2⟩:=hh.app;rw [List.length_append,← Nat.add_assoc];have enter:∀(q j:Nat) (hi:i<s.size) (z:Nat),(s[i]'hi).toNat=z→(o.length=2→∃(hi2:i+1<s.size),(s[i+1]'hi2).toNat=60)→q=i+o.length→o.head?=some (UInt8.ofNat z)→
   (∀w (I:Int),I=q→Calls prog 96 #[.string s,.int .i64 I,.int .i64 (D - 1),.int .i64 m,.int .u8 c.toNat] w (aHr w ts j))→z<256→Calls prog 77 #[.string s,.int .i64 i,.int .i64 D] w (ParsedT w k 0 ts j):=by
  clear hh hh1 hh2 ih hx;intro q j hi z he h2 hq hz hp hz256;have hts:(ts.length:Int)=m:=by omega
  have htl:ts.length=m:=hm;have hp':=aD hp;clear hp hm hts;have hm':=aD htl;clear htl;rcases h with ⟨rfl,rfl,rfl,rfl⟩|⟨rfl,rfl,rfl,rfl⟩|⟨rfl,rfl,rfl,rfl⟩|⟨rfl,rfl,rfl,rfl⟩
  case inl=>
   have hz:z=60:=by simp only [List.head?_cons,Option.some.injEq] at hz;have:=congrArg UInt8.toNat hz;simp at this;omega
   subst hz;have ha:aK 9=4:=by decide
   clear h2 hz256;go_enter func77,ntmps77;go_wp2_with (first
    | (go_at_call 96;refine (hp'.out _ _ (by rw [hq];simp)).mono ?_;rintro e w1 ⟨m1,A1,c1,hm1,rfl,hf1,hb1⟩;have hm1':=aD hm1;clear hm1;have hZ:=(aC w 25 Zr rfl).keep hb1;have d0:=hZ.at_ (i:=0) rfl;have d1:=hZ.at_ (i:=1) rfl;have d2:=hZ.at_ (i:=2) rfl;obtain ⟨e0,e1,e2⟩:=lF hZ;have g1:Bw w w1:=bQ bw1 hb1)
    | (go_at_call 64;refine (dF _ _).mono ?_;rintro e w9 ⟨rfl,rfl⟩))
   refine bodyPost_ret (v:=.tuple #[.agg (Ro 9 0 A1 ts.length c1),.int .i64 m1]) (by simp [results,results77,go_sem,d0,d1,d2]) rfl ⟨m1,A1,c1,hm1'.out,rfl,by have:=hm'.out;omega,?_,(bT g1)⟩;exact (mU hf1).mono (by simp)
  case inr.inl=>
   have hz:z=123:=by simp only [List.head?_cons,Option.some.injEq] at hz;have:=congrArg UInt8.toNat hz;simp at this;omega
   subst hz;have ha:aK 10=3:=by decide
   clear h2 hz256;go_enter func77,ntmps77;go_wp2_with (first
    | (go_at_call 96;refine (hp'.out _ _ (by rw [hq];simp)).mono ?_;rintro e w1 ⟨m1,A1,c1,hm1,rfl,hf1,hb1⟩;have hm1':=aD hm1;clear hm1;have hZ:=(aC w 25 Zr rfl).keep hb1;have d0:=hZ.at_ (i:=0) rfl;have d1:=hZ.at_ (i:=1) rfl;have d2:=hZ.at_ (i:=2) rfl;obtain ⟨e0,e1,e2⟩:=lF hZ;have g1:Bw w w1:=bQ bw1 hb1)
    | (go_at_call 64;refine (dF _ _).mono ?_;rintro e w9 ⟨rfl,rfl⟩))
   refine bodyPost_ret (v:=.tuple #[.agg (Ro 10 0 A1 ts.length c1),.int .i64 m1]) (by simp [results,results77,go_sem,d0,d1,d2]) rfl ⟨m1,A1,c1,hm1'.out,rfl,by have:=hm'.out;omega,?_,(bT g1)⟩;exact (mU hf1).mono (by simp)
  case inr.inr.inl=>
   have hz:z=124:=by simp only [List.head?_cons,Option.some.injEq] at hz;have:=congrArg UInt8.toNat hz;simp at this;omega
   subst hz;have ha:aK 14=3:=by decide
   clear h2 hz256;go_enter func77,ntmps77;go_wp2_with (first
    | (go_at_call 96;refine (hp'.out _ _ (by rw [hq];simp)).mono ?_;rintro e w1 ⟨m1,A1,c1,hm1,rfl,hf1,hb1⟩;have hm1':=aD hm1;clear hm1;have hZ:=(aC w 25 Zr rfl).keep hb1;have d0:=hZ.at_ (i:=0) rfl;have d1:=hZ.at_ (i:=1) rfl;have d2:=hZ.at_ (i:=2) rfl;obtain ⟨e0,e1,e2⟩:=lF hZ;have g1:Bw w w1:=bQ bw1 hb1)
    | (go_at_call 64;refine (dF _ _).mono ?_;rintro e w9 ⟨rfl,rfl⟩))
   refine bodyPost_ret (v:=.tuple #[.agg (Ro 14 0 A1 ts.length c1),.int .i64 m1]) (by simp [results,results77,go_sem,d0,d1,d2]) rfl ⟨m1,A1,c1,hm1'.out,rfl,by have:=hm'.out;omega,?_,(bT g1)⟩;exact (mU hf1).mono (by simp)
  case inr.inr.inr=>
   obtain ⟨hi2,he2⟩:=h2 rfl;have hz:z=64:=by simp only [List.head?_cons,Option.some.injEq] at hz;have:=congrArg UInt8.toNat hz;simp at this;omega
   subst hz;have ha:aK 12=3:=by decide
   clear h2 hz256;go_enter func77,ntmps77;go_wp2_with (first
    | (go_at_call 96;refine (hp'.out _ _ (by rw [hq];simp)).mono ?_;rintro e w1 ⟨m1,A1,c1,hm1,rfl,hf1,hb1⟩;have hm1':=aD hm1;clear hm1;have hZ:=(aC w 25 Zr rfl).keep hb1;have d0:=hZ.at_ (i:=0) rfl;have d1:=hZ.at_ (i:=1) rfl;have d2:=hZ.at_ (i:=2) rfl;obtain ⟨e0,e1,e2⟩:=lF hZ;have g1:Bw w w1:=bQ bw1 hb1)
    | (go_at_call 64;refine (dF _ _).mono ?_;rintro e w9 ⟨rfl,rfl⟩))
   refine bodyPost_ret (v:=.tuple #[.agg (Ro 12 0 A1 ts.length c1),.int .i64 m1]) (by simp [results,results77,go_sem,d0,d1,d2]) rfl ⟨m1,A1,c1,hm1'.out,rfl,by have:=hm'.out;omega,?_,(bT g1)⟩;exact (mU hf1).mono (by simp)
 have hcd:c.toNat<48∨57<c.toNat:=by rcases h with ⟨_,_,_,rfl⟩|⟨_,_,_,rfl⟩|⟨_,_,_,rfl⟩|⟨_,_,_,rfl⟩<;>decide
 have hm4:ts.length≤4:=by rcases h with ⟨_,rfl,_,_⟩|⟨_,rfl,_,_⟩|⟨_,rfl,_,_⟩|⟨_,rfl,_,_⟩<;>omega
 obtain ⟨a,ao,hao⟩:∃a ao,o=a::ao:=by rcases h with ⟨_,_,rfl,_⟩|⟨_,_,rfl,_⟩|⟨_,_,rfl,_⟩|⟨_,_,rfl,_⟩<;>exact ⟨_,_,rfl⟩
 have hh1':=hh1;rw [hao] at hh1';obtain ⟨⟨hi,hc⟩,hh3⟩:=hh1'.cons;refine enter (i+o.length) _ hi _ rfl ?_ rfl ?_ ?_ (UInt8.toNat_lt _)
 ·intro h2;rcases h with ⟨_,_,rfl,_⟩|⟨_,_,rfl,_⟩|⟨_,_,rfl,_⟩|⟨_,_,rfl,_⟩<;>simp at h2
  injection hao with h4 h5;subst h5;obtain ⟨⟨hi2,hc2⟩,_⟩:=hh3.cons;exact ⟨hi2,by rw [hc2];rfl⟩
 ·rw [hc,hao];simp
 ·intro w I hI;have:=aGg c hcd ts xs (by omega) hm4 ih s (i+o.length) I (D - 1) w hs hI hh2 (by omega) (by omega);rwa [hm] at this
end Go.Proofs.YtajjhldcjikkpaaGreat
