/- Parts of the proof. No condition. -/
import Derived.Test.YtjlaenhcemacdaaGreatK1
open Go.Proofs.Tryz
namespace Go.Proofs.YtjlaenhcemacdaaGreat
open Go.RowKit
set_option maxHeartbeats 2000000
set_option maxRecDepth 100000
set_option linter.unusedSimpArgs false
set_option linter.unusedVariables false
def aRk (m:Nat)(most r:Int):Prop:=1≤r∧r≤m∧(r=m∨most<r)
def aGw (m:Nat)(most:Int)(w:World)(e:Ending)(w':World):Prop:=∃r:Int,e = .returned (.int .i64 r)∧aRk m most r∧Bw w w'
theorem nX (ks:List Tm)(j:Nat)(hj:j<ks.length):aG (ks.take (j+1))=aG (ks.take j)+ks[j].size:=by
 rw [tI hj,rQ];simp [aG]
theorem fI (ks:List Tm)(j:Nat):aG (ks.take j)≤aG ks:=by
 have:=rQ (ks.take j) (ks.drop j);rw [List.take_append_drop] at this;omega
theorem aBz (N:Nat):∀(k n:Int) (ks:List Tm) (A:Option Addr) (c:Nat) (most:Int) (w:World),aG ks<N→aG ks≤1099511627776→-1099511627776≤most→most≤1099511627776→Rd w A 0 ks→
  Calls prog 73 #[.agg (Ro k n A ks.length c),.int .i64 most] w (aGw (aG ks+1) most w):=by
 induction N with
 | zero=>intro k n ks A c most w hN;exact absurd hN (Nat.not_lt_zero _)
 | succ N ih=>
 intro k n ks A c most w hN hM hlo hhi hr;have hlen:=aJ ks;go_enter func73,ntmps73;go_wp2_with fail
 go_loopw [5,6] (fun a i wr=>∃(j:Nat) (acc:Int),j≤ks.length∧i = .int .i64 j∧a = .int .i64 acc∧1≤acc∧acc≤1+aG (ks.take j)∧Hid (acc=1+aG (ks.take j)∨most<acc)∧Blk wr w.heap.size (Ro k n A ks.length c)∧Bw w wr)
  (fun _ i _ => ks.length - (intOf i).toNat)
 case atStart=>exact ⟨0,1,Nat.zero_le _,rfl,rfl,by omega,by simp [aG],aD (by simp [aG]),Blk.new _ _ _,bw1⟩
 case round=>
  obtain ⟨j,acc,hj,rfl,rfl,ha1,ha2,ha3,hB,hb⟩:=hrel;have c2:=hB.at_ (i:=2) rfl;have hsl:=fI ks j;by_cases hlt:j<ks.length
  ·by_cases hm:acc≤most
   ·obtain ⟨b,off,k1,n1,ks1,A1,c1,rfl,hkj,hc1,hc2,hc3,hl1,hr1⟩:=(hr.below hb).at_ hlt;have hst:=nX ks j hlt;have hsz:=cF (iC hlt);rw [hkj] at hsz hst;simp only [Tm.size] at hsz hst
    have H3:=aD hst;clear hkj hst;go_wp2_with (go_at_call 73;refine (ih k1 n1 ks1 A1 c1 _ _ (by omega) (by omega) (by omega) (by omega) hr1).mono ?_;rintro e w3 ⟨r,rfl,⟨hr1,hr2,hr3⟩,hb3⟩;have hr3':=aD hr3;clear hr3)
    go_roundw
    case rel=>
     refine ⟨j+1,acc+r,by omega,by go_num,rfl,by omega,by rw [H3.out];have:=ha3.out;omega,aD ?_,hB.keep hb3,hb.trans (hb3.mono hb.size)⟩;rw [H3.out];have h1:=ha3.out;have h2:=hr3'.out;omega
    case measure=>simp [intOf];omega
   ·go_wp2_with fail
    go_ret
    exact ⟨acc,rfl,⟨ha1,by omega,Or.inr (by omega)⟩,hb⟩
  ·go_wp2_with fail
   go_ret
   have h1:=ha3.out;have hjl:j=ks.length:=by omega
   rw [hjl,List.take_length] at h1 ha2;exact ⟨acc,rfl,⟨ha1,by omega,by omega⟩,hb⟩
def aE (t:Tm):Bool:=shape 30 t && decide (t.size≤400)
theorem aV (k n:Int)(ks:List Tm)(A:Option Addr)(c:Nat)(w:World)(hM:aG ks≤1099511627775)(hr:Rd w A 0 ks) :
  Calls prog 41 #[.agg (Ro k n A ks.length c)] w fun e w'=>e = .returned (.bool (aE (.mk k n ks)))∧Bw w w':=by
 have hlen:=aJ ks;cases hs:shape 30 (.mk k n ks) with
 | false=>
  have hv:aE (.mk k n ks)=false:=by simp [aE,hs]
  rw [hv];go_enter func41,ntmps41;go_wp2_with (go_at_call 72;refine (tN 30 k n ks A c _ (by omega) (by omega) (hr.alloc _)).mono ?_;rintro e w1 ⟨rfl,hb1⟩;obtain ⟨hc,hf⟩:=aLa hb1)
  go_ret
  exact ⟨rfl,bw1.trans (hb1.mono (by simp))⟩
 | true=>
  have hv:aE (.mk k n ks)=decide (aG ks+1≤400):=by simp [aE,hs,Tm.size]
  rw [hv];go_enter func41,ntmps41;go_wp2_with (first|(go_at_call 72;refine (tN 30 k n ks A c _ (by omega) (by omega) (hr.alloc _)).mono ?_;rintro e w1 ⟨rfl,hb1⟩;obtain ⟨hc,hf⟩:=aLa hb1)|(go_at_call 73;refine (aBz (aG ks+1) k n ks A c 400 _ (by omega) (by omega) (by omega) (by omega) ((hr.alloc _).below hb1)).mono ?_;rintro e w2 ⟨r,rfl,⟨hr1,hr2,hr3⟩,hb2⟩;have hr3':=aD hr3;clear hr3))
  go_ret
  have h3:=hr3'.out;exact ⟨dD (by rw [decide_eq_decide];omega),bw1.trans ((hb1.trans (hb2.mono hb1.size)).mono (by simp))⟩
def kQ (d:Nat)(c0:Int)(k n:Int)(ks:List Tm):Bool:=shape d (.mk k n ks) && decide (c0+1+aG ks≤400)
theorem uG {d:Nat}{c0 k n:Int}{ks:List Tm}(h:¬(0<d∧aU k=(ks.length:Int)∧0≤n∧n≤dG k∧c0+1≤400)):false=kQ d c0 k n ks:=by
 cases e:kQ d c0 k n ks with
 | false=>rfl
 | true=>
  simp only [kQ,Bool.and_eq_true,decide_eq_true_eq] at e
  cases d with
  | zero=>simp [shape] at e
  | succ d=>
   have:=(bF d k n ks).1 e.1;exact absurd ⟨by omega,this.1,this.2.1,this.2.2.1,by omega⟩ h
theorem aKb {d:Nat}{c0 k n:Int}{ks:List Tm}(h:shape d (.mk k n ks)=true)(h2:c0+1+(aG ks:Int)≤400):true=kQ d c0 k n ks:=by
 simp only [kQ,h,decide_eq_true h2,Bool.and_self]
theorem wG {d:Nat}{c0 k1 n1:Int}{ks ks1:List Tm}{j:Nat}(hj:j<ks.length)(hk:ks[j] = .mk k1 n1 ks1)(hst:aG (ks.take (j+1))=aG (ks.take j)+(aG ks1+1))
  (hb : true = kQ d (c0 + 1 + (aG (ks.take j) : Int)) k1 n1 ks1) : shape d ks[j] = true ∧ c0 + 1 + (aG (ks.take (j + 1)) : Int) ≤ 400 := by
 simp only [kQ] at hb
 have hb:=hb.symm;rw [Bool.and_eq_true,decide_eq_true_eq] at hb;rw [hk];refine ⟨hb.1,?_⟩;have:=hb.2;rw [hst];push_cast
 omega
theorem xE {d:Nat}{c0 k n k1 n1:Int}{ks ks1:List Tm}{j:Nat}(hj:j<ks.length)(hk:ks[j] = .mk k1 n1 ks1)(hst:aG (ks.take (j+1))=aG (ks.take j)+(aG ks1+1))
  (hb : false = kQ d (c0 + 1 + (aG (ks.take j) : Int)) k1 n1 ks1) : false = kQ (d + 1) c0 k n ks := by
 cases e:kQ (d+1) c0 k n ks with
 | false=>rfl
 | true=>
  simp only [kQ,Bool.and_eq_true,decide_eq_true_eq] at e
  have h1:=(bF d k n ks).1 e.1;have h2:=h1.2.2.2 _ (iC hj);have h3:=fI ks (j+1);rw [hk] at h2;simp only [kQ,h2,Bool.true_and] at hb
  have:=of_decide_eq_false hb.symm;omega
theorem aCi {ks:List Tm}{j:Nat}{p:Tm→Prop}(hj:j<ks.length)(h:∀t,t∈ks.take j→p t)(h1:p ks[j]):∀t,t∈ks.take (j+1)→p t:=by
 intro t ht;rw [tI hj,List.mem_append] at ht;rcases ht with ht|ht
 ·exact h t ht
 ·simp at ht;rw [ht];exact h1
theorem oG {w w':World}{o:Obj}{m:Option Nat}(h:(w.alloc o).grownBy w' m):w.grownBy w' m:=fV (bE (mJ _ _) o) h
def aMw (d:Nat)(c0:Int)(k n:Int)(ks:List Tm)(g:Nat)(w:World)(e:Ending)(w':World):Prop:=
 ∃(b:Bool) (c1:Int),e = .returned (.bool b)∧b=kQ d c0 k n ks∧(b=true→c1=c0+1+aG ks)∧0≤c1∧c1≤1000∧Blk w' g #[.int .i64 c1]∧w.grownBy w' (some g)
theorem aLe (N:Nat):∀(k n:Int) (ks:List Tm) (A:Option Addr) (c:Nat) (deep:Int) (d:Nat) (c0:Int) (g:Nat) (w:World),aG ks<N→ks.length≤9223372036854775807→1≤deep→deep+d≤31→31≤deep+d→0≤c0→c0≤900→
  Blk w g #[.int .i64 c0]→RdP (·≠g) w A 0 ks→
  Calls prog 93 #[.agg (Ro k n A ks.length c),.int .i64 deep,.pointer (some ⟨g,0,none⟩)] w (aMw d c0 k n ks g w):=by
 induction N with
 | zero=>intro k n ks A c deep d c0 g w hN;exact absurd hN (Nat.not_lt_zero _)
 | succ N ih=>
 intro k n ks A c deep d c0 g w hN hl hd1 hd2 hd3 hc1 hc2 hcb hr;have hgl:=hcb.lt;have hgc:=hcb.at_ (i:=0) rfl;have hgf:=hcb.frozen 0;by_cases h0:c0+1≤400
 ·by_cases h1:deep≤30
  ·by_cases h2:aU k=(ks.length:Int)
   ·have q2:(aU k != (ks.length:Int))=false:=by simpa using h2
    by_cases h3:0≤n∧n≤dG k
    ·have q0:decide (400<c0+1)=false:=by simp;omega
     have q1:decide (30<deep)=false:=by simp;omega
     have q3:(decide (0≤n) && decide (n≤dG k))=true:=by simp [h3.1,h3.2]
     have H:=aD (And.intro h2 h3);clear h2 h3;go_enter func93,ntmps93;go_wp2_with fail
     refine aW ?_;intro wx hwx;have hg0:w.grownBy wx (some g):=by rw [hwx];exact bE (aK (mJ _ _) (.inl rfl) _) _
     have hB:Blk wx w.heap.size (Ro k n A ks.length c):=by rw [hwx];exact aC _ _ _ (by simp)
     have hG:Blk wx g #[.int .i64 (c0+1)]:=by rw [hwx];exact (hcb.set_ 0 _).alloc _
     have hrx:RdP (·≠g) wx A 0 ks:=hr.grown hg0 (fun b hb e=>hb (by injection e));have hsx:w.heap.size<wx.heap.size:=by rw [hwx];simp
     have r0:=hB.rule (i:=0) rfl;have r1:=hB.rule (i:=1) rfl;have r2:=hB.rule (i:=2) rfl;have r3:=hG.rule (i:=0) rfl;clear hwx;refine cR (fun w'=>Bw wx w') (by kernel_rfl) (by kernel_rfl) (eR _ _).drew ?_;repeat (first|refine qS ?_|refine qO ?_|refine qB 113 (hc:=fun w' hS'=>by exact iH _ _) (h:=?_)|refine qM 114 (hc:=fun w' hS'=>by exact oN _ _) (h:=?_)|refine qM 36 (hc:=fun w' hS'=>by exact dF _ _ _ _) (h:=?_))
     refine fJ ?_;intro w2 hb2;replace hB:=hB.keep hb2;replace hG:=hG.keep hb2;replace hrx:=hrx.below hb2;replace hg0:=cZ hg0 hb2;clear r0 r1 r2 r3 hb2;obtain ⟨d,rfl⟩:∃d',d=d'+1:=⟨d - 1,by omega⟩;have hz:=aD (bF d k n ks);have c2:=hB.at_ (i:=2) rfl;go_wp2_with fail
     go_loopw [43] (fun i wr=>∃j:Nat,j≤ks.length∧i = .int .i64 j∧Hid (∀t,t∈ks.take j→shape d t=true)∧c0+1+aG (ks.take j)≤400∧Blk wr g #[.int .i64 (c0+1+aG (ks.take j))]∧w.grownBy wr (some g)) (fun i _=>ks.length - (intOf i).toNat)
     case atStart=>exact ⟨0,Nat.zero_le _,rfl,aD (by simp),by simp [aG];omega,by simpa [aG] using hG,hg0⟩
     case round=>
      obtain ⟨j,hj,rfl,hall,hle,hGr,hgr⟩:=hrel;by_cases hlt:j<ks.length
      ·obtain ⟨b,off,k1,n1,ks1,A1,c1,rfl,hkj,hc1,hc2,hc3,hl1,hr1⟩:=(hr.grown hgr (fun b hb e=>hb (by injection e))).at_ hlt;have hst:=nX ks j hlt;have hsz:=cF (iC hlt);rw [hkj] at hsz hst;simp only [Tm.size] at hsz hst
       have H3:=aD hkj;have H4:=aD hst;clear hkj hst;go_wp2_with (go_at_call 93;refine (ih k1 n1 ks1 A1 c1 (deep+1) d (c0+1+aG (ks.take j)) g _ (by omega) hl1 (by omega) (by omega) (by omega) (by omega) (by omega) (hGr.alloc _) (hr1.alloc _)).mono ?_;rintro e w3 ⟨b,cx,rfl,hbe,hcx,hx0,hx1,hG3,hg3⟩;have hbe':=aD hbe;have hcx':=aD hcx;clear hbe hcx)
       ·rename_i hbx
        cases b with
        | true=>simp at hbx
        | false=>
        go_ret
        exact ⟨false,cx,rfl,xE hlt H3.out H4.out hbe'.out,(fun h=>(by cases h)),hx0,hx1,hG3,fV hgr (oG hg3)⟩
       ·rename_i hbx
        cases b with
        | false=>simp at hbx
        | true=>
        have hcx2:=hcx'.out rfl;obtain ⟨hs1,hs2⟩:=wG hlt H3.out H4.out hbe'.out;have h4:=H4.out;refine ⟨?_,by simp [intOf];omega⟩;repeat apply Exists.intro
        refine ⟨⟨j+1,hlt,by rfl,aD (aCi hlt hall.out hs1),hs2,?_,fV hgr (oG hg3)⟩,by rw [q3];rfl⟩;rw [show c0+1+(aG (ks.take (j+1)):Int)=cx from by rw [hcx2,h4];push_cast;omega];exact hG3
      ·go_wp2_with fail
       go_ret
       have hje:j=ks.length:=by omega
       have ha:=hall.out;rw [hje,List.take_length] at ha hle hGr;exact ⟨true,_,rfl,aKb (hz.out.2 ⟨H.out.1,H.out.2.1,H.out.2.2,ha⟩) hle,(fun _=>rfl),by omega,by omega,hGr,hgr⟩
    ·have q0:decide (400<c0+1)=false:=by simp;omega
     have q1:decide (30<deep)=false:=by simp;omega
     have q3:(decide (0≤n) && decide (n≤dG k))=false:=by
      rw [Bool.and_eq_false_iff,decide_eq_false_iff_not,decide_eq_false_iff_not];omega
     have H:=aD h3;clear h2 h3;go_enter func93,ntmps93;go_wp2_with fail
     refine aW ?_;intro wx hwx;have hg0:w.grownBy wx (some g):=by rw [hwx];exact bE (aK (mJ _ _) (.inl rfl) _) _
     have hB:Blk wx w.heap.size (Ro k n A ks.length c):=by rw [hwx];exact aC _ _ _ (by simp)
     have hG:Blk wx g #[.int .i64 (c0+1)]:=by rw [hwx];exact (hcb.set_ 0 _).alloc _
     have hrx:RdP (·≠g) wx A 0 ks:=hr.grown hg0 (fun b hb e=>hb (by injection e));have hsx:w.heap.size<wx.heap.size:=by rw [hwx];simp
     have r0:=hB.rule (i:=0) rfl;have r1:=hB.rule (i:=1) rfl;have r2:=hB.rule (i:=2) rfl;have r3:=hG.rule (i:=0) rfl;clear hwx;refine cR (fun w'=>Bw wx w') (by kernel_rfl) (by kernel_rfl) (eR _ _).drew ?_;repeat (first|refine qS ?_|refine qO ?_|refine qB 113 (hc:=fun w' hS'=>by exact iH _ _) (h:=?_)|refine qM 114 (hc:=fun w' hS'=>by exact oN _ _) (h:=?_)|refine qM 36 (hc:=fun w' hS'=>by exact dF _ _ _ _) (h:=?_))
     refine fJ ?_;intro w2 hb2;replace hB:=hB.keep hb2;replace hG:=hG.keep hb2;replace hrx:=hrx.below hb2;replace hg0:=cZ hg0 hb2;clear r0 r1 r2 r3 hb2;go_wp2_with fail
     go_ret
     exact ⟨_,c0+1,rfl,uG (by have:=H.out;omega),(fun h=>(by cases h)),by omega,by omega,hG,hg0⟩
   ·have q0:decide (400<c0+1)=false:=by simp;omega
    have q1:decide (30<deep)=false:=by simp;omega
    have q2:(aU k != (ks.length:Int))=true:=by simpa using h2
    have H:=aD h2;clear h2;go_enter func93,ntmps93;go_wp2_with fail
    refine aW ?_;intro wx hwx;have hg0:w.grownBy wx (some g):=by rw [hwx];exact bE (aK (mJ _ _) (.inl rfl) _) _
    have hB:Blk wx w.heap.size (Ro k n A ks.length c):=by rw [hwx];exact aC _ _ _ (by simp)
    have hG:Blk wx g #[.int .i64 (c0+1)]:=by rw [hwx];exact (hcb.set_ 0 _).alloc _
    have hrx:RdP (·≠g) wx A 0 ks:=hr.grown hg0 (fun b hb e=>hb (by injection e));have hsx:w.heap.size<wx.heap.size:=by rw [hwx];simp
    have r0:=hB.rule (i:=0) rfl;have r1:=hB.rule (i:=1) rfl;have r2:=hB.rule (i:=2) rfl;have r3:=hG.rule (i:=0) rfl;clear hwx;refine cR (fun w'=>Bw wx w') (by kernel_rfl) (by kernel_rfl) (eR _ _).drew ?_;repeat (first|refine qS ?_|refine qO ?_|refine qB 113 (hc:=fun w' hS'=>by exact iH _ _) (h:=?_)|refine qM 114 (hc:=fun w' hS'=>by exact oN _ _) (h:=?_)|refine qM 36 (hc:=fun w' hS'=>by exact dF _ _ _ _) (h:=?_))
    refine fJ ?_;intro w2 hb2;replace hB:=hB.keep hb2;replace hG:=hG.keep hb2;replace hrx:=hrx.below hb2;replace hg0:=cZ hg0 hb2;clear r0 r1 r2 r3 hb2;go_wp2_with fail
    go_ret
    exact ⟨_,c0+1,rfl,uG (by have:=H.out;omega),(fun h=>(by cases h)),by omega,by omega,hG,hg0⟩
  ·have q0:decide (400<c0+1)=false:=by simp;omega
   have q1:decide (30<deep)=true:=by simp;omega
   have H:=aD h1;go_enter func93,ntmps93;go_wp2_with fail
   refine aW ?_;intro wx hwx;have hg0:w.grownBy wx (some g):=by rw [hwx];exact bE (aK (mJ _ _) (.inl rfl) _) _
   have hB:Blk wx w.heap.size (Ro k n A ks.length c):=by rw [hwx];exact aC _ _ _ (by simp)
   have hG:Blk wx g #[.int .i64 (c0+1)]:=by rw [hwx];exact (hcb.set_ 0 _).alloc _
   have hrx:RdP (·≠g) wx A 0 ks:=hr.grown hg0 (fun b hb e=>hb (by injection e));have hsx:w.heap.size<wx.heap.size:=by rw [hwx];simp
   have r0:=hB.rule (i:=0) rfl;have r1:=hB.rule (i:=1) rfl;have r2:=hB.rule (i:=2) rfl;have r3:=hG.rule (i:=0) rfl;clear hwx;refine cR (fun w'=>Bw wx w') (by kernel_rfl) (by kernel_rfl) (eR _ _).drew ?_;repeat (first|refine qS ?_|refine qO ?_|refine qB 113 (hc:=fun w' hS'=>by exact iH _ _) (h:=?_)|refine qM 114 (hc:=fun w' hS'=>by exact oN _ _) (h:=?_)|refine qM 36 (hc:=fun w' hS'=>by exact dF _ _ _ _) (h:=?_))
   refine fJ ?_;intro w2 hb2;replace hB:=hB.keep hb2;replace hG:=hG.keep hb2;replace hrx:=hrx.below hb2;replace hg0:=cZ hg0 hb2;clear r0 r1 r2 r3 hb2;go_wp2_with fail
   go_ret
   exact ⟨_,c0+1,rfl,uG (by have:=H.out;omega),(fun h=>(by cases h)),by omega,by omega,hG,hg0⟩
 ·have q0:decide (400<c0+1)=true:=by simp;omega
  have H:=aD h0;go_enter func93,ntmps93;go_wp2_with fail
  refine aW ?_;intro wx hwx;have hg0:w.grownBy wx (some g):=by rw [hwx];exact bE (aK (mJ _ _) (.inl rfl) _) _
  have hB:Blk wx w.heap.size (Ro k n A ks.length c):=by rw [hwx];exact aC _ _ _ (by simp)
  have hG:Blk wx g #[.int .i64 (c0+1)]:=by rw [hwx];exact (hcb.set_ 0 _).alloc _
  have hrx:RdP (·≠g) wx A 0 ks:=hr.grown hg0 (fun b hb e=>hb (by injection e));have hsx:w.heap.size<wx.heap.size:=by rw [hwx];simp
  have r0:=hB.rule (i:=0) rfl;have r1:=hB.rule (i:=1) rfl;have r2:=hB.rule (i:=2) rfl;have r3:=hG.rule (i:=0) rfl;clear hwx;refine cR (fun w'=>Bw wx w') (by kernel_rfl) (by kernel_rfl) (eR _ _).drew ?_;repeat (first|refine qS ?_|refine qO ?_|refine qB 113 (hc:=fun w' hS'=>by exact iH _ _) (h:=?_)|refine qM 114 (hc:=fun w' hS'=>by exact oN _ _) (h:=?_)|refine qM 36 (hc:=fun w' hS'=>by exact dF _ _ _ _) (h:=?_))
  refine fJ ?_;intro w2 hb2;replace hB:=hB.keep hb2;replace hG:=hG.keep hb2;replace hrx:=hrx.below hb2;replace hg0:=cZ hg0 hb2;clear r0 r1 r2 r3 hb2;go_wp2_with fail
  go_ret
  exact ⟨_,c0+1,rfl,uG (by have:=H.out;omega),(fun h=>(by cases h)),by omega,by omega,hG,hg0⟩
end Go.Proofs.YtjlaenhcemacdaaGreat
