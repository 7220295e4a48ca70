/- Parts of the proof. No condition. -/
import Derived.Test.YtjlaenhcemacdaaGreatK1
open Go.Proofs.Tryz
namespace Go.Proofs.YtjlaenhcemacdaaGreat
open Go.RowKit
set_option maxHeartbeats 2000000
set_option maxRecDepth 100000
set_option linter.unusedSimpArgs false
set_option linter.unusedVariables false
def lY (d:Nat)(c0:Int)(k n:Int)(ks:List Tm):Bool:=shape d (.mk k n ks) && decide (c0+1+aG ks<=400)
theorem vV {d:Nat}{c0 k n:Int}{ks:List Tm}(h:¬(0<d/\aX k=(ks.length:Int)/\0<=n/\n<=dL k/\c0+1<=400)):false=lY d c0 k n ks:=by
 cases e:lY d c0 k n ks with
 | false=>rfl
 | true=>
  simp only [lY,Bool.and_eq_true,decide_eq_true_eq] at e;cases d with
  | zero=>simp [shape] at e
  | succ d=>
   have:=(bH d k n ks).1 e.1;exact absurd ⟨by omega,this.1,this.2.1,this.2.2.1,by omega⟩ h
theorem aPd {d:Nat}{c0 k n:Int}{ks:List Tm}(h:shape d (.mk k n ks)=true)(h2:c0+1+(aG ks:Int)<=400):true=lY d c0 k n ks:=by
 simp only [lY,h,decide_eq_true h2,Bool.and_self]
theorem xN {d:Nat}{c0 k1 n1:Int}{ks ks1:List Tm}{j:Nat}(hj:j<ks.length)(hk:ks[j] = .mk k1 n1 ks1)(hst:aG (ks.take (j+1))=aG (ks.take j)+(aG ks1+1))
  (hb : true = lY d (c0 + 1 + (aG (ks.take j) : Int)) k1 n1 ks1) : shape d ks[j] = true /\ c0 + 1 + (aG (ks.take (j + 1)) : Int) <= 400 := by
 simp only [lY] at hb;have hb:=hb.symm;rw [Bool.and_eq_true,decide_eq_true_eq] at hb;rw [hk];refine ⟨hb.1,?_⟩;have:=hb.2;rw [hst];push_cast;omega
theorem yV {d:Nat}{c0 k n k1 n1:Int}{ks ks1:List Tm}{j:Nat}(hj:j<ks.length)(hk:ks[j] = .mk k1 n1 ks1)(hst:aG (ks.take (j+1))=aG (ks.take j)+(aG ks1+1))
  (hb : false = lY d (c0 + 1 + (aG (ks.take j) : Int)) k1 n1 ks1) : false = lY (d + 1) c0 k n ks := by
 cases e:lY (d+1) c0 k n ks with
 | false=>rfl
 | true=>
  simp only [lY,Bool.and_eq_true,decide_eq_true_eq] at e;have h1:=(bH d k n ks).1 e.1;have h2:=h1.2.2.2 _ (gM hj);have h3:=eP ks (j+1);rw [hk] at h2;simp only [lY,h2,Bool.true_and] at hb;have:=of_decide_eq_false hb.symm;omega
theorem aEr {ks:List Tm}{j:Nat}{p:Tm->Prop}(hj:j<ks.length)(h:∀t,t∈ks.take j->p t)(h1:p ks[j]):∀t,t∈ks.take (j+1)->p t:=by
 intro t ht;rw [tM hj,List.mem_append] at ht;rcases ht with ht|ht
 ·exact h t ht
 ·simp at ht;rw [ht];exact h1
theorem pD {w w':Bb}{o:Obj}{m:Option Nat}(h:(w.alloc o).grownBy w' m):w.grownBy w' m:=gJ (bG (nE _ _) o) h
def aOb (d:Nat)(c0:Int)(k n:Int)(ks:List Tm)(g:Nat)(w:Bb)(e:Ending)(w':Bb):Prop:=
 ∃(b:Bool) (c1:Int),e = .returned (.bool b)/\b=lY d c0 k n ks/\(b=true->c1=c0+1+aG ks)/\0<=c1/\c1<=1000/\Blk w' g #[.int .i64 c1]/\w.grownBy w' (some g)
theorem aPq (N:Nat):∀(k n:Int) (ks:List Tm) (A:Ba) (c:Nat) (deep:Int) (d:Nat) (c0:Int) (g:Nat) (w:Bb),aG ks<N->ks.length<=9223372036854775807->1<=deep->deep+d<=31->31<=deep+d->0<=c0->c0<=900->
  Blk w g #[.int .i64 c0]->RdP (·≠g) w A 0 ks->
  Calls prog 93 #[.agg (Ro k n A ks.length c),.int .i64 deep,.pointer (some ⟨g,0,none⟩)] w (aOb d c0 k n ks g w):=by
 induction N with
 | zero=>intro k n ks A c deep d c0 g w hN;exact absurd hN (Nat.not_lt_zero _)
 | succ N ih=>
 intro k n ks A c deep d c0 g w hN hl hd1 hd2 hd3 hc1 hc2 hcb hr;have hgl:=hcb.lt;have hgc:=hcb.at_ (i:=0) rfl;have hgf:=hcb.frozen 0;by_cases h0:c0+1<=400
 ·by_cases h1:deep<=30
  ·by_cases h2:aX k=(ks.length:Int)
   ·have q2:(aX k != (ks.length:Int))=false:=by simpa using h2
    by_cases h3:0<=n/\n<=dL k
    ·have q0:decide (400<c0+1)=false:=by simp;omega
     have q1:decide (30<deep)=false:=by simp;omega
     have q3:(decide (0<=n) && decide (n<=dL k))=true:=by simp [h3.1,h3.2]
     have H:=aD (And.intro h2 h3);clear h2 h3;go_enter func93,ntmps93;go_wp2_with fail;refine aU ?_;intro wx hwx;have hg0:w.grownBy wx (some g):=by rw [hwx];exact bG (aK (nE _ _) (.inl rfl) _) _
     have hB:Blk wx w.heap.size (Ro k n A ks.length c):=by rw [hwx];exact aC _ _ _ Ag
     have hG:Blk wx g #[.int .i64 (c0+1)]:=by rw [hwx];exact (hcb.set_ 0 _).alloc _
     have hrx:RdP (·≠g) wx A 0 ks:=hr.grown hg0 (λb hb e=>hb (by injection e));have hsx:w.heap.size<wx.heap.size:=by rw [hwx];simp
     have r0:=hB.rule (i:=0) rfl;have r1:=hB.rule (i:=1) rfl;have r2:=hB.rule (i:=2) rfl;have r3:=hG.rule (i:=0) rfl;clear hwx;refine cW (λw'=>Bw wx w') (by kernel_rfl) (by kernel_rfl) (eI _ _).drew ?_;repeat (first|refine qS ?_|refine qO ?_|refine qB 113 (hc:=λw' hS'=>by exact jA _ _) (h:=?_)|refine qM 114 (hc:=λw' hS'=>by exact pX _ _) (h:=?_)|refine qM 36 (hc:=λw' hS'=>by exact dM _ _ _ _) (h:=?_))
     refine fT ?_;intro w2 hb2;replace hB:=hB.keep hb2;replace hG:=hG.keep hb2;replace hrx:=hrx.below hb2;replace hg0:=dC hg0 hb2;clear r0 r1 r2 r3 hb2;obtain ⟨d,rfl⟩:∃d',d=d'+1:=⟨d - 1,by omega⟩;have hz:=aD (bH d k n ks);have c2:=hB.at_ (i:=2) rfl;go_wp2_with fail;go_loopw [43] (λi wr=>∃j:Nat,j<=ks.length/\i = .int .i64 j/\Hid (∀t,t∈ks.take j->shape d t=true)/\c0+1+aG (ks.take j)<=400/\Blk wr g #[.int .i64 (c0+1+aG (ks.take j))]/\w.grownBy wr (some g)) (λi _=>ks.length - (intOf i).toNat)
     case atStart=>exact ⟨0,Nat.zero_le _,rfl,aD Ag,by simp [aG];omega,by simpa [aG] using hG,hg0⟩
     case round=>
      obtain ⟨j,hj,rfl,hall,hle,hGr,hgr⟩:=hrel;by_cases hlt:j<ks.length
      ·obtain ⟨b,off,k1,n1,ks1,A1,c1,rfl,hkj,hc1,hc2,hc3,hl1,hr1⟩:=(hr.grown hgr (λb hb e=>hb (by injection e))).at_ hlt;have hst:=lO ks j hlt;have hsz:=cG (gM hlt);rw [hkj] at hsz hst;simp only [Tm.size] at hsz hst;have H3:=aD hkj;have H4:=aD hst;clear hkj hst;go_wp2_with (go_at_call 93;refine (ih k1 n1 ks1 A1 c1 (deep+1) d (c0+1+aG (ks.take j)) g _ Ac hl1 Ac Ac Ac Ac Ac (hGr.alloc _) (hr1.alloc _)).mono ?_;rintro e w3 ⟨b,cx,rfl,hbe,hcx,hx0,hx1,hG3,hg3⟩;have hbe':=aD hbe;have hcx':=aD hcx;clear hbe hcx)
       ·rename_i hbx;cases b with
        | true=>simp at hbx
        | false=>
        go_ret;exact ⟨false,cx,rfl,yV hlt H3.out H4.out hbe'.out,(λh=>(by cases h)),hx0,hx1,hG3,gJ hgr (pD hg3)⟩
       ·rename_i hbx;cases b with
        | false=>simp at hbx
        | true=>
        have hcx2:=hcx'.out rfl;obtain ⟨hs1,hs2⟩:=xN hlt H3.out H4.out hbe'.out;have h4:=H4.out;refine ⟨?_,by simp [intOf];omega⟩;repeat apply Exists.intro
        refine ⟨⟨j+1,hlt,by rfl,aD (aEr hlt hall.out hs1),hs2,?_,gJ hgr (pD hg3)⟩,by rw [q3];rfl⟩;rw [show c0+1+(aG (ks.take (j+1)):Int)=cx from by rw [hcx2,h4];push_cast;omega];exact hG3
      ·go_wp2_with fail;go_ret;have hje:j=ks.length:=by omega
       have ha:=hall.out;rw [hje,List.take_length] at ha hle hGr;exact ⟨true,_,rfl,aPd (hz.out.2 ⟨H.out.1,H.out.2.1,H.out.2.2,ha⟩) hle,(λ_=>rfl),by omega,by omega,hGr,hgr⟩
    ·have q0:decide (400<c0+1)=false:=by simp;omega
     have q1:decide (30<deep)=false:=by simp;omega
     have q3:(decide (0<=n) && decide (n<=dL k))=false:=by
      rw [Bool.and_eq_false_iff,decide_eq_false_iff_not,decide_eq_false_iff_not];omega
     have H:=aD h3;clear h2 h3;go_enter func93,ntmps93;go_wp2_with fail;refine aU ?_;intro wx hwx;have hg0:w.grownBy wx (some g):=by rw [hwx];exact bG (aK (nE _ _) (.inl rfl) _) _
     have hB:Blk wx w.heap.size (Ro k n A ks.length c):=by rw [hwx];exact aC _ _ _ Ag
     have hG:Blk wx g #[.int .i64 (c0+1)]:=by rw [hwx];exact (hcb.set_ 0 _).alloc _
     have hrx:RdP (·≠g) wx A 0 ks:=hr.grown hg0 (λb hb e=>hb (by injection e));have hsx:w.heap.size<wx.heap.size:=by rw [hwx];simp
     have r0:=hB.rule (i:=0) rfl;have r1:=hB.rule (i:=1) rfl;have r2:=hB.rule (i:=2) rfl;have r3:=hG.rule (i:=0) rfl;clear hwx;refine cW (λw'=>Bw wx w') (by kernel_rfl) (by kernel_rfl) (eI _ _).drew ?_;repeat (first|refine qS ?_|refine qO ?_|refine qB 113 (hc:=λw' hS'=>by exact jA _ _) (h:=?_)|refine qM 114 (hc:=λw' hS'=>by exact pX _ _) (h:=?_)|refine qM 36 (hc:=λw' hS'=>by exact dM _ _ _ _) (h:=?_))
     refine fT ?_;intro w2 hb2;replace hB:=hB.keep hb2;replace hG:=hG.keep hb2;replace hrx:=hrx.below hb2;replace hg0:=dC hg0 hb2;clear r0 r1 r2 r3 hb2;go_wp2_with fail;go_ret;exact ⟨_,c0+1,rfl,vV (by have:=H.out;omega),(λh=>(by cases h)),by omega,by omega,hG,hg0⟩
   ·have q0:decide (400<c0+1)=false:=by simp;omega
    have q1:decide (30<deep)=false:=by simp;omega
    have q2:(aX k != (ks.length:Int))=true:=by simpa using h2
    have H:=aD h2;clear h2;go_enter func93,ntmps93;go_wp2_with fail;refine aU ?_;intro wx hwx;have hg0:w.grownBy wx (some g):=by rw [hwx];exact bG (aK (nE _ _) (.inl rfl) _) _
    have hB:Blk wx w.heap.size (Ro k n A ks.length c):=by rw [hwx];exact aC _ _ _ Ag
    have hG:Blk wx g #[.int .i64 (c0+1)]:=by rw [hwx];exact (hcb.set_ 0 _).alloc _
    have hrx:RdP (·≠g) wx A 0 ks:=hr.grown hg0 (λb hb e=>hb (by injection e));have hsx:w.heap.size<wx.heap.size:=by rw [hwx];simp
    have r0:=hB.rule (i:=0) rfl;have r1:=hB.rule (i:=1) rfl;have r2:=hB.rule (i:=2) rfl;have r3:=hG.rule (i:=0) rfl;clear hwx;refine cW (λw'=>Bw wx w') (by kernel_rfl) (by kernel_rfl) (eI _ _).drew ?_;repeat (first|refine qS ?_|refine qO ?_|refine qB 113 (hc:=λw' hS'=>by exact jA _ _) (h:=?_)|refine qM 114 (hc:=λw' hS'=>by exact pX _ _) (h:=?_)|refine qM 36 (hc:=λw' hS'=>by exact dM _ _ _ _) (h:=?_))
    refine fT ?_;intro w2 hb2;replace hB:=hB.keep hb2;replace hG:=hG.keep hb2;replace hrx:=hrx.below hb2;replace hg0:=dC hg0 hb2;clear r0 r1 r2 r3 hb2;go_wp2_with fail;go_ret;exact ⟨_,c0+1,rfl,vV (by have:=H.out;omega),(λh=>(by cases h)),by omega,by omega,hG,hg0⟩
  ·have q0:decide (400<c0+1)=false:=by simp;omega
   have q1:decide (30<deep)=true:=by simp;omega
   have H:=aD h1;go_enter func93,ntmps93;go_wp2_with fail;refine aU ?_;intro wx hwx;have hg0:w.grownBy wx (some g):=by rw [hwx];exact bG (aK (nE _ _) (.inl rfl) _) _
   have hB:Blk wx w.heap.size (Ro k n A ks.length c):=by rw [hwx];exact aC _ _ _ Ag
   have hG:Blk wx g #[.int .i64 (c0+1)]:=by rw [hwx];exact (hcb.set_ 0 _).alloc _
   have hrx:RdP (·≠g) wx A 0 ks:=hr.grown hg0 (λb hb e=>hb (by injection e));have hsx:w.heap.size<wx.heap.size:=by rw [hwx];simp
   have r0:=hB.rule (i:=0) rfl;have r1:=hB.rule (i:=1) rfl;have r2:=hB.rule (i:=2) rfl;have r3:=hG.rule (i:=0) rfl;clear hwx;refine cW (λw'=>Bw wx w') (by kernel_rfl) (by kernel_rfl) (eI _ _).drew ?_;repeat (first|refine qS ?_|refine qO ?_|refine qB 113 (hc:=λw' hS'=>by exact jA _ _) (h:=?_)|refine qM 114 (hc:=λw' hS'=>by exact pX _ _) (h:=?_)|refine qM 36 (hc:=λw' hS'=>by exact dM _ _ _ _) (h:=?_))
   refine fT ?_;intro w2 hb2;replace hB:=hB.keep hb2;replace hG:=hG.keep hb2;replace hrx:=hrx.below hb2;replace hg0:=dC hg0 hb2;clear r0 r1 r2 r3 hb2;go_wp2_with fail;go_ret;exact ⟨_,c0+1,rfl,vV (by have:=H.out;omega),(λh=>(by cases h)),by omega,by omega,hG,hg0⟩
 ·have q0:decide (400<c0+1)=true:=by simp;omega
  have H:=aD h0;go_enter func93,ntmps93;go_wp2_with fail;refine aU ?_;intro wx hwx;have hg0:w.grownBy wx (some g):=by rw [hwx];exact bG (aK (nE _ _) (.inl rfl) _) _
  have hB:Blk wx w.heap.size (Ro k n A ks.length c):=by rw [hwx];exact aC _ _ _ Ag
  have hG:Blk wx g #[.int .i64 (c0+1)]:=by rw [hwx];exact (hcb.set_ 0 _).alloc _
  have hrx:RdP (·≠g) wx A 0 ks:=hr.grown hg0 (λb hb e=>hb (by injection e));have hsx:w.heap.size<wx.heap.size:=by rw [hwx];simp
  have r0:=hB.rule (i:=0) rfl;have r1:=hB.rule (i:=1) rfl;have r2:=hB.rule (i:=2) rfl;have r3:=hG.rule (i:=0) rfl;clear hwx;refine cW (λw'=>Bw wx w') (by kernel_rfl) (by kernel_rfl) (eI _ _).drew ?_;repeat (first|refine qS ?_|refine qO ?_|refine qB 113 (hc:=λw' hS'=>by exact jA _ _) (h:=?_)|refine qM 114 (hc:=λw' hS'=>by exact pX _ _) (h:=?_)|refine qM 36 (hc:=λw' hS'=>by exact dM _ _ _ _) (h:=?_))
  refine fT ?_;intro w2 hb2;replace hB:=hB.keep hb2;replace hG:=hG.keep hb2;replace hrx:=hrx.below hb2;replace hg0:=dC hg0 hb2;clear r0 r1 r2 r3 hb2;go_wp2_with fail;go_ret;exact ⟨_,c0+1,rfl,vV (by have:=H.out;omega),(λh=>(by cases h)),by omega,by omega,hG,hg0⟩
end Go.Proofs.YtjlaenhcemacdaaGreat
