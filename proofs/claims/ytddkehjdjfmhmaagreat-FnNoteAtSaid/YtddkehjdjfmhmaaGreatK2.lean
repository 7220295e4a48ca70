/- Parts of the proof. No condition. -/
import Derived.Test.YtddkehjdjfmhmaaGreatK1
open Go.Proofs.Tryz
namespace Go.Proofs.YtddkehjdjfmhmaaGreat
open Go.RowKit
set_option maxHeartbeats 1000000
set_option maxRecDepth 100000
set_option linter.unusedSimpArgs false
set_option linter.unusedVariables false
def shape:Nat→Tm→Bool
 | 0,_=>false
 | d+1,.mk k n ks=>aW k==(ks.length:Int) && decide (0≤n) && decide (n≤eX k) && ks.all (shape d)
theorem bD (d:Nat)(k n:Int)(ks:List Tm):shape (d+1) (.mk k n ks)=true↔aW k=(ks.length:Int)∧0≤n∧n≤eX k∧∀t,t∈ks→shape d t=true:=by
 simp only [shape,Bool.and_eq_true,beq_iff_eq,decide_eq_true_eq,List.all_eq_true,and_assoc]
theorem vF (d:Nat)(k n:Int)(ks:List Tm)(h:¬(aW k=(ks.length:Int)∧0≤n∧n≤eX k)):shape (d+1) (.mk k n ks)=false:=by
 cases e:shape (d+1) (.mk k n ks) with
 | false=>rfl
 | true=>have:=(bD d k n ks).1 e;exact absurd ⟨this.1,this.2.1,this.2.2.1⟩ h
theorem sP (d:Nat):∀(k n:Int) (ks:List Tm) (A:Option Addr) (c:Nat) (w:World),d≤1000→ks.length≤9223372036854775807→Rd w A 0 ks→
  Calls prog 74 #[.agg (Ro k n A ks.length c),.int .i64 d] w fun e w'=>e = .returned (.bool (shape d (.mk k n ks)))∧Bw w w':=by
 induction d with
 | zero=>
  intro k n ks A c w hd hl hr;go_enter func74,ntmps74;go_wp2_with fail
  refine aUz bw1 ?_;intro wx hb0;refine bX (fun w'=>Bw wx w') (by kernel_rfl) (by kernel_rfl) (dV _ _).drew ?_;repeat (first|refine qS ?_|refine qO ?_)
  refine dR ?_;intro w2 hb2;go_wp2_with fail
  go_ret
  exact ⟨rfl,hb0.trans (hb2.mono hb0.size)⟩
 | succ d ih=>
  intro k n ks A c w hd hl hr;have hz:=aD (bD d k n ks);rw [show ((d+1:Nat):Int)=(d:Int)+1 from by omega];have q0:decide ((d:Int)+1<1)=false:=by simp;omega
  by_cases h1:aW k=(ks.length:Int)
  ·have q1:(aW k != (ks.length:Int))=false:=by simpa using h1
   by_cases h2:0≤n
   ·by_cases h3:n≤eX k
    ·have H:=aD (And.intro h1 (And.intro h2 h3));have q2:decide (n<0)=false:=by simp;omega
     have q3:decide (eX k<n)=false:=by simp;omega
     clear h1;go_enter func74,ntmps74;go_wp2_with fail
     refine aT ?_;intro wx hwx;have hb0:Bw w wx:=by rw [hwx];exact bw1
     have hB:Blk wx w.heap.size (Ro k n A ks.length c):=by rw [hwx];exact Blk.new _ _ _
     have hrx:Rd wx A 0 ks:=by rw [hwx];exact hr.alloc _
     have r0:=hB.rule (i:=0) rfl;have r1:=hB.rule (i:=1) rfl;have r2:=hB.rule (i:=2) rfl;clear hwx;refine bX (fun w'=>Bw wx w') (by kernel_rfl) (by kernel_rfl) (dV _ _).drew ?_;repeat (first|refine qS ?_|refine qO ?_|refine qM 107 (hc:=fun w' hS'=>by exact fP _ _) (h:=?_)|refine qM 108 (hc:=fun w' hS'=>by exact mS _ _) (h:=?_))
     refine dR ?_;intro w2 hb2;replace hB:=hB.keep hb2;replace hrx:=hrx.below hb2;replace hb0:=hb0.trans (hb2.mono hb0.size);clear r0 r1 r2 hb2;go_wp2_with fail
     go_loopw [5] (fun i wr=>∃j:Nat,j≤ks.length∧i = .int .i64 j∧Hid (∀t,t∈ks.take j→shape d t=true)∧Bw w2 wr) (fun i _=>ks.length - (intOf i).toNat)
     case atStart=>exact ⟨0,Nat.zero_le _,rfl,aD (by simp),dV _ _⟩
     case round=>
      obtain ⟨j,hj,rfl,hall,hb⟩:=hrel;replace hB:=hB.keep hb;have c2:=hB.at_ (i:=2) rfl;by_cases hlt:j<ks.length
      ·obtain ⟨b,off,k1,n1,ks1,A1,c1,rfl,hkj,hc1,hc2,hc3,hl1,hr1⟩:=(hrx.below hb).at_ hlt;have H3:=aD hkj;clear hkj;go_wp2_with (go_at_call 74;refine (ih k1 n1 ks1 A1 c1 _ (by omega) hl1 hr1).mono ?_;rintro e w3 ⟨rfl,hb3⟩)
       ·go_ret
        have hne:(!shape d (.mk k1 n1 ks1))=true:=by assumption
        refine ⟨eK ?_,hb0.trans ((hb.trans (hb3.mono hb.size)).mono hb0.size)⟩;cases e:shape (d+1) (.mk k n ks) with
        | false=>rfl
        | true=>
         have:=(hz.out.1 e).2.2.2 ks[j] (fG hlt);rw [H3.out] at this;rw [this] at hne;cases hne
       ·have hne:(!shape d (.mk k1 n1 ks1))=false:=by assumption
        go_roundw
        case rel=>
         refine ⟨j+1,by omega,by go_num,aD ?_,hb.trans (hb3.mono hb.size)⟩;rw [oR hlt,H3.out];intro t ht;rcases List.mem_append.1 ht with ht|ht
         ·exact hall.out t ht
         ·simp only [List.mem_singleton] at ht
          subst ht;simpa using hne
        case measure=>simp [intOf];omega
      ·go_wp2_with fail
       go_ret
       have hjl:j=ks.length:=by omega
       have hall':=hall.out;rw [hjl,List.take_length] at hall';exact ⟨eK (hz.out.2 ⟨H.out.1,H.out.2.1,H.out.2.2,hall'⟩).symm,hb0.trans (hb.mono hb0.size)⟩
    ·have H:=aD h3;have q2:decide (n<0)=false:=by simp;omega
     have q3:decide (eX k<n)=true:=by simp;omega
     clear h1;go_enter func74,ntmps74;go_wp2_with fail
     refine aT ?_;intro wx hwx;have hb0:Bw w wx:=by rw [hwx];exact bw1
     have hB:Blk wx w.heap.size (Ro k n A ks.length c):=by rw [hwx];exact Blk.new _ _ _
     have hrx:Rd wx A 0 ks:=by rw [hwx];exact hr.alloc _
     have r0:=hB.rule (i:=0) rfl;have r1:=hB.rule (i:=1) rfl;have r2:=hB.rule (i:=2) rfl;clear hwx;refine bX (fun w'=>Bw wx w') (by kernel_rfl) (by kernel_rfl) (dV _ _).drew ?_;repeat (first|refine qS ?_|refine qO ?_|refine qM 107 (hc:=fun w' hS'=>by exact fP _ _) (h:=?_)|refine qM 108 (hc:=fun w' hS'=>by exact mS _ _) (h:=?_))
     refine dR ?_;intro w2 hb2;replace hB:=hB.keep hb2;replace hrx:=hrx.below hb2;replace hb0:=hb0.trans (hb2.mono hb0.size);clear r0 r1 r2 hb2;go_wp2_with fail
     go_ret
     exact ⟨eK (vF _ _ _ _ (by have:=H.out;omega)).symm,hb0⟩
   ·have H:=aD h2;have q2:decide (n<0)=true:=by simp;omega
    clear h1;go_enter func74,ntmps74;go_wp2_with fail
    refine aT ?_;intro wx hwx;have hb0:Bw w wx:=by rw [hwx];exact bw1
    have hB:Blk wx w.heap.size (Ro k n A ks.length c):=by rw [hwx];exact Blk.new _ _ _
    have hrx:Rd wx A 0 ks:=by rw [hwx];exact hr.alloc _
    have r0:=hB.rule (i:=0) rfl;have r1:=hB.rule (i:=1) rfl;have r2:=hB.rule (i:=2) rfl;clear hwx;refine bX (fun w'=>Bw wx w') (by kernel_rfl) (by kernel_rfl) (dV _ _).drew ?_;repeat (first|refine qS ?_|refine qO ?_|refine qM 107 (hc:=fun w' hS'=>by exact fP _ _) (h:=?_)|refine qM 108 (hc:=fun w' hS'=>by exact mS _ _) (h:=?_))
    refine dR ?_;intro w2 hb2;replace hB:=hB.keep hb2;replace hrx:=hrx.below hb2;replace hb0:=hb0.trans (hb2.mono hb0.size);clear r0 r1 r2 hb2;go_wp2_with fail
    go_ret
    exact ⟨eK (vF _ _ _ _ (by have:=H.out;omega)).symm,hb0⟩
  ·have q1:(aW k != (ks.length:Int))=true:=by simpa using h1
   have H:=aD h1;clear h1;go_enter func74,ntmps74;go_wp2_with fail
   refine aT ?_;intro wx hwx;have hb0:Bw w wx:=by rw [hwx];exact bw1
   have hB:Blk wx w.heap.size (Ro k n A ks.length c):=by rw [hwx];exact Blk.new _ _ _
   have hrx:Rd wx A 0 ks:=by rw [hwx];exact hr.alloc _
   have r0:=hB.rule (i:=0) rfl;have r1:=hB.rule (i:=1) rfl;have r2:=hB.rule (i:=2) rfl;clear hwx;refine bX (fun w'=>Bw wx w') (by kernel_rfl) (by kernel_rfl) (dV _ _).drew ?_;repeat (first|refine qS ?_|refine qO ?_|refine qM 107 (hc:=fun w' hS'=>by exact fP _ _) (h:=?_)|refine qM 108 (hc:=fun w' hS'=>by exact mS _ _) (h:=?_))
   refine dR ?_;intro w2 hb2;replace hB:=hB.keep hb2;replace hrx:=hrx.below hb2;replace hb0:=hb0.trans (hb2.mono hb0.size);clear r0 r1 r2 hb2;go_wp2_with fail
   go_ret
   exact ⟨eK (vF _ _ _ _ (by have:=H.out;omega)).symm,hb0⟩
end Go.Proofs.YtddkehjdjfmhmaaGreat
