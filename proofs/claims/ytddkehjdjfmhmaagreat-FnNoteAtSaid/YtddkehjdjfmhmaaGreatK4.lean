/- Parts of the proof. No condition. -/
import Derived.Test.YtddkehjdjfmhmaaGreatK2
import Derived.Test.YtddkehjdjfmhmaaGreatK3
open Go.Proofs.Tryz
namespace Go.Proofs.YtddkehjdjfmhmaaGreat
open Go.RowKit
set_option maxHeartbeats 2000000
set_option maxRecDepth 100000
set_option linter.unusedSimpArgs false
set_option linter.unusedVariables false
def aQa (m:Nat)(most r:Int):Prop:=1≤r∧r≤m∧(r=m∨most<r)
def aGb (m:Nat)(most:Int)(w:World)(e:Ending)(w':World):Prop:=∃r:Int,e = .returned (.int .i64 r)∧aQa m most r∧Bw w w'
theorem gN (ks:List Tm)(j:Nat)(hj:j<ks.length):aG (ks.take (j+1))=aG (ks.take j)+ks[j].size:=by
 rw [oR hj,jS];simp [aG]
theorem dB (ks:List Tm)(j:Nat):aG (ks.take j)≤aG ks:=by
 have:=jS (ks.take j) (ks.drop j);rw [List.take_append_drop] at this;omega
theorem sQ (N:Nat):∀(k n:Int) (ks:List Tm) (A:Option Addr) (c:Nat) (most:Int) (w:World),aG ks<N→aG ks≤1099511627776→-1099511627776≤most→most≤1099511627776→Rd w A 0 ks→
  Calls prog 59 #[.agg (Ro k n A ks.length c),.int .i64 most] w (aGb (aG ks+1) most w):=by
 induction N with
 | zero=>intro k n ks A c most w hN;exact absurd hN (Nat.not_lt_zero _)
 | succ N ih=>
 intro k n ks A c most w hN hM hlo hhi hr;have hlen:=aJ ks;go_enter func59,ntmps59;go_wp2_with fail
 go_loopw [5,6] (fun a i wr=>∃(j:Nat) (acc:Int),j≤ks.length∧i = .int .i64 j∧a = .int .i64 acc∧1≤acc∧acc≤1+aG (ks.take j)∧Hid (acc=1+aG (ks.take j)∨most<acc)∧Blk wr w.heap.size (Ro k n A ks.length c)∧Bw w wr)
  (fun _ i _ => ks.length - (intOf i).toNat)
 case atStart=>exact ⟨0,1,Nat.zero_le _,rfl,rfl,by omega,by simp [aG],aD (by simp [aG]),Blk.new _ _ _,bw1⟩
 case round=>
  obtain ⟨j,acc,hj,rfl,rfl,ha1,ha2,ha3,hB,hb⟩:=hrel;have c2:=hB.at_ (i:=2) rfl;have hsl:=dB ks j;by_cases hlt:j<ks.length
  ·by_cases hm:acc≤most
   ·obtain ⟨b,off,k1,n1,ks1,A1,c1,rfl,hkj,hc1,hc2,hc3,hl1,hr1⟩:=(hr.below hb).at_ hlt;have hst:=gN ks j hlt;have hsz:=bY (fG hlt);rw [hkj] at hsz hst;simp only [Tm.size] at hsz hst
    have H3:=aD hst;clear hkj hst;go_wp2_with (go_at_call 59;refine (ih k1 n1 ks1 A1 c1 _ _ (by omega) (by omega) (by omega) (by omega) hr1).mono ?_;rintro e w3 ⟨r,rfl,⟨hr1,hr2,hr3⟩,hb3⟩;have hr3':=aD hr3;clear hr3)
    go_roundw
    case rel=>
     refine ⟨j+1,acc+r,by omega,by go_num,rfl,by omega,by rw [H3.out];have:=ha3.out;omega,aD ?_,hB.keep hb3,hb.trans (hb3.mono hb.size)⟩;rw [H3.out];have h1:=ha3.out;have h2:=hr3'.out;omega
    case measure=>simp [intOf];omega
   ·go_wp2_with fail
    go_ret
    exact ⟨acc,rfl,⟨ha1,by omega,Or.inr (by omega)⟩,hb⟩
  ·go_wp2_with fail
   go_ret
   have h1:=ha3.out;have hjl:j=ks.length:=by omega
   rw [hjl,List.take_length] at h1 ha2;exact ⟨acc,rfl,⟨ha1,by omega,by omega⟩,hb⟩
def aE (t:Tm):Bool:=shape 30 t && decide (t.size≤400)
theorem aN (k n:Int)(ks:List Tm)(A:Option Addr)(c:Nat)(w:World)(hM:aG ks≤1099511627775)(hr:Rd w A 0 ks) :
  Calls prog 46 #[.agg (Ro k n A ks.length c)] w fun e w'=>e = .returned (.bool (aE (.mk k n ks)))∧Bw w w':=by
 have hlen:=aJ ks;cases hs:shape 30 (.mk k n ks) with
 | false=>
  have hv:aE (.mk k n ks)=false:=by simp [aE,hs]
  rw [hv];go_enter func46,ntmps46;go_wp2_with (go_at_call 74;refine (sP 30 k n ks A c _ (by omega) (by omega) (hr.alloc _)).mono ?_;rintro e w1 ⟨rfl,hb1⟩;obtain ⟨hc,hf⟩:=aPk hb1)
  go_ret
  exact ⟨rfl,bw1.trans (hb1.mono (by simp))⟩
 | true=>
  have hv:aE (.mk k n ks)=decide (aG ks+1≤400):=by simp [aE,hs,Tm.size]
  rw [hv];go_enter func46,ntmps46;go_wp2_with (first|(go_at_call 74;refine (sP 30 k n ks A c _ (by omega) (by omega) (hr.alloc _)).mono ?_;rintro e w1 ⟨rfl,hb1⟩;obtain ⟨hc,hf⟩:=aPk hb1)|(go_at_call 59;refine (sQ (aG ks+1) k n ks A c 400 _ (by omega) (by omega) (by omega) (by omega) ((hr.alloc _).below hb1)).mono ?_;rintro e w2 ⟨r,rfl,⟨hr1,hr2,hr3⟩,hb2⟩;have hr3':=aD hr3;clear hr3))
  go_ret
  have h3:=hr3'.out;exact ⟨eK (by rw [decide_eq_decide];omega),bw1.trans ((hb1.trans (hb2.mono hb1.size)).mono (by simp))⟩
structure OnlyIn (fp:List Nat) (w w':World):Prop where
 os:w'.os=w.os
 tape:w'.tape=w.tape
 output:w'.output=w.output
 size:w.heap.size≤w'.heap.size
 block:∀b,b<w.heap.size→b ∉ fp→w'.heap[b]?=w.heap[b]?
theorem OnlyIn.refl (fp:List Nat)(w:World):OnlyIn fp w w:=⟨rfl,rfl,rfl,iD _,fun _ _ _=>rfl⟩
theorem OnlyIn.trans {fp:List Nat}{a b c:World}(h:OnlyIn fp a b)(k:OnlyIn fp b c):OnlyIn fp a c:=
 ⟨k.os.trans h.os,k.tape.trans h.tape,k.output.trans h.output,Nat.le_trans h.size k.size,fun i hi hn=>(k.block i (kT hi h.size) hn).trans (h.block i hi hn)⟩
theorem OnlyIn.mono {fp fq:List Nat}{w w':World}(h:OnlyIn fp w w')(hs:∀b,b∈fp→b∈fq):OnlyIn fq w w':=⟨h.os,h.tape,h.output,h.size,fun b hb hn=>h.block b hb fun hm=>hn (hs b hm)⟩
theorem OnlyIn.setCell {fp:List Nat}{a w:World}(h:OnlyIn fp a w){p:Addr}(hp:p.block∈fp)(u:Value):OnlyIn fp a (w.setCell p u):=
 ⟨h.os,h.tape,h.output,by simpa [World.setCell] using h.size,fun i hi hn=>(lR w p u i (fun e=>hn (e▸hp))).trans (h.block i hi hn)⟩
theorem OnlyIn.below {fp:List Nat}{w w':World}{B:Nat}(h:OnlyIn fp w w')(hB:B≤w.heap.size)(hf:∀b,b∈fp→B≤b):Below B w w':=
 ⟨h.os,h.tape,h.output,h.size,fun b hb=>h.block b (by omega) fun hm=>by have:=hf b hm;omega⟩
theorem OwX.split {w:World}{t:Tm}{us:List Tm}:∀{ts:List Tm} {xs:List Value} {fp:List Nat},OwX w (ts++t::us) xs fp→
  ∃x0 x1 x2 f0 f1 f2,xs=x0++(x1++x2)∧fp=f0++(f1++f2)∧OwX w ts x0 f0∧OwT w t x1 f1∧OwX w us x2 f2
 | [],xs,fp,h=>by
  obtain ⟨x1,x2,f1,f2,rfl,rfl,h1,h2⟩:=OwX.cons_iff.1 h;exact ⟨[],x1,x2,[],f1,f2,rfl,rfl,OwX.nil,h1,h2⟩
 | s::ts,xs,fp,h=>by
  obtain ⟨y1,y2,e1,e2,rfl,rfl,k1,k2⟩:=OwX.cons_iff.1 h;obtain ⟨x0,x1,x2,f0,f1,f2,rfl,rfl,h0,h1,h2⟩:=OwX.split k2;exact ⟨y1++x0,x1,x2,e1++f0,f1,f2,by rw [List.append_assoc],by rw [List.append_assoc],OwX.cons_iff.2 ⟨y1,x0,e1,f0,rfl,rfl,k1,h0⟩,h1,h2⟩
theorem aCh {w:World}{t:Tm}{us ts:List Tm}{x0 x1 x2:List Value}{f0 f1 f2:List Nat}(h0:OwX w ts x0 f0)(h1:OwT w t x1 f1)(h2:OwX w us x2 f2):OwX w (ts++t::us) (x0++(x1++x2)) (f0++(f1++f2)):=
 h0.append (OwX.cons_iff.2 ⟨x1,x2,f1,f2,rfl,rfl,h1,h2⟩)
theorem set3 {cur:Array Value}{n j:Nat}{x0 x2:List Value}{a b c a' b':Value}(h:cur.toList.take n=x0++([a,b,c]++x2))(h0:x0.length=j) :
  ((cur.setIfInBounds j a').setIfInBounds (j + 1) b').toList.take n = x0 ++ ([a', b', c] ++ x2) := by
 rw [Array.toList_setIfInBounds,Array.toList_setIfInBounds,List.take_set,List.take_set,h];subst h0;simp [List.set_append]
def kL (d:Nat)(c0:Int)(k n:Int)(ks:List Tm):Bool:=shape d (.mk k n ks) && decide (c0+1+aG ks≤400)
theorem tQ {d:Nat}{c0 k n:Int}{ks:List Tm}(h:¬(0<d∧aW k=(ks.length:Int)∧0≤n∧n≤eX k∧c0+1≤400)):false=kL d c0 k n ks:=by
 cases e:kL d c0 k n ks with
 | false=>rfl
 | true=>
  simp only [kL,Bool.and_eq_true,decide_eq_true_eq] at e
  cases d with
  | zero=>simp [shape] at e
  | succ d=>
   have:=(bD d k n ks).1 e.1;exact absurd ⟨by omega,this.1,this.2.1,this.2.2.1,by omega⟩ h
theorem aKv {d:Nat}{c0 k n:Int}{ks:List Tm}(h:shape d (.mk k n ks)=true)(h2:c0+1+(aG ks:Int)≤400):true=kL d c0 k n ks:=by
 simp only [kL,h,decide_eq_true h2,Bool.and_self]
theorem uT {d:Nat}{c0 k1 n1:Int}{ks ks1:List Tm}{j:Nat}(hj:j<ks.length)(hk:ks[j] = .mk k1 n1 ks1)(hst:aG (ks.take (j+1))=aG (ks.take j)+(aG ks1+1))
  (hb : true = kL d (c0 + 1 + (aG (ks.take j) : Int)) k1 n1 ks1) : shape d ks[j] = true ∧ c0 + 1 + (aG (ks.take (j + 1)) : Int) ≤ 400 := by
 simp only [kL] at hb
 have hb:=hb.symm;rw [Bool.and_eq_true,decide_eq_true_eq] at hb;rw [hk];refine ⟨hb.1,?_⟩;have:=hb.2;rw [hst];push_cast
 omega
theorem wB {d:Nat}{c0 k n k1 n1:Int}{ks ks1:List Tm}{j:Nat}(hj:j<ks.length)(hk:ks[j] = .mk k1 n1 ks1)(hst:aG (ks.take (j+1))=aG (ks.take j)+(aG ks1+1))
  (hb : false = kL d (c0 + 1 + (aG (ks.take j) : Int)) k1 n1 ks1) : false = kL (d + 1) c0 k n ks := by
 cases e:kL (d+1) c0 k n ks with
 | false=>rfl
 | true=>
  simp only [kL,Bool.and_eq_true,decide_eq_true_eq] at e
  have h1:=(bD d k n ks).1 e.1;have h2:=h1.2.2.2 _ (fG hj);have h3:=dB ks (j+1);rw [hk] at h2;simp only [kL,h2,Bool.true_and] at hb
  have:=of_decide_eq_false hb.symm;omega
theorem aBe {ks:List Tm}{j:Nat}{p:Tm→Prop}(hj:j<ks.length)(h:∀t,t∈ks.take j→p t)(h1:p ks[j]):∀t,t∈ks.take (j+1)→p t:=by
 intro t ht;rw [oR hj,List.mem_append] at ht;rcases ht with ht|ht
 ·exact h t ht
 ·simp at ht;rw [ht];exact h1
theorem nE {w w':World}{o:Obj}{m:Option Nat}(h:(w.alloc o).grownBy w' m):w.grownBy w' m:=eM (aM (gG _ _) o) h
def aKk (d:Nat)(c0:Int)(k n:Int)(ks:List Tm)(g:Nat)(w:World)(e:Ending)(w':World):Prop:=
 ∃(b:Bool) (c1:Int),e = .returned (.bool b)∧b=kL d c0 k n ks∧(b=true→c1=c0+1+aG ks)∧0≤c1∧c1≤1000∧Blk w' g #[.int .i64 c1]∧w.grownBy w' (some g)
theorem aIe (N:Nat):∀(k n:Int) (ks:List Tm) (A:Option Addr) (c:Nat) (deep:Int) (d:Nat) (c0:Int) (g:Nat) (w:World),aG ks<N→ks.length≤9223372036854775807→1≤deep→deep+d≤31→31≤deep+d→0≤c0→c0≤900→
  Blk w g #[.int .i64 c0]→RdP (·≠g) w A 0 ks→
  Calls prog 53 #[.agg (Ro k n A ks.length c),.int .i64 deep,.pointer (some ⟨g,0,none⟩)] w (aKk d c0 k n ks g w):=by
 induction N with
 | zero=>intro k n ks A c deep d c0 g w hN;exact absurd hN (Nat.not_lt_zero _)
 | succ N ih=>
 intro k n ks A c deep d c0 g w hN hl hd1 hd2 hd3 hc1 hc2 hcb hr;have hgl:=hcb.lt;have hgc:=hcb.at_ (i:=0) rfl;have hgf:=hcb.frozen 0;by_cases h0:c0+1≤400
 ·by_cases h1:deep≤30
  ·by_cases h2:aW k=(ks.length:Int)
   ·have q2:(aW k != (ks.length:Int))=false:=by simpa using h2
    by_cases h3:0≤n∧n≤eX k
    ·have q0:decide (400<c0+1)=false:=by simp;omega
     have q1:decide (30<deep)=false:=by simp;omega
     have q3:(decide (0≤n) && decide (n≤eX k))=true:=by simp [h3.1,h3.2]
     have H:=aD (And.intro h2 h3);clear h2 h3;go_enter func53,ntmps53;go_wp2_with fail
     refine aT ?_;intro wx hwx;have hg0:w.grownBy wx (some g):=by rw [hwx];exact aM (aK (gG _ _) (.inl rfl) _) _
     have hB:Blk wx w.heap.size (Ro k n A ks.length c):=by rw [hwx];exact aC _ _ _ (by simp)
     have hG:Blk wx g #[.int .i64 (c0+1)]:=by rw [hwx];exact (hcb.set_ 0 _).alloc _
     have hrx:RdP (·≠g) wx A 0 ks:=hr.grown hg0 (fun b hb e=>hb (by injection e));have hsx:w.heap.size<wx.heap.size:=by rw [hwx];simp
     have r0:=hB.rule (i:=0) rfl;have r1:=hB.rule (i:=1) rfl;have r2:=hB.rule (i:=2) rfl;have r3:=hG.rule (i:=0) rfl;clear hwx;refine bX (fun w'=>Bw wx w') (by kernel_rfl) (by kernel_rfl) (dV _ _).drew ?_;repeat (first|refine qS ?_|refine qO ?_|refine qB 83 (hc:=fun w' hS'=>by exact iI _ _) (h:=?_)|refine qM 84 (hc:=fun w' hS'=>by exact nL _ _) (h:=?_)|refine qM 41 (hc:=fun w' hS'=>by exact cI _ _ _ _) (h:=?_))
     refine dR ?_;intro w2 hb2;replace hB:=hB.keep hb2;replace hG:=hG.keep hb2;replace hrx:=hrx.below hb2;replace hg0:=aR hg0 hb2;clear r0 r1 r2 r3 hb2;obtain ⟨d,rfl⟩:∃d',d=d'+1:=⟨d - 1,by omega⟩;have hz:=aD (bD d k n ks);have c2:=hB.at_ (i:=2) rfl;go_wp2_with fail
     go_loopw [43] (fun i wr=>∃j:Nat,j≤ks.length∧i = .int .i64 j∧Hid (∀t,t∈ks.take j→shape d t=true)∧c0+1+aG (ks.take j)≤400∧Blk wr g #[.int .i64 (c0+1+aG (ks.take j))]∧w.grownBy wr (some g)) (fun i _=>ks.length - (intOf i).toNat)
     case atStart=>exact ⟨0,Nat.zero_le _,rfl,aD (by simp),by simp [aG];omega,by simpa [aG] using hG,hg0⟩
     case round=>
      obtain ⟨j,hj,rfl,hall,hle,hGr,hgr⟩:=hrel;by_cases hlt:j<ks.length
      ·obtain ⟨b,off,k1,n1,ks1,A1,c1,rfl,hkj,hc1,hc2,hc3,hl1,hr1⟩:=(hr.grown hgr (fun b hb e=>hb (by injection e))).at_ hlt;have hst:=gN ks j hlt;have hsz:=bY (fG hlt);rw [hkj] at hsz hst;simp only [Tm.size] at hsz hst
       have H3:=aD hkj;have H4:=aD hst;clear hkj hst;go_wp2_with (go_at_call 53;refine (ih k1 n1 ks1 A1 c1 (deep+1) d (c0+1+aG (ks.take j)) g _ (by omega) hl1 (by omega) (by omega) (by omega) (by omega) (by omega) (hGr.alloc _) (hr1.alloc _)).mono ?_;rintro e w3 ⟨b,cx,rfl,hbe,hcx,hx0,hx1,hG3,hg3⟩;have hbe':=aD hbe;have hcx':=aD hcx;clear hbe hcx)
       ·rename_i hbx
        cases b with
        | true=>simp at hbx
        | false=>
        go_ret
        exact ⟨false,cx,rfl,wB hlt H3.out H4.out hbe'.out,(fun h=>(by cases h)),hx0,hx1,hG3,eM hgr (nE hg3)⟩
       ·rename_i hbx
        cases b with
        | false=>simp at hbx
        | true=>
        have hcx2:=hcx'.out rfl;obtain ⟨hs1,hs2⟩:=uT hlt H3.out H4.out hbe'.out;have h4:=H4.out;refine ⟨?_,by simp [intOf];omega⟩;repeat apply Exists.intro
        refine ⟨⟨j+1,hlt,by rfl,aD (aBe hlt hall.out hs1),hs2,?_,eM hgr (nE hg3)⟩,by rw [q3];rfl⟩;rw [show c0+1+(aG (ks.take (j+1)):Int)=cx from by rw [hcx2,h4];push_cast;omega];exact hG3
      ·go_wp2_with fail
       go_ret
       have hje:j=ks.length:=by omega
       have ha:=hall.out;rw [hje,List.take_length] at ha hle hGr;exact ⟨true,_,rfl,aKv (hz.out.2 ⟨H.out.1,H.out.2.1,H.out.2.2,ha⟩) hle,(fun _=>rfl),by omega,by omega,hGr,hgr⟩
    ·have q0:decide (400<c0+1)=false:=by simp;omega
     have q1:decide (30<deep)=false:=by simp;omega
     have q3:(decide (0≤n) && decide (n≤eX k))=false:=by
      rw [Bool.and_eq_false_iff,decide_eq_false_iff_not,decide_eq_false_iff_not];omega
     have H:=aD h3;clear h2 h3;go_enter func53,ntmps53;go_wp2_with fail
     refine aT ?_;intro wx hwx;have hg0:w.grownBy wx (some g):=by rw [hwx];exact aM (aK (gG _ _) (.inl rfl) _) _
     have hB:Blk wx w.heap.size (Ro k n A ks.length c):=by rw [hwx];exact aC _ _ _ (by simp)
     have hG:Blk wx g #[.int .i64 (c0+1)]:=by rw [hwx];exact (hcb.set_ 0 _).alloc _
     have hrx:RdP (·≠g) wx A 0 ks:=hr.grown hg0 (fun b hb e=>hb (by injection e));have hsx:w.heap.size<wx.heap.size:=by rw [hwx];simp
     have r0:=hB.rule (i:=0) rfl;have r1:=hB.rule (i:=1) rfl;have r2:=hB.rule (i:=2) rfl;have r3:=hG.rule (i:=0) rfl;clear hwx;refine bX (fun w'=>Bw wx w') (by kernel_rfl) (by kernel_rfl) (dV _ _).drew ?_;repeat (first|refine qS ?_|refine qO ?_|refine qB 83 (hc:=fun w' hS'=>by exact iI _ _) (h:=?_)|refine qM 84 (hc:=fun w' hS'=>by exact nL _ _) (h:=?_)|refine qM 41 (hc:=fun w' hS'=>by exact cI _ _ _ _) (h:=?_))
     refine dR ?_;intro w2 hb2;replace hB:=hB.keep hb2;replace hG:=hG.keep hb2;replace hrx:=hrx.below hb2;replace hg0:=aR hg0 hb2;clear r0 r1 r2 r3 hb2;go_wp2_with fail
     go_ret
     exact ⟨_,c0+1,rfl,tQ (by have:=H.out;omega),(fun h=>(by cases h)),by omega,by omega,hG,hg0⟩
   ·have q0:decide (400<c0+1)=false:=by simp;omega
    have q1:decide (30<deep)=false:=by simp;omega
    have q2:(aW k != (ks.length:Int))=true:=by simpa using h2
    have H:=aD h2;clear h2;go_enter func53,ntmps53;go_wp2_with fail
    refine aT ?_;intro wx hwx;have hg0:w.grownBy wx (some g):=by rw [hwx];exact aM (aK (gG _ _) (.inl rfl) _) _
    have hB:Blk wx w.heap.size (Ro k n A ks.length c):=by rw [hwx];exact aC _ _ _ (by simp)
    have hG:Blk wx g #[.int .i64 (c0+1)]:=by rw [hwx];exact (hcb.set_ 0 _).alloc _
    have hrx:RdP (·≠g) wx A 0 ks:=hr.grown hg0 (fun b hb e=>hb (by injection e));have hsx:w.heap.size<wx.heap.size:=by rw [hwx];simp
    have r0:=hB.rule (i:=0) rfl;have r1:=hB.rule (i:=1) rfl;have r2:=hB.rule (i:=2) rfl;have r3:=hG.rule (i:=0) rfl;clear hwx;refine bX (fun w'=>Bw wx w') (by kernel_rfl) (by kernel_rfl) (dV _ _).drew ?_;repeat (first|refine qS ?_|refine qO ?_|refine qB 83 (hc:=fun w' hS'=>by exact iI _ _) (h:=?_)|refine qM 84 (hc:=fun w' hS'=>by exact nL _ _) (h:=?_)|refine qM 41 (hc:=fun w' hS'=>by exact cI _ _ _ _) (h:=?_))
    refine dR ?_;intro w2 hb2;replace hB:=hB.keep hb2;replace hG:=hG.keep hb2;replace hrx:=hrx.below hb2;replace hg0:=aR hg0 hb2;clear r0 r1 r2 r3 hb2;go_wp2_with fail
    go_ret
    exact ⟨_,c0+1,rfl,tQ (by have:=H.out;omega),(fun h=>(by cases h)),by omega,by omega,hG,hg0⟩
  ·have q0:decide (400<c0+1)=false:=by simp;omega
   have q1:decide (30<deep)=true:=by simp;omega
   have H:=aD h1;go_enter func53,ntmps53;go_wp2_with fail
   refine aT ?_;intro wx hwx;have hg0:w.grownBy wx (some g):=by rw [hwx];exact aM (aK (gG _ _) (.inl rfl) _) _
   have hB:Blk wx w.heap.size (Ro k n A ks.length c):=by rw [hwx];exact aC _ _ _ (by simp)
   have hG:Blk wx g #[.int .i64 (c0+1)]:=by rw [hwx];exact (hcb.set_ 0 _).alloc _
   have hrx:RdP (·≠g) wx A 0 ks:=hr.grown hg0 (fun b hb e=>hb (by injection e));have hsx:w.heap.size<wx.heap.size:=by rw [hwx];simp
   have r0:=hB.rule (i:=0) rfl;have r1:=hB.rule (i:=1) rfl;have r2:=hB.rule (i:=2) rfl;have r3:=hG.rule (i:=0) rfl;clear hwx;refine bX (fun w'=>Bw wx w') (by kernel_rfl) (by kernel_rfl) (dV _ _).drew ?_;repeat (first|refine qS ?_|refine qO ?_|refine qB 83 (hc:=fun w' hS'=>by exact iI _ _) (h:=?_)|refine qM 84 (hc:=fun w' hS'=>by exact nL _ _) (h:=?_)|refine qM 41 (hc:=fun w' hS'=>by exact cI _ _ _ _) (h:=?_))
   refine dR ?_;intro w2 hb2;replace hB:=hB.keep hb2;replace hG:=hG.keep hb2;replace hrx:=hrx.below hb2;replace hg0:=aR hg0 hb2;clear r0 r1 r2 r3 hb2;go_wp2_with fail
   go_ret
   exact ⟨_,c0+1,rfl,tQ (by have:=H.out;omega),(fun h=>(by cases h)),by omega,by omega,hG,hg0⟩
 ·have q0:decide (400<c0+1)=true:=by simp;omega
  have H:=aD h0;go_enter func53,ntmps53;go_wp2_with fail
  refine aT ?_;intro wx hwx;have hg0:w.grownBy wx (some g):=by rw [hwx];exact aM (aK (gG _ _) (.inl rfl) _) _
  have hB:Blk wx w.heap.size (Ro k n A ks.length c):=by rw [hwx];exact aC _ _ _ (by simp)
  have hG:Blk wx g #[.int .i64 (c0+1)]:=by rw [hwx];exact (hcb.set_ 0 _).alloc _
  have hrx:RdP (·≠g) wx A 0 ks:=hr.grown hg0 (fun b hb e=>hb (by injection e));have hsx:w.heap.size<wx.heap.size:=by rw [hwx];simp
  have r0:=hB.rule (i:=0) rfl;have r1:=hB.rule (i:=1) rfl;have r2:=hB.rule (i:=2) rfl;have r3:=hG.rule (i:=0) rfl;clear hwx;refine bX (fun w'=>Bw wx w') (by kernel_rfl) (by kernel_rfl) (dV _ _).drew ?_;repeat (first|refine qS ?_|refine qO ?_|refine qB 83 (hc:=fun w' hS'=>by exact iI _ _) (h:=?_)|refine qM 84 (hc:=fun w' hS'=>by exact nL _ _) (h:=?_)|refine qM 41 (hc:=fun w' hS'=>by exact cI _ _ _ _) (h:=?_))
  refine dR ?_;intro w2 hb2;replace hB:=hB.keep hb2;replace hG:=hG.keep hb2;replace hrx:=hrx.below hb2;replace hg0:=aR hg0 hb2;clear r0 r1 r2 r3 hb2;go_wp2_with fail
  go_ret
  exact ⟨_,c0+1,rfl,tQ (by have:=H.out;omega),(fun h=>(by cases h)),by omega,by omega,hG,hg0⟩
mutual
def jM (by_:Int):Int→Tm→Tm|cut,.mk k n ks=>.mk k (if k=1∧cut≤n then n+by_ else n) (dY by_ k cut 0 ks)
def dY (by_:Int):Int→Int→Nat→List Tm→List Tm|_,_,_,[]=>[]|k,cut,i,t::ts=>jM by_ (cut+aO k i) t::dY by_ k cut (i+1) ts
end
theorem sR (by_ k d:Int)(us:List Tm):∀(ts:List Tm) (i:Nat),dY by_ k d i (ts++us)=dY by_ k d i ts++dY by_ k d (i+ts.length) us
 | [],i=>by simp [dY]
 | t::ts,i=>by rw [List.cons_append,dY,dY,sR by_ k d us ts (i+1),List.cons_append,List.length_cons,show i+1+ts.length=i+(ts.length+1) from by omega]
theorem nM (by_ k d:Int):∀(ts:List Tm) (i:Nat),(dY by_ k d i ts).length=ts.length
 | [],i=>by simp [dY]
 | t::ts,i=>by rw [dY,List.length_cons,List.length_cons,nM by_ k d ts (i+1)]
theorem aFr (by_ k d:Int){ks:List Tm}{j:Nat}(hj:j<ks.length):dY by_ k d 0 (ks.take (j+1))=dY by_ k d 0 (ks.take j)++[jM by_ (d+aO k j) ks[j]]:=by
 rw [oR hj,sR,List.length_take,Nat.min_eq_left (Nat.le_of_lt hj),Nat.zero_add,dY,dY]
theorem kO (N:Nat):∀(k n:Int) (ks:List Tm) (A:Option Addr) (c:Nat) (by_ cut:Int) (q:Nat) (w:World),aG ks<N→aG ks≤1000000000→shape q (.mk k n ks)=true→-1000≤by_∧by_≤1000→0≤cut→cut+q≤1000→Rd w A 0 ks→
  Calls prog 153 #[.agg (Ro k n A ks.length c),.int .i64 by_,.int .i64 cut] w (tL w k (if k=1∧cut≤n then n+by_ else n) (dY by_ k cut 0 ks)):=by
 induction N with
 | zero=>intro k n ks A c by_ cut q w hN;exact absurd hN (Nat.not_lt_zero _)
 | succ N ih=>
 intro k n ks A c by_ cut q w hN hM hsh hby hc0 hcq hr;have hlen:=aJ ks;obtain ⟨q,rfl⟩:∃q',q=q'+1:=by cases q with|zero=>simp [shape] at hsh|succ q=>exact ⟨q,rfl⟩
 obtain ⟨ha,hm1,hm2,hkids⟩:=(bD q k n ks).1 hsh;by_cases hk:k=1
 ·subst hk;have hks:ks=[]:=by
   have h0:aW 1=0:=rfl;rw [h0] at ha;exact lEn (by omega)
  subst hks;have h20:eX 1=20:=rfl;rw [h20] at hm2;clear hkids hsh ha h20;by_cases hcn:cut≤n
  ·rw [if_pos ⟨rfl,hcn⟩];have q0:decide (cut≤n)=true:=by simpa using hcn
   go_enter func153,ntmps153;go_wp2_with fail
   go_loopw [8] (fun i wr=>i = .int .i64 0∧Blk wr (w.heap.size+1+1) (Ro 1 (n+by_) none 0 0)∧Blk wr (w.heap.size+1) Zr∧Blk wr w.heap.size (Ro 1 n A 0 c)∧Bw w wr)
    (fun _ _=>0)
   case atStart=>exact ⟨rfl,aC _ _ _ (by simp),(aC _ _ _ (by simp)).alloc _,((aC _ _ _ rfl).alloc _).alloc _,bw3⟩
   case round=>
    obtain ⟨rfl,hB3,hB2,hB1,hb⟩:=hrel;have b2:=hB1.at_ (i:=2) rfl;have c0:wr.cell? ⟨w.heap.size+1+1,0,none⟩=some (.int .i64 1):=hB3.at_ rfl;have c1:wr.cell? ⟨w.heap.size+1+1,1,none⟩=some (.int .i64 (n+by_)):=hB3.at_ rfl;have c2:wr.cell? ⟨w.heap.size+1+1,2,none⟩=some (.slice none 0 0):=hB3.at_ rfl;have d0:wr.cell? ⟨w.heap.size+1,0,none⟩=some (.int .i64 0):=hB2.at_ rfl;have d1:wr.cell? ⟨w.heap.size+1,1,none⟩=some (.int .i64 0):=hB2.at_ rfl;have d2:wr.cell? ⟨w.heap.size+1,2,none⟩=some (.slice none 0 0):=hB2.at_ rfl;obtain ⟨e0,e1,e2⟩:=kS hB2;go_wp2_with fail
    refine bodyPost_ret (v:=.agg (Ro 1 (n+by_) none 0 0)) (by simp [results,results153,go_sem,d0,d1,d2]) rfl ⟨none,0,by simp [dY],by simp [dY],?_,?_⟩
    ·simpa [dY] using (Fresh.nil:Fresh w.heap.size _ none [])
    ·exact bV hb
  ·rw [if_neg (by rintro ⟨-,h⟩;exact hcn h)];have q0:decide (cut≤n)=false:=by simpa using hcn
   go_enter func153,ntmps153;go_wp2_with fail
   go_loopw [8] (fun i wr=>i = .int .i64 0∧Blk wr (w.heap.size+1+1) (Ro 1 (n) none 0 0)∧Blk wr (w.heap.size+1) Zr∧Blk wr w.heap.size (Ro 1 n A 0 c)∧Bw w wr)
    (fun _ _=>0)
   case atStart=>exact ⟨rfl,aC _ _ _ (by simp),(aC _ _ _ (by simp)).alloc _,((aC _ _ _ rfl).alloc _).alloc _,bw3⟩
   case round=>
    obtain ⟨rfl,hB3,hB2,hB1,hb⟩:=hrel;have b2:=hB1.at_ (i:=2) rfl;have c0:wr.cell? ⟨w.heap.size+1+1,0,none⟩=some (.int .i64 1):=hB3.at_ rfl;have c1:wr.cell? ⟨w.heap.size+1+1,1,none⟩=some (.int .i64 (n)):=hB3.at_ rfl;have c2:wr.cell? ⟨w.heap.size+1+1,2,none⟩=some (.slice none 0 0):=hB3.at_ rfl;have d0:wr.cell? ⟨w.heap.size+1,0,none⟩=some (.int .i64 0):=hB2.at_ rfl;have d1:wr.cell? ⟨w.heap.size+1,1,none⟩=some (.int .i64 0):=hB2.at_ rfl;have d2:wr.cell? ⟨w.heap.size+1,2,none⟩=some (.slice none 0 0):=hB2.at_ rfl;obtain ⟨e0,e1,e2⟩:=kS hB2;go_wp2_with fail
    refine bodyPost_ret (v:=.agg (Ro 1 (n) none 0 0)) (by simp [results,results153,go_sem,d0,d1,d2]) rfl ⟨none,0,by simp [dY],by simp [dY],?_,?_⟩
    ·simpa [dY] using (Fresh.nil:Fresh w.heap.size _ none [])
    ·exact bV hb
 have hkids':=aD hkids;have hm2':=aD hm2;clear hkids ha hsh hm2;have hk':=hk;by_cases hk:k=1
 ·exact absurd hk hk'
 ·have hn:(if k=1∧cut≤n then n+by_ else n)=n:=by rw [if_neg];rintro ⟨h,-⟩;exact hk h
  have q1:(k==1)=false:=by simpa using hk
  rw [hn];clear hn hk;go_enter func153,ntmps153;go_wp2_with fail
  go_loopw [8] (fun i wr=>∃(j:Nat) (v:Value),j≤ks.length∧i = .int .i64 j∧Part (w.heap.size+3) wr v (dY by_ k cut 0 (ks.take j))∧Blk wr (w.heap.size+1+1) #[.int .i64 k,.int .i64 (n),v]∧Blk wr (w.heap.size+1) Zr∧Blk wr w.heap.size (Ro k n A ks.length c)∧Bw w wr)
   (fun i _=>ks.length - (intOf i).toNat)
  case atStart=>exact ⟨0,_,Nat.zero_le _,rfl,Part.nil,aC _ _ _ (by simp),(aC _ _ _ (by simp)).alloc _,((aC _ _ _ rfl).alloc _).alloc _,bw3⟩
  case round=>
   obtain ⟨j,v,hj,rfl,hp,hB3,hB2,hB1,hb⟩:=hrel;have c12:=hB1.at_ (i:=2) rfl;by_cases hlt:j<ks.length
   ·obtain ⟨b,off,k',n',ks',A',c',rfl,hkj,hc1,hc2,hc3,hl',hr'⟩:=(hr.below hb).at_ hlt;have hsz:=bY (fG hlt);have hsk:=hkids'.out _ (fG hlt);rw [hkj] at hsz hsk;simp only [Tm.size] at hsz
    have H3:=aD hkj;have H4:=aD hsk;clear hkj hsk;have hz:=hB3.lt;go_wp2_with fail
    have x2:=hB3.rule (i:=2) rfl;have b0:=hB1.rule (i:=0) rfl;have b2:=hB1.rule (i:=2) rfl;obtain ⟨y0,y1,y2⟩:=pW hc1 hc2 hc3;have hun:=eA k j;refine aZ (fun w'=>Bw wr w') [0,1,2,3,4,5,6,7,8,9,10,11,12,13] [14,15] [16,17,18] [_,_,_,_,_,_,_,_,_,_,_,_,_,_] [_,_] [_,_,_] (by kernel_rfl) (by kernel_rfl) rfl rfl rfl (fun _ _ d _ _ h=>by cases d<;>exact h) (dV _ _).drew ?_;repeat (first|((refine mL (a':=?_) ?_ ?_ ?_);(rotate_left);(· (simp [Region.wanted,yielded];done));(· (simp only [List.getElem_toArray,List.getElem_cons_zero,List.getElem_cons_succ,Act.put,List.setIfInBounds_toArray,List.set_cons_zero,List.set_cons_succ];exact rfl)))|((refine mV (v:=?_) (a':=?_) ?_ ?_ ?_ ?_);(rotate_left 2);(· (simp [Region.wanted,yielded];done));(· (intro w' hS';go_simp;try (with_reducible rfl)));(· (simp only [List.getElem_toArray,List.getElem_cons_zero,List.getElem_cons_succ,Act.put,List.setIfInBounds_toArray,List.set_cons_zero,List.set_cons_succ];exact rfl)))|((refine pU (v:=?_) (a':=?_) 158 ?_ ?_ ?_ ?_ ?_ ?_);(rotate_left 3);(· (simp [Region.wanted,yielded];done));(· (intro w' hS';go_simp;try (with_reducible rfl)));(· (intro w' hS';exact pK _ _ _));(· (simp only [List.getElem_toArray,List.getElem_cons_zero,List.getElem_cons_succ,Act.put,List.setIfInBounds_toArray,List.set_cons_zero,List.set_cons_succ];exact rfl))))
    refine oL (bF ?_);obtain ⟨n2,hn2⟩:∃n2,(if k'=1∧cut+aO k j≤n' then n'+by_ else n')=n2:=⟨_,rfl⟩;have hn2':=aD hn2;clear hn2;go_wp2_with (go_at_call 153;refine (ih k' n' ks' A' c' by_ (cut+aO k j) q _ (by omega) (by omega) H4.out hby (by omega) (by omega) hr'.drew).mono ?_;rw [hn2'.out];rintro e w1 ⟨A1,c1,rfl,hl1,hf1,hb1⟩)
    have hx1:Bw wr w1:=(dV _ _).drew.trans hb1;refine aH hx1 (bF ?_);go_wp2_with fail
    refine aH (hx1.alloc hx1.size _) (cS ?_);refine bQ (B:=w.heap.size+3) (m:=j) hp.drew hb1 (by simp;omega) hf1 hl1 (by rw [nM];simp;omega) (by omega) rfl (.tmp 36) (.tmp 50) rfl rfl rfl ?_;intro A2 c2 w2 hp2 hb2 hg2;have q3:Blk w2 (w.heap.size+1+1) #[.int .i64 k,.int .i64 (n),v]:=(hB3.below hx1 (by omega)).below hb2 (by omega);have q2:Blk w2 (w.heap.size+1) Zr:=(hB2.below hx1 (by omega)).below hb2 (by omega);have q1':Blk w2 w.heap.size (Ro k n (some ⟨b,off,none⟩) ks.length c):=(hB1.below hx1 (by omega)).below hb2 (by omega);have c3:w2.cell? ⟨w.heap.size+1+1,2,none⟩=some v:=q3.at_ rfl;have z3:=q3.frozen 2;have hbf:Bw w w2:=(hb.trans (hx1.mono (by omega))).trans (hb2.mono (by omega));clear x2 y0 y1 y2 b0 b2;go_wp2_with fail
    go_roundw
    case rel=>exact ⟨j+1,_,by omega,by go_num,by rw [aFr by_ k cut hlt,H3.out,jM,hn2'.out];exact hp2.setCell (by simp) _,q3.set_ 2 _,q2.far (by simp) _,q1'.far (by simp;omega) _,hbf.setCell (by simp;omega) _⟩
    case measure=>simp [intOf];omega
   ·have hjl:j=ks.length:=by omega
    subst hjl;rw [List.take_length] at hp;obtain ⟨Ar,cr,rfl,hfr⟩:=hp.fresh;have c0:wr.cell? ⟨w.heap.size+1+1,0,none⟩=some (.int .i64 k):=hB3.at_ rfl;have c1:wr.cell? ⟨w.heap.size+1+1,1,none⟩=some (.int .i64 (n)):=hB3.at_ rfl;have c2:wr.cell? ⟨w.heap.size+1+1,2,none⟩=some (.slice Ar (dY by_ k cut 0 ks).length cr):=hB3.at_ rfl;have d0:wr.cell? ⟨w.heap.size+1,0,none⟩=some (.int .i64 0):=hB2.at_ rfl;have d1:wr.cell? ⟨w.heap.size+1,1,none⟩=some (.int .i64 0):=hB2.at_ rfl;have d2:wr.cell? ⟨w.heap.size+1,2,none⟩=some (.slice none 0 0):=hB2.at_ rfl;obtain ⟨e0,e1,e2⟩:=kS hB2;go_wp2_with fail
    refine bodyPost_ret (v:=.agg #[.int .i64 k,.int .i64 (n),.slice Ar (dY by_ k cut 0 ks).length cr]) (by simp [results,results153,go_sem,d0,d1,d2]) rfl ⟨Ar,cr,rfl,by rw [nM];omega,?_,?_⟩
    ·exact (mW hfr).mono (by omega)
    ·exact bV hb
structure OwF (w:World) (A:Option Addr) (ks:List Tm) (fp:List Nat) (lo hi:Nat):Prop where
 ow:Ow w A ks fp
 nodup:fp.Nodup
 lo:∀b,b∈fp→lo≤b
 hi:∀b,b∈fp→b<hi
variable {w w':World}{A:Option Addr}{ks:List Tm}{fp fq:List Nat}{lo hi:Nat}
theorem OwF.rd (h:OwF w A ks fp lo hi):Rd w A 0 ks:=h.ow.rd
theorem OwF.keep (h:OwF w A ks fp lo hi)(hb:Bw w w'):OwF w' A ks fp lo hi:=⟨h.ow.frame fun b hm=>hb.block b (h.ow.lt b hm),h.nodup,h.lo,h.hi⟩
theorem OwF.alloc (h:OwF w A ks fp lo hi)(o:Obj):OwF (w.alloc o) A ks fp lo hi:=⟨h.ow.frame fun b hm=>Below.heap_alloc w o b (h.ow.lt b hm),h.nodup,h.lo,h.hi⟩
theorem OwF.drew (h:OwF w A ks fp lo hi):OwF w.drew A ks fp lo hi:=⟨h.ow.frame fun b hm=>rfl,h.nodup,h.lo,h.hi⟩
theorem OwF.only (h:OwF w A ks fp lo hi)(ho:OnlyIn fq w w')(hd:∀b,b∈fp→b ∉ fq):OwF w' A ks fp lo hi:=⟨h.ow.frame fun b hm=>ho.block b (h.ow.lt b hm) (hd b hm),h.nodup,h.lo,h.hi⟩
theorem OwF.apart {A':Option Addr}{ks':List Tm}{lo' hi':Nat}(h:OwF w A ks fp lo hi)(h':OwF w' A' ks' fq lo' hi')(hh:hi≤lo'):∀b,b∈fp→b ∉ fq:=fun b h1 h2=>by have:=h.hi b h1;have:=h'.lo b h2;omega
theorem OwF.out (h:OwF w A ks fp lo hi){g:Nat}(hg:g<lo∨hi≤g):g ∉ fp:=fun h1=>by have:=h.lo g h1;have:=h.hi g h1;omega
theorem Blk.only {g:Nat}{cs:Array Value}(h:Blk w g cs)(ho:OnlyIn fq w w')(hg:g ∉ fq):Blk w' g cs:=by have hl:=h.lt;obtain ⟨t,h⟩:=h;exact ⟨t,(ho.block g hl hg).trans h⟩
theorem OwF.below (h:OwF w A ks fp lo hi)(ho:OnlyIn fp w w')(hlo:lo≤w.heap.size):Below lo w w':=ho.below hlo h.lo
end Go.Proofs.YtddkehjdjfmhmaaGreat
