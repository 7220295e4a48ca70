/- Parts of the proof. No condition. -/
import Derived.Test.YtddkehjdjfmhmaaGreatK4
import Derived.Test.YtddkehjdjfmhmaaGreatK5
import Derived.Test.YtddkehjdjfmhmaaGreatK6
open Go.Proofs.Tryz
namespace Go.Proofs.YtddkehjdjfmhmaaGreat
open Go.RowKit
set_option maxHeartbeats 2000000
set_option maxRecDepth 100000
set_option linter.unusedSimpArgs false
set_option linter.unusedVariables false
theorem dF (N:Nat):∀(k n:Int) (ks:List Tm) (A:Option Addr) (c:Nat) (w:World),aG ks<N→aG ks≤1000000000→Rd w A 0 ks→
  Calls prog 58 #[.agg (Ro k n A ks.length c)] w (tL w k n ks):=by
 induction N with
 | zero=>intro k n ks A c w hN;exact absurd hN (Nat.not_lt_zero _)
 | succ N ih=>
 intro k n ks A c w hN hM hr;have hlen:=aJ ks;go_enter func58,ntmps58;go_wp2_with fail
 go_loopw [4] (fun i wr=>∃(j:Nat) (v:Value),j≤ks.length∧i = .int .i64 j∧Part (w.heap.size+3) wr v (ks.take j)∧Blk wr (w.heap.size+1+1) #[.int .i64 k,.int .i64 n,v]∧Blk wr (w.heap.size+1) Zr∧Blk wr w.heap.size (Ro k n A ks.length c)∧Bw w wr)
  (fun i _ => ks.length - (intOf i).toNat)
 case atStart=>exact ⟨0,_,Nat.zero_le _,rfl,Part.nil,aC _ _ _ (by simp),(aC _ _ _ (by simp)).alloc _,((aC _ _ _ rfl).alloc _).alloc _,bw3⟩
 case round=>
  obtain ⟨j,v,hj,rfl,hp,hB3,hB2,hB1,hb⟩:=hrel;have c12:=hB1.at_ (i:=2) rfl;by_cases hlt:j<ks.length
  ·obtain ⟨b,off,k',n',ks',A',c',rfl,hkj,hc1,hc2,hc3,hl',hr'⟩:=(hr.below hb).at_ hlt;have hsz:=bY (fG hlt);rw [hkj] at hsz;simp only [Tm.size] at hsz
   have H3:=aD hkj;clear hkj;have hz:=hB3.lt;go_wp2_with fail
   have x2:=hB3.rule (i:=2) rfl;have b2:=hB1.rule (i:=2) rfl;obtain ⟨y0,y1,y2⟩:=pW hc1 hc2 hc3;refine aZ (fun w'=>Bw wr w') [0,1,2,3,4,5,6] [7,8] [9,10,11] [_,_,_,_,_,_,_] [_,_] [_,_,_] (by kernel_rfl) (by kernel_rfl) rfl rfl rfl (fun _ _ d _ _ h=>by cases d<;>exact h) (dV _ _).drew ?_;refine cL (aD ?_);refine bF ?_;go_wp2_with (go_at_call 58;refine (ih k' n' ks' A' c' _ (by omega) (by omega) hr'.drew).mono ?_;rintro e w1 ⟨A1,c1,rfl,hl1,hf1,hb1⟩)
   have hx1:Bw wr w1:=(dV _ _).drew.trans hb1;refine aH hx1 (bF ?_);go_wp2_with fail
   refine aH (hx1.alloc hx1.size _) (cS ?_);refine bQ (B:=w.heap.size+3) (m:=j) hp.drew hb1 (by simp;omega) hf1 hl1 (by rw [List.length_take];omega) (by omega) rfl (.tmp 18) (.tmp 25) rfl rfl rfl ?_;intro A2 c2 w2 hp2 hb2 hg2;have q3:Blk w2 (w.heap.size+1+1) #[.int .i64 k,.int .i64 n,v]:=(hB3.below hx1 (by omega)).below hb2 (by omega);have q2:Blk w2 (w.heap.size+1) Zr:=(hB2.below hx1 (by omega)).below hb2 (by omega);have q1':Blk w2 w.heap.size (Ro k n (some ⟨b,off,none⟩) ks.length c):=(hB1.below hx1 (by omega)).below hb2 (by omega);have c3:w2.cell? ⟨w.heap.size+1+1,2,none⟩=some v:=q3.at_ rfl;have z3:=q3.frozen 2;have hbf:Bw w w2:=(hb.trans (hx1.mono (by omega))).trans (hb2.mono (by omega));clear x2 y0 y1 y2 b2;go_wp2_with fail
   go_roundw
   case rel=>exact ⟨j+1,_,by omega,by go_num,by rw [oR hlt,H3.out];exact hp2.setCell (by simp) _,q3.set_ 2 _,q2.far (by simp) _,q1'.far (by simp;omega) _,hbf.setCell (by simp;omega) _⟩
   case measure=>simp [intOf];omega
  ·have hjl:j=ks.length:=by omega
   subst hjl;rw [List.take_length] at hp;obtain ⟨Ar,cr,rfl,hfr⟩:=hp.fresh;have c0:wr.cell? ⟨w.heap.size+1+1,0,none⟩=some (.int .i64 k):=hB3.at_ rfl;have c1:wr.cell? ⟨w.heap.size+1+1,1,none⟩=some (.int .i64 n):=hB3.at_ rfl;have c2:wr.cell? ⟨w.heap.size+1+1,2,none⟩=some (.slice Ar ks.length cr):=hB3.at_ rfl;have d0:wr.cell? ⟨w.heap.size+1,0,none⟩=some (.int .i64 0):=hB2.at_ rfl;have d1:wr.cell? ⟨w.heap.size+1,1,none⟩=some (.int .i64 0):=hB2.at_ rfl;have d2:wr.cell? ⟨w.heap.size+1,2,none⟩=some (.slice none 0 0):=hB2.at_ rfl;obtain ⟨e0,e1,e2⟩:=kS hB2;go_wp2_with fail
   refine bodyPost_ret (v:=.agg (Ro k n Ar ks.length cr)) (by simp [results,results58,go_sem,d0,d1,d2]) rfl ⟨Ar,cr,rfl,by omega,?_,?_⟩
   ·exact (mW hfr).mono (by omega)
   ·exact bV hb
theorem aQ (k n:Int)(ks:List Tm)(A:Option Addr)(c:Nat)(w:World)(hM:aG ks≤1099511627775)(hr:Rd w A 0 ks) :
  Calls prog 19 #[.agg (Ro k n A ks.length c)] w fun e w'=>e = .returned (.bool (aE (.mk k n ks)))∧Bw w w':=by
 have hlen:=aJ ks;have hrp:RdP (·≠w.heap.size+1) w A 0 ks:=hr.rdp.mono (fun b hb=>by have hb:b<w.heap.size:=hb;show b≠_;omega);go_enter func19,ntmps19;go_wp2_with (go_at_call 53;refine (aIe (aG ks+1) k n ks A c 1 30 0 (w.heap.size+1) _ (by omega) (by omega) (by omega) (by omega) (by omega) (by omega) (by omega) (aC _ _ _ (by simp)) ((hrp.alloc _).alloc _)).mono ?_;rintro e w3 ⟨b,cx,rfl,hbe,hcx,hx0,hx1,hG3,hg3⟩;clear hcx hG3)
 go_ret
 refine ⟨eK ?_,bw2.grown hg3 (by simp;omega) (fun k e=>by cases e;omega)⟩;show kL 30 0 k n ks=_
 unfold kL aE
 rw [Tm.size];by_cases h:aG ks+1≤400
 ·rw [decide_eq_true h,decide_eq_true (by omega)]
 ·rw [decide_eq_false h,decide_eq_false (by omega)]
mutual
def nrm:Tm→Bool | .mk k _ ks=>aBl ks && (cT k ks==0)
def aBl:List Tm→Bool|[]=>true|t::ts=>nrm t && aBl ts
end
theorem aBt:∀ks:List Tm,aBl ks=true↔∀t,t∈ks→nrm t=true
 | []=>by simp [aBl]
 | t::ts=>by rw [aBl,Bool.and_eq_true,aBt ts];simp
def Path (w:World)(A:Option Addr)(m:Nat):Prop:=
 ∃xs:List Int,xs.length=m∧(0<m→∃b off,A=some ⟨b,off,none⟩∧∀(i:Nat) (u:Value),(xs.map (Value.int .i64))[i]?=some u→w.cell? ⟨b,off+i,none⟩=some u)
theorem Path.nil {w:World}{A:Option Addr}:Path w A 0:=⟨[],rfl,fun h=>absurd h (Nat.lt_irrefl _)⟩
theorem Path.alloc {w:World}{A:Option Addr}{m:Nat}(h:Path w A m)(o:Obj):Path (w.alloc o) A m:=by
 obtain ⟨xs,h1,h2⟩:=h;refine ⟨xs,h1,fun hm=>?_⟩;obtain ⟨b,off,h3,h4⟩:=h2 hm;exact ⟨b,off,h3,fun i u hu=>Keeps.alloc w o _ _ (h4 i u hu)⟩
theorem aLd:(prog.info? 3).map (fun i=>(i.zero,i.size,i.bytes))=some (some (.int .i64 0),1,8):=by kernel_rfl
theorem eD (n:Int)(w:World):Calls prog 118 #[.int .i64 n] w fun e w'=>e = .returned (.agg (Ro 1 n none 0 0))∧Bw w w':=by
 go_enter func118,ntmps118;go_wp2_with fail
 exact bodyPost_ret (v:=.agg (Ro 1 n none 0 0)) (by simp [results,results118,go_sem]) rfl ⟨rfl,bw1⟩
def dC:Value:=.agg Zr
theorem gQ (k n:Int)(ks:List Tm)(A:Option Addr)(c:Nat)(w:World)(hM:aG ks≤1099511627775)(hr:Rd w A 0 ks)(hv:aE (.mk k n ks)=true) :
  Calls prog 119 #[(.agg (Ro k n A ks.length c))] w fun e w'=>e = .returned (.tuple #[(.agg (Ro k n A ks.length c)),.bool true])∧Bw w w':=by
 go_enter func119,ntmps119;go_wp2_with (go_at_call 19;refine (aQ k n ks A c _ hM ((hr.alloc _).alloc _)).mono ?_;rw [hv];rintro e w1 ⟨rfl,hb1⟩;have hB:=cM hb1;have hT:=bA hb1;obtain ⟨p0,p1,p2⟩:=hB.three;obtain ⟨d0,d1,d2,e0,e1,e2⟩:=cA hT;replace hb1:Bw w w1:=bw2.trans (hb1.mono (by simp;omega)))
 refine bodyPost_ret (v:=.tuple #[(.agg (Ro k n A ks.length c)),.bool true]) (by simp [results,results119,go_sem,d0,d1,d2]) rfl ⟨rfl,?_⟩;exact bV hb1
theorem vR (k n:Int)(ks:List Tm)(A:Option Addr)(c:Nat)(w:World)(hM:aG ks≤1099511627775)(hr:Rd w A 0 ks)(hv:aE (.mk k n ks)=false) :
  Calls prog 119 #[(.agg (Ro k n A ks.length c))] w fun e w'=>e = .returned (.tuple #[dC,.bool false])∧Bw w w':=by
 go_enter func119,ntmps119;go_wp2_with (go_at_call 19;refine (aQ k n ks A c _ hM ((hr.alloc _).alloc _)).mono ?_;rw [hv];rintro e w1 ⟨rfl,hb1⟩;have hT:=bA hb1;obtain ⟨d0,d1,d2,e0,e1,e2⟩:=cA hT;replace hb1:Bw w w1:=bw2.trans (hb1.mono (by simp;omega)))
 refine bodyPost_ret (v:=.tuple #[dC,.bool false]) (by simp [results,results119,go_sem,d0,d1,d2,dC]) rfl ⟨rfl,?_⟩;exact bV hb1
def shF (by_ cut:Int)(n d:Int):Tm:=.mk 1 (if cut≤n - d then n+by_ else n) []
def tE (by_ cut:Int)(n d:Int):Bool:=if cut≤n - d then decide (cut≤n+by_ - d) && decide (n+by_≤20) else true
theorem rR {by_ cut:Int}{bc bb g:Nat}{W0:World}(hb1 : -1000≤by_∧by_≤1000)(hc : -1000≤cut∧cut≤1000)(hC:Blk W0 bc #[.int .i64 cut])(hB:Blk W0 bb #[.int .i64 by_])(hcg:bc≠g)(hbg:bb≠g) :
  aJl 117 [.pointer (some ⟨bc,0,none⟩),.pointer (some ⟨bb,0,none⟩),.pointer (some ⟨g,0,none⟩)] W0 g (shF by_ cut) (tE by_ cut):=by
 intro n d w b hn0 hn1 hd0 hd1 hW hg;have hCw:=hC.grown hW (by simpa using hcg);have hBw:=hB.grown hW (by simpa using hbg);have x0:=hCw.at_ (i:=0) rfl;have x1:=hBw.at_ (i:=0) rfl;have x2:=hg.at_ (i:=0) rfl;have z2:=hg.frozen 0;have l0:=hCw.lt;have l1:=hBw.lt;have l2:=hg.lt;by_cases h1:cut≤n - d
 ·have hz:shF by_ cut n d = .mk 1 (n+by_) []:=by rw [shF,if_pos h1]
  have hzo:tE by_ cut n d=(decide (cut≤n+by_ - d) && decide (n+by_≤20)):=by rw [tE,if_pos h1]
  rw [hz,hzo];have q1:decide (cut≤n - d)=true:=decide_eq_true h1;have H:=aD h1;clear h1 hz hzo;cases b with
  | false=>
   rw [Bool.false_and];go_enter func117,ntmps117;go_wp2_with (go_at_call 118;refine (eD _ _).mono ?_;rintro e w1 ⟨rfl,hv1⟩;have hT:Blk w1 w.heap.size Zr:=(aC _ 25 _ (by simp)).keep hv1;obtain ⟨d0,d1,d2,e0,e1,e2⟩:=cA hT;have hG1:Blk w1 g #[.bool (false)]:=((hg.set_ 0 (.bool (false))).alloc (.cells Zr 25)).keep hv1;replace hv1:w.grownBy w1 (some g):=aR (aM (aK (gG _ _) (.inl rfl) _) _) hv1)
   refine bodyPost_ret (v:=.agg (Ro 1 (n+by_) none 0 0)) (by simp [results,results117,go_sem,d0,d1,d2]) rfl ⟨none,0,rfl,by simp [Tm.ks],Fresh.nil,?_,?_⟩
   ·exact ((hG1.far (by simp;omega) _).far (by simp;omega) _).far (by simp;omega) _
   ·exact aK (aK (aK hv1 (.inr (by simp)) _) (.inr (by simp)) _) (.inr (by simp)) _
  | true=>
   by_cases h2:cut≤n+by_ - d
   ·have q2:decide (cut≤n+by_ - d)=true:=decide_eq_true h2;rw [q2,Bool.true_and,Bool.true_and];have H2:=aD h2;clear h2;cases q3:decide (n+by_≤20) with
    | false=>
     go_enter func117,ntmps117;go_wp2_with (go_at_call 118;refine (eD _ _).mono ?_;rintro e w1 ⟨rfl,hv1⟩;have hT:Blk w1 w.heap.size Zr:=(aC _ 25 _ (by simp)).keep hv1;obtain ⟨d0,d1,d2,e0,e1,e2⟩:=cA hT;have hG1:Blk w1 g #[.bool (false)]:=((hg.set_ 0 (.bool (false))).alloc (.cells Zr 25)).keep hv1;replace hv1:w.grownBy w1 (some g):=aR (aM (aK (gG _ _) (.inl rfl) _) _) hv1)
     refine bodyPost_ret (v:=.agg (Ro 1 (n+by_) none 0 0)) (by simp [results,results117,go_sem,d0,d1,d2]) rfl ⟨none,0,rfl,by simp [Tm.ks],Fresh.nil,?_,?_⟩
     ·exact ((hG1.far (by simp;omega) _).far (by simp;omega) _).far (by simp;omega) _
     ·exact aK (aK (aK hv1 (.inr (by simp)) _) (.inr (by simp)) _) (.inr (by simp)) _
    | true=>
     go_enter func117,ntmps117;go_wp2_with (go_at_call 118;refine (eD _ _).mono ?_;rintro e w1 ⟨rfl,hv1⟩;have hT:Blk w1 w.heap.size Zr:=(aC _ 25 _ (by simp)).keep hv1;obtain ⟨d0,d1,d2,e0,e1,e2⟩:=cA hT;have hG1:Blk w1 g #[.bool (true)]:=((hg.set_ 0 (.bool (true))).alloc (.cells Zr 25)).keep hv1;replace hv1:w.grownBy w1 (some g):=aR (aM (aK (gG _ _) (.inl rfl) _) _) hv1)
     refine bodyPost_ret (v:=.agg (Ro 1 (n+by_) none 0 0)) (by simp [results,results117,go_sem,d0,d1,d2]) rfl ⟨none,0,rfl,by simp [Tm.ks],Fresh.nil,?_,?_⟩
     ·exact ((hG1.far (by simp;omega) _).far (by simp;omega) _).far (by simp;omega) _
     ·exact aK (aK (aK hv1 (.inr (by simp)) _) (.inr (by simp)) _) (.inr (by simp)) _
   ·have q2:decide (cut≤n+by_ - d)=false:=decide_eq_false h2;rw [q2,Bool.false_and,Bool.true_and];have H2:=aD h2;clear h2;go_enter func117,ntmps117;go_wp2_with (go_at_call 118;refine (eD _ _).mono ?_;rintro e w1 ⟨rfl,hv1⟩;have hT:Blk w1 w.heap.size Zr:=(aC _ 25 _ (by simp)).keep hv1;obtain ⟨d0,d1,d2,e0,e1,e2⟩:=cA hT;have hG1:Blk w1 g #[.bool (false)]:=((hg.set_ 0 (.bool (false))).alloc (.cells Zr 25)).keep hv1;replace hv1:w.grownBy w1 (some g):=aR (aM (aK (gG _ _) (.inl rfl) _) _) hv1)
    refine bodyPost_ret (v:=.agg (Ro 1 (n+by_) none 0 0)) (by simp [results,results117,go_sem,d0,d1,d2]) rfl ⟨none,0,rfl,by simp [Tm.ks],Fresh.nil,?_,?_⟩
    ·exact ((hG1.far (by simp;omega) _).far (by simp;omega) _).far (by simp;omega) _
    ·exact aK (aK (aK hv1 (.inr (by simp)) _) (.inr (by simp)) _) (.inr (by simp)) _
 ·have hz:shF by_ cut n d = .mk 1 n []:=by rw [shF,if_neg h1]
  have hzo:tE by_ cut n d=true:=by rw [tE,if_neg h1]
  rw [hz,hzo,Bool.and_true];have q1:decide (cut≤n - d)=false:=decide_eq_false h1;have H:=aD h1;clear h1 hz hzo;go_enter func117,ntmps117;go_wp2_with (go_at_call 118;refine (eD _ _).mono ?_;rintro e w1 ⟨rfl,hv1⟩;have hT:Blk w1 w.heap.size Zr:=(aC _ 25 _ rfl).keep hv1;obtain ⟨d0,d1,d2,e0,e1,e2⟩:=cA hT;have hG1:=(hg.alloc (.cells Zr 25)).keep hv1;replace hv1:w.grownBy w1 (some g):=aR (aM (gG _ _) _) hv1)
  refine bodyPost_ret (v:=.agg (Ro 1 n none 0 0)) (by simp [results,results117,go_sem,d0,d1,d2]) rfl ⟨none,0,rfl,by simp [Tm.ks],Fresh.nil,?_,?_⟩
  ·exact ((hG1.far (by simp;omega) _).far (by simp;omega) _).far (by simp;omega) _
  ·exact aK (aK (aK hv1 (.inr (by simp)) _) (.inr (by simp)) _) (.inr (by simp)) _
theorem aBa {f:Int→Int→Tm}{M:Nat}(hM:1≤M)(hf:∀n d,(f n d).size≤M):(∀t d,(chg f d t).size≤t.size*M)∧(∀ts k d i,aG (gM f k d i ts)≤aG ts*M):=by
 refine bM (fun k n ks ih d=>?_) (fun k d i=>by simp [gM,aG]) (fun t ts h1 h2 k d i=>?_)
 ·rw [chg,Tm.size,Nat.add_mul,Nat.one_mul];split
  ·have:=hf n d;omega
  ·rw [Tm.size];have:=ih k d 0;omega
 ·rw [gM,aG,aG,Nat.add_mul];have:=h1 (d+aO k i);have:=h2 k d (i+1);omega
theorem aLp (by_ cut n d:Int):(shF by_ cut n d).size≤1:=by simp [shF,Tm.size,aG]
def oX (w:World)(o:Option Tm)(e:Ending)(w':World):Prop:=
 match o with
 | none=>e = .returned (.tuple #[dC,.bool false])∧Bw w w'
 | some t=>∃A c,e = .returned (.tuple #[.agg (Ro t.k t.n A t.ks.length c),.bool true])∧t.ks.length≤9223372036854775807∧Fresh w.heap.size w' A t.ks∧Bw w w'
def cP (by_ cut:Int)(t:Tm):Option Tm:=if eZ (tE by_ cut) 0 t=true then (if aE (chg (shF by_ cut) 0 t)=true then some (chg (shF by_ cut) 0 t) else none) else none
theorem kG (k n:Int)(ks:List Tm)(A:Option Addr)(c:Nat)(by_ cut:Int)(w:World)(hby : -1000≤by_∧by_≤1000)(hcut : -1000≤cut∧cut≤1000)(hM:aG ks≤1000000000)(hs:shape 30 (.mk k n ks)=true)(hr:Rd w A 0 ks) :
  Calls prog 90 #[(.agg (Ro k n A ks.length c)),.int .i64 by_,.int .i64 cut] w (oX w (cP by_ cut (.mk k n ks))):=by
 have hrp:RdP (·≠w.heap.size+4) w A 0 ks:=hr.rdp.mono (fun b hb=>by have hb:b<w.heap.size:=hb;show b≠_;omega);obtain ⟨k2,n2,ks2,hct⟩:=iF (chg (shF by_ cut) 0 (.mk k n ks));have hsz2:aG ks2≤1000000001:=by
  have:=(aBa (iD 1) (aLp by_ cut)).1 (.mk k n ks) 0;rw [hct,Tm.size,Tm.size] at this;omega
 cases hok:eZ (tE by_ cut) 0 (.mk k n ks) with
 | false=>
  have hz:cP by_ cut (.mk k n ks)=none:=by rw [cP,hok];rfl
  rw [hz];clear hz;go_enter func90,ntmps90;go_wp2_with (go_at_call 116;refine (gT (rR (bc:=w.heap.size+2) (bb:=w.heap.size+1) (g:=w.heap.size+4) hby hcut (((aC _ 3 _ (by simp)).alloc _).alloc _) ((((aC _ 3 _ (by simp)).alloc _).alloc _).alloc _) (by omega) (by omega)) (eJ func117 (by kernel_rfl) (by kernel_rfl)) (aG ks+1) k n ks A c 0 30 _ true (by omega) hs (by omega) (by omega) (by omega) (gG _ _) (aC _ 4 _ (by simp)) (((((hrp.alloc _).alloc _).alloc _).alloc _).alloc _)).mono ?_;rw [hct,hok];intro e w6 hpost;obtain ⟨A6,c6,rfl,hl6,hf6,hG6,hg6⟩:=mR hpost;clear hpost;have hT6:Blk w6 (w.heap.size+1+1+1) Zr:=((aC _ 25 _ (by simp)).alloc _).grown hg6 (by simp);have f0:=hG6.at_ (i:=0) rfl;obtain ⟨d0,d1,d2,e0,e1,e2,lT⟩:=cZ hT6;have lG:=hG6.lt;have hb6:Bw w w6:=bw5.grown hg6 (by simp;omega) (fun k e=>by cases e;omega);replace hf6:=hf6.mono (B':=w.heap.size+5) (by simp))
  have y:=fun o=>(((((hT6.set_ 0 (.int .i64 0)).set_ 1 (.int .i64 0)).set_ 2 (.slice none 0 0)).alloc o:Blk _ _ Zr)).three
  refine bodyPost_ret (v:=.tuple #[dC,.bool false]) (by simp [results,results90,go_sem,y,dC]) rfl ⟨rfl,?_⟩;exact (bV hb6).alloc (by simp [World.setCell];omega) _
 | true=>
  cases hv:aE (.mk k2 n2 ks2) with
  | false=>
   have hz:cP by_ cut (.mk k n ks)=none:=by rw [cP,hok,if_pos rfl,hct,hv];rfl
   rw [hz];clear hz;go_enter func90,ntmps90;go_wp2_with (first|(go_at_call 116;refine (gT (rR (bc:=w.heap.size+2) (bb:=w.heap.size+1) (g:=w.heap.size+4) hby hcut (((aC _ 3 _ (by simp)).alloc _).alloc _) ((((aC _ 3 _ (by simp)).alloc _).alloc _).alloc _) (by omega) (by omega)) (eJ func117 (by kernel_rfl) (by kernel_rfl)) (aG ks+1) k n ks A c 0 30 _ true (by omega) hs (by omega) (by omega) (by omega) (gG _ _) (aC _ 4 _ (by simp)) (((((hrp.alloc _).alloc _).alloc _).alloc _).alloc _)).mono ?_;rw [hct,hok];intro e w6 hpost;obtain ⟨A6,c6,rfl,hl6,hf6,hG6,hg6⟩:=mR hpost;clear hpost;have hT6:Blk w6 (w.heap.size+1+1+1) Zr:=((aC _ 25 _ (by simp)).alloc _).grown hg6 (by simp);have f0:=hG6.at_ (i:=0) rfl;obtain ⟨d0,d1,d2,e0,e1,e2,lT⟩:=cZ hT6;have lG:=hG6.lt;have hb6:Bw w w6:=bw5.grown hg6 (by simp;omega) (fun k e=>by cases e;omega);replace hf6:=hf6.mono (B':=w.heap.size+5) (by simp))|(go_at_call 119;refine (vR k2 n2 ks2 A6 c6 _ (by omega) (hf6.rd.alloc _) hv).mono ?_;rintro e w8 ⟨rfl,hb8⟩;have hT8:Blk w8 (w.heap.size+1+1+1) Zr:=(hT6.alloc _).keep hb8;obtain ⟨x0,x1,x2,e80,e81,e82⟩:=cA hT8;replace hb8:Bw w w8:=(hb6.alloc hb6.size _).trans (hb8.mono (by have:=hb6.size;simp;omega));have hzz:dC = .agg Zr:=rfl))
   refine bodyPost_ret (v:=.tuple #[dC,.bool false]) (by simp [results,results90,go_sem,x0,x1,x2,dC]) rfl ⟨rfl,?_⟩;exact bV hb8
  | true=>
   have hz:cP by_ cut (.mk k n ks)=some (.mk k2 n2 ks2):=by rw [cP,hok,if_pos rfl,hct,hv];rfl
   rw [hz];clear hz;go_enter func90,ntmps90;go_wp2_with (first|(go_at_call 116;refine (gT (rR (bc:=w.heap.size+2) (bb:=w.heap.size+1) (g:=w.heap.size+4) hby hcut (((aC _ 3 _ (by simp)).alloc _).alloc _) ((((aC _ 3 _ (by simp)).alloc _).alloc _).alloc _) (by omega) (by omega)) (eJ func117 (by kernel_rfl) (by kernel_rfl)) (aG ks+1) k n ks A c 0 30 _ true (by omega) hs (by omega) (by omega) (by omega) (gG _ _) (aC _ 4 _ (by simp)) (((((hrp.alloc _).alloc _).alloc _).alloc _).alloc _)).mono ?_;rw [hct,hok];intro e w6 hpost;obtain ⟨A6,c6,rfl,hl6,hf6,hG6,hg6⟩:=mR hpost;clear hpost;have hT6:Blk w6 (w.heap.size+1+1+1) Zr:=((aC _ 25 _ (by simp)).alloc _).grown hg6 (by simp);have f0:=hG6.at_ (i:=0) rfl;obtain ⟨d0,d1,d2,e0,e1,e2,lT⟩:=cZ hT6;have lG:=hG6.lt;have hb6:Bw w w6:=bw5.grown hg6 (by simp;omega) (fun k e=>by cases e;omega);replace hf6:=hf6.mono (B':=w.heap.size+5) (by simp))|(go_at_call 119;refine (gQ k2 n2 ks2 A6 c6 _ (by omega) (hf6.rd.alloc _) hv).mono ?_;rintro e w8 ⟨rfl,hb8⟩;have hf8:=(hf6.alloc (.cells (Ro k2 n2 A6 ks2.length c6) 25)).below hb8;have hT8:Blk w8 (w.heap.size+1+1+1) Zr:=(hT6.alloc _).keep hb8;obtain ⟨x0,x1,x2,e80,e81,e82⟩:=cA hT8;replace hb8:Bw w w8:=(hb6.alloc hb6.size _).trans (hb8.mono (by have:=hb6.size;simp;omega))))
   refine bodyPost_ret (v:=.tuple #[.agg (Ro k2 n2 A6 ks2.length c6),.bool true]) (by simp [results,results90,go_sem,x0,x1,x2]) rfl ⟨A6,c6,rfl,hl6,?_,?_⟩
   ·exact (mW hf8).mono (by omega)
   ·exact bV hb8
def aNl (args:List Tm)(n d:Int):Tm:=
 if n - d<0 then .mk 1 n [] else if (args.length:Int)≤n - d then .mk 1 (n - args.length) [] else (cP d 0 (args.getD (n - d).toNat default)).getD (.mk 0 0 [])
def aEd (args:List Tm)(n d:Int):Bool:=
 if n - d<0 then true else if (args.length:Int)≤n - d then true else (cP d 0 (args.getD (n - d).toNat default)).isSome
theorem dE {w:World}{k n:Int}{ks:List Tm}{e:Ending}{w':World}(h:oX w (some (.mk k n ks)) e w') :
  ∃A c,e = .returned (.tuple #[.agg (Ro k n A ks.length c),.bool true])∧ks.length≤9223372036854775807∧Fresh w.heap.size w' A ks∧Bw w w':=h
theorem iX {w:World}{e:Ending}{w':World}(h:oX w none e w'):e = .returned (.tuple #[.agg Zr,.bool false])∧Bw w w':=h
theorem cF {t:Tm}(h:aE t=true):t.size≤400:=by simp only [aE,Bool.and_eq_true,decide_eq_true_eq] at h;exact h.2
def aJq (F:Nat)(p:Tm→Bool):Prop:=∀(k n:Int) (ks:List Tm) (A:Option Addr) (c:Nat) (w:World),aG ks≤1099511627775→Rd w A 0 ks→
 Calls prog F #[.agg (Ro k n A ks.length c)] w fun e w'=>e = .returned (.bool (p (.mk k n ks)))∧Bw w w'
def RdX (p:Nat→Prop)(w:World):List Tm→List Value→Prop
 | [],xs=>xs=[]
 | .mk k n ks::ts,xs=>∃A c ys,xs = .int .i64 k :: .int .i64 n :: .slice A ks.length c::ys∧ks.length≤9223372036854775807∧RdP p w A 0 ks∧RdX p w ts ys
theorem RdX.keep {p q:Nat→Prop}{w w':World}(hq:∀b,p b→q b)(hk:∀b,p b→b<w.heap.size→w'.heap[b]?=w.heap[b]?):∀{ts:List Tm} {xs:List Value},RdX p w ts xs→RdX q w' ts xs
 | [],xs,h=>h
 | .mk k n ks::ts,xs,h=>by
  obtain ⟨A,c,ys,e,hl,hr,hx⟩:=h;exact ⟨A,c,ys,e,hl,(hr.blocks hk).mono hq,hx.keep hq hk⟩
theorem RdX.append {p:Nat→Prop}{w:World}{us:List Tm}{y:List Value}(hu:RdX p w us y):∀{ts:List Tm} {xs:List Value},RdX p w ts xs→RdX p w (ts++us) (xs++y)
 | [],xs,h=>by have h:xs=[]:=h;subst h;exact hu
 | .mk k n ks::ts,xs,h=>by
  obtain ⟨A,c,ys,rfl,hl,hr,hx⟩:=h;exact ⟨A,c,ys++y,rfl,hl,hr,RdX.append hu hx⟩
theorem RdX.length {p:Nat→Prop}{w:World}:∀{ts:List Tm} {xs:List Value},RdX p w ts xs→xs.length=ts.length*3
 | [],xs,h=>by have h:xs=[]:=h;subst h;rfl
 | .mk k n ks::ts,xs,h=>by
  obtain ⟨A,c,ys,rfl,hl,hr,hx⟩:=h;have:=hx.length;simp only [List.length_cons]
  omega
theorem RdX.rd {p:Nat→Prop}{w:World}{g off:Nat}:∀{ts:List Tm} {xs:List Value} {i:Nat},RdX p w ts xs→(∀j u,xs[j]?=some u→w.cell? ⟨g,off+i*3+j,none⟩=some u)→Rd w (some ⟨g,off,none⟩) i ts
 | [],xs,i,_,_=>Rd.nil
 | .mk k n ks::ts,xs,i,h,hc=>by
  obtain ⟨A,c,ys,rfl,hl,hr,hx⟩:=h;refine Rd.cons_iff.2 ⟨⟨g,off,rfl,RdC.iff.2 ⟨hc 0 _ rfl,hc 1 _ rfl,A,c,hc 2 _ rfl,hl,hr.rd⟩⟩,hx.rd fun j u hu=>?_⟩;have:=hc (j+3) u (by simpa using hu);rw [← this];congr 2
  omega
theorem RdX.rdp {p:Nat→Prop}{w:World}{g off:Nat}(hg:p g):∀{ts:List Tm} {xs:List Value} {i:Nat},RdX p w ts xs→(∀j u,xs[j]?=some u→w.cell? ⟨g,off+i*3+j,none⟩=some u)→RdP p w (some ⟨g,off,none⟩) i ts
 | [],xs,i,_,_=>RdP.nil
 | .mk k n ks::ts,xs,i,h,hc=>by
  obtain ⟨A,c,ys,rfl,hl,hr,hx⟩:=h;refine RdP.cons_iff.2 ⟨⟨g,off,rfl,RdPC.iff.2 ⟨hg,hc 0 _ rfl,hc 1 _ rfl,A,c,hc 2 _ rfl,hl,hr⟩⟩,hx.rdp hg fun j u hu=>?_⟩;have:=hc (j+3) u (by simpa using hu);rw [← this];congr 2
  omega
def PB (lo:Nat→Prop)(B:Nat)(w:World)(v:Value)(b:Nat):Prop:=(lo b∨B≤b)∧b<w.heap.size∧v.ownBlock≠some b
def PartR (lo:Nat→Prop)(B:Nat)(w:World)(v:Value)(ts:List Tm):Prop:=
 ∃xs,w.ownsRow B 25 3 v ts.length xs∧RdX (PB lo B w v) w ts xs
section
variable {lo:Nat→Prop}{B:Nat}{w w':World}{v:Value}{ts:List Tm}
theorem PartR.nil:PartR lo B w (.slice none 0 0) []:=⟨[],World.ownsRow_nil _ _ _ _,rfl⟩
theorem PartR.below (h:PartR lo B w v ts)(hk:Bw w w'):PartR lo B w' v ts:=by
 obtain ⟨xs,h1,h2⟩:=h;refine ⟨xs,⟨h1.1,?_⟩,h2.keep (fun b hb=>⟨hb.1,kT hb.2.1 hk.size,hb.2.2⟩) fun b hb hl=>hk.block b hl⟩;rcases h1.2 with hn|⟨g,cap,cur,rfl,hb,hg,r⟩
 ·exact .inl hn
 ·exact .inr ⟨g,cap,cur,rfl,hb,(hk.block g (Array.getElem?_eq_some_iff.1 hg).1).trans hg,r⟩
theorem PartR.alloc (h:PartR lo B w v ts)(o:Obj):PartR lo B (w.alloc o) v ts:=h.below (bw1)
theorem PartR.drew (h:PartR lo B w v ts):PartR lo B w.drew v ts:=h.below (dV _ _).drew
theorem PartR.setCell (h:PartR lo B w v ts){a:Addr}(ha:¬lo a.block∧a.block<B)(u:Value):PartR lo B (w.setCell a u) v ts:=by
 obtain ⟨xs,h1,h2⟩:=h;refine ⟨xs,⟨h1.1,?_⟩,h2.keep (fun b hb=>⟨hb.1,by simpa using hb.2.1,hb.2.2⟩) fun b hb hl=>lR w a u b (fun e=>by subst e;exact hb.1.elim ha.1 (fun h=>by omega))⟩;rcases h1.2 with hn|⟨g,cap,cur,rfl,hb,hg,r⟩
 ·exact .inl hn
 ·exact .inr ⟨g,cap,cur,rfl,hb,(lR w a u g (by omega)).trans hg,r⟩
theorem PartR.rd (h:PartR lo B w v ts):∃A c,v = .slice A ts.length c∧RdP (fun b=>lo b∨B≤b) w A 0 ts:=by
 obtain ⟨xs,h1,h2⟩:=h;rcases h1.2 with ⟨rfl,h0⟩|⟨g,cap,cur,rfl,hb,hg,_,_,_,htk⟩
 ·have:ts=[]:=lEn h0;subst this;exact ⟨none,0,rfl,RdP.nil⟩
 ·refine ⟨_,_,rfl,RdX.rdp (.inr hb) (h2.keep (fun b hb=>hb.1) fun _ _ _=>rfl) fun j u hu=>?_⟩;rw [show 0+0*3+j=j by omega,cell_of_row w g j cur 25 (0,0) hg];have h3:=htk;rw [← h3,List.getElem?_take] at hu;split at hu
  ·simpa using hu
  ·cases hu
theorem PartR.shape (h:PartR lo B w v ts):∃A c,v = .slice A ts.length c:=by
 obtain ⟨A,c,hv,_⟩:=h.rd;exact ⟨A,c,hv⟩
end
section
variable {lo:Nat→Prop}{B:Nat}{w:World}{v:Value}{ts:List Tm}{k n:Int}{ks:List Tm}{A:Option Addr}{c:Nat}{q:Nat→Prop}
theorem wD (hp:PartR lo B w v ts)(hB:B≤w.heap.size)(hr:RdP q w A 0 ks)(hq:∀b,q b→PB lo B w v b)(hl:ks.length≤9223372036854775807)(hlen:ts.length≤1099511627776)(ty:TypeId) :
  ∃v' w',(Builtin.append_ #[23,23] ty #[v,.slice (some ⟨w.heap.size,0,none⟩) 1 1]).run prog (w.alloc (.cells (Ro k n A ks.length c) 25)) = .ok v' w'∧
   PartR lo B w' v' (ts++[.mk k n ks])∧Below B w w'∧w.grownBy w' v.ownBlock:=by
 obtain ⟨i,hi,hz,hz1,hz2⟩:=info_parts jT;obtain ⟨xs,k1,h2⟩:=hp.alloc (.cells (Ro k n A ks.length c) 25);have hge:∀g,v.ownBlock=some g→B≤g:=fun g hg=>(k1.lt g hg).1
 obtain ⟨v',w',hrun,hown,hg,_,hat⟩:=run_append_own_at (P:=prog) (w.alloc (.cells (Ro k n A ks.length c) 25)) B 23 ty 25 i _ 3 40 Tryz.underlying23 hi hz hz1 hz2 rfl (by simp) v ts.length xs k1 ⟨w.heap.size,0,none⟩ 1 1 [.int .i64 k,.int .i64 n,.slice A ks.length c] rfl (by
  intro j u hj;match j,hj with
  | 0,hj=>simp only [List.getElem?_cons_zero,Option.some.injEq] at hj;subst hj;simp [Addr.add]
  | 1,hj=>simp only [List.getElem?_cons_succ,List.getElem?_cons_zero,Option.some.injEq] at hj;subst hj;simp [Addr.add]
  | 2,hj=>simp only [List.getElem?_cons_succ,List.getElem?_cons_zero,Option.some.injEq] at hj;subst hj;simp [Addr.add]) (by
  intro u hu;simp only [List.mem_cons,List.not_mem_nil,or_false] at hu
  rcases hu with rfl|rfl|rfl<;>rfl) (by simp only [maxLen];omega) (by omega) (by simp;omega)
 have hsz:w.heap.size+1≤w'.heap.size:=by have:=hg.size;simpa using this
 have hne:∀b,b<(w.alloc (.cells (Ro k n A ks.length c) 25)).heap.size→v.ownBlock≠some b→v'.ownBlock≠some b:=by
  intro b hb hv e;rcases hat with e'|e'
  ·exact hv (e'.symm.trans e)
  ·rw [e'] at e;injection e with e;omega
 have hst:∀b,PB lo B (w.alloc (.cells (Ro k n A ks.length c) 25)) v b→PB lo B w' v' b:=fun b hb=>⟨hb.1,by have:=hb.2.1;have:=hg.size;omega,hne b hb.2.1 hb.2.2⟩
 have hkp:∀b,PB lo B (w.alloc (.cells (Ro k n A ks.length c) 25)) v b→b<(w.alloc (.cells (Ro k n A ks.length c) 25)).heap.size→w'.heap[b]?=(w.alloc (.cells (Ro k n A ks.length c) 25)).heap[b]?:=fun b hb hl=>hg.block b hl (fun e=>hb.2.2 e.symm)
 have hr':RdP (PB lo B w' v') w' A 0 ks:=(((hr.alloc (.cells (Ro k n A ks.length c) 25)).mono (q:=PB lo B (w.alloc (.cells (Ro k n A ks.length c) 25)) v) (fun b hb=>⟨(hq b hb).1,by have:=(hq b hb).2.1;simp;omega,(hq b hb).2.2⟩)).blocks hkp).mono hst;refine ⟨v',w',hrun,⟨xs++[.int .i64 k,.int .i64 n,.slice A ks.length c],by simpa using hown,RdX.append (show RdX (PB lo B w' v') w' [.mk k n ks] _ from ⟨A,c,[],rfl,hl,hr',rfl⟩) (h2.keep hst hkp)⟩,?_,lF (kP (gG _ _) _) hg⟩;exact ((dV _ _).alloc hB _).trans ⟨hg.os,hg.tape,hg.output,hg.size,fun k hk=>hg.block k (by simp;omega) (fun e=>by have:=hge k e.symm;omega)⟩
theorem lV (hp:PartR lo B w v ts)(hB:B≤w.heap.size)(hr:RdP q w A 0 ks)(hq:∀b,q b→PB lo B w v b)(hl:ks.length≤9223372036854775807){m:Nat}(hm:ts.length=m)(hlen:m≤1099511627776)
  {ops:Array Oper} {rest:List Oper} {o:Oper} {a:Act} {Q:Exit→Act→World→Prop} (hgd:o.guard=none) (s x:Operand)
  (ho : o.op = .call { callee := .builtin .append, args := #[s, x], argTypes := #[23, 23] }) (hse : a.eval s = v) (hx : a.eval x = .slice (some ⟨w.heap.size, 0, none⟩) 1 1)
  (h : ∀ A' c' w', PartR lo B w' (.slice A' (m + 1) c') (ts ++ [.mk k n ks]) → Below B w w' → w.grownBy w' v.ownBlock → wpList prog ops Q rest (a.put o.dst (.slice A' (m + 1) c')) w') :
  wpList prog ops Q (o::rest) a (w.alloc (.cells (Ro k n A ks.length c) 25)):=by
 subst hm;refine wpList_plain hgd fun K hK=>?_
 obtain ⟨v',w',hrun,h2,h3,h4⟩:=wD (k:=k) (n:=n) (c:=c) hp hB hr hq hl hlen o.type;unfold Oper.wp execOp
 simp only [ho,resolve,invoke,builtin,Sem.run_bind,Sem.run_pure,Result.andThen_ok,List.map_toArray,List.map_cons,List.map_nil,hse,hx,hrun]
 obtain ⟨A',c',rfl⟩:=h2.shape;rw [List.length_append] at h2⊢;exact hK _ _ (h A' c' w' h2 h3 h4)
end
theorem RdX.set {p:Nat→Prop}{w:World}{ku nu:Int}{us:List Tm}{U:Option Addr}{cu:Nat}(hl:us.length≤9223372036854775807)(hu:RdP p w U 0 us):∀{ts:List Tm} {xs:List Value} {i:Nat},RdX p w ts xs→i<ts.length→
  RdX p w (ts.set i (.mk ku nu us)) (((xs.set (i*3) (.int .i64 ku)).set (i*3+1) (.int .i64 nu)).set (i*3+2) (.slice U us.length cu))
 | [],_,_,_,h=>absurd h (Nat.not_lt_zero _)
 | .mk k n ks::ts,xs,0,h,_=>by
  obtain ⟨A,c,ys,rfl,hl1,hr,hx⟩:=h;exact ⟨U,cu,ys,rfl,hl,hu,hx⟩
 | .mk k n ks::ts,xs,i+1,h,hi=>by
  obtain ⟨A,c,ys,rfl,hl1,hr,hx⟩:=h;refine ⟨A,c,_,?_,hl1,hr,RdX.set (cu:=cu) hl hu hx (Nat.lt_of_succ_lt_succ hi)⟩;rw [show (i+1)*3=i*3+3 from by omega,show i*3+3+1=(i*3+1)+3 from by omega,show i*3+3+2=(i*3+2)+3 from by omega];rfl
def RowS (p:Nat→Prop)(w:World)(g:Nat)(ts:List Tm):Prop:=
 ∃(cur:Array Value) (xs:List Value),Blk w g cur∧(∀(j:Nat) (u:Value),xs[j]?=some u→cur[j]?=some u)∧RdX p w ts xs
section
variable {p:Nat→Prop}{w w':World}{g:Nat}{ts:List Tm}
theorem RowS.lt (h:RowS p w g ts):g<w.heap.size:=by obtain ⟨_,_,h,_⟩:=h;exact h.lt
theorem RowS.frozen (h:RowS p w g ts)(j:Nat):w.frozen? ⟨g,j,none⟩=false:=by obtain ⟨_,_,h,_⟩:=h;exact h.frozen j
theorem RowS.cell (h:RowS p w g ts){j:Nat}(hj:j<ts.length*3):∃u,w.cell? ⟨g,j,none⟩=some u:=by
 obtain ⟨cur,xs,hB,hcl,h2⟩:=h;have hxl:=h2.length;exact ⟨xs[j]'(by omega),hB.at_ (hcl j _ (iG (by omega)))⟩
theorem RowS.below (h:RowS p w g ts)(hb:Bw w w')(hp:∀b,p b→b<w.heap.size):RowS p w' g ts:=by
 obtain ⟨cur,xs,hB,hcl,h2⟩:=h;exact ⟨cur,xs,hB.keep hb,hcl,h2.keep (fun _ h=>h) fun b hb' _=>hb.block b (hp b hb')⟩
theorem RowS.setCell (h:RowS p w g ts){a:Addr}(ha:¬p a.block)(hg:g≠a.block)(u:Value):RowS p (w.setCell a u) g ts:=by
 obtain ⟨cur,xs,hB,hcl,h2⟩:=h;exact ⟨cur,xs,hB.far hg u,hcl,h2.keep (fun _ h=>h) fun b hb' _=>lR w a u b (fun e=>ha (e▸hb'))⟩
theorem RowS.set (h:RowS p w g ts)(hpg:¬p g){i:Nat}(hi:i<ts.length){ku nu:Int}{us:List Tm}{U:Option Addr}{cu:Nat}(hl:us.length≤9223372036854775807){q r:Nat→Prop}(hu:RdP q w U 0 us)(hq:¬q g)(hr1:∀b,p b→r b)(hr2:∀b,q b→r b)(hrg:r g) :
  RdP r (((w.setCell ⟨g,i*3,none⟩ (.int .i64 ku)).setCell ⟨g,i*3+1,none⟩ (.int .i64 nu)).setCell ⟨g,i*3+2,none⟩ (.slice U us.length cu)) (some ⟨g,0,none⟩) 0 (ts.set i (.mk ku nu us)):=by
 obtain ⟨cur,xs,hB1,hcl,h2⟩:=h;have hxl:=h2.length;have h3:RdX (fun b=>b≠g∧r b) w ts xs:=h2.keep (fun b hb=>⟨fun (e:b=g)=>hpg (e▸hb),hr1 b hb⟩) fun _ _ _=>rfl
 have h4:=RdX.set (ku:=ku) (nu:=nu) (cu:=cu) hl (hu.mono (q:=fun b=>b≠g∧r b) fun b hb=>⟨fun (e:b=g)=>hq (e▸hb),hr2 b hb⟩) h3 hi;have hset:=((hB1.set_ (i*3) (.int .i64 ku)).set_ (i*3+1) (.int .i64 nu)).set_ (i*3+2) (.slice U us.length cu);refine RdX.rdp hrg (h4.keep (q:=r) (fun _ h=>h.2) fun b hb hl=>?_) fun j u hu2=>?_
 ·rw [lR _ _ _ b (by simpa using hb.1),lR _ _ _ b (by simpa using hb.1),lR _ _ _ b (by simpa using hb.1)]
 ·rw [show 0+0*3+j=j from by omega];refine hset.at_ ?_;have hcs':∀j,j<xs.length→j<cur.size:=fun j hj=>by
   have:=hcl j _ (iG hj);exact (Array.getElem?_eq_some_iff.1 this).1
  rw [Array.getElem?_setIfInBounds,Array.getElem?_setIfInBounds,Array.getElem?_setIfInBounds];rw [List.getElem?_set,List.getElem?_set,List.getElem?_set] at hu2;simp only [List.length_set] at hu2
  have hb2:i*3+2<xs.length:=by omega
  have c0:=hcs' (i*3) (by omega);have c1:=hcs' (i*3+1) (by omega);have c2:=hcs' (i*3+2) (by omega);simp only [Array.size_setIfInBounds]
  by_cases j2:i*3+2=j
  ·rw [if_pos j2] at hu2⊢;rw [if_pos (by omega)] at hu2;rw [if_pos (by omega)];exact hu2
  ·rw [if_neg j2] at hu2⊢;by_cases j1:i*3+1=j
   ·rw [if_pos j1] at hu2⊢;rw [if_pos (by omega)] at hu2;rw [if_pos (by omega)];exact hu2
   ·rw [if_neg j1] at hu2⊢;by_cases j0:i*3=j
    ·rw [if_pos j0] at hu2⊢;rw [if_pos (by omega)] at hu2;rw [if_pos (by omega)];exact hu2
    ·rw [if_neg j0] at hu2⊢;exact hcl j u hu2
def RowT (p:Nat→Prop)(w:World)(g:Nat)(ts:List Tm):Prop:=RowS p w g ts∧∀b,p b→b<w.heap.size
theorem RowT.below (h:RowT p w g ts)(hb:Bw w w'):RowT p w' g ts:=⟨h.1.below hb h.2,fun b hp=>kT (h.2 b hp) hb.size⟩
theorem RowT.setCell (h:RowT p w g ts){a:Addr}(ha:¬p a.block)(hg:g≠a.block)(u:Value):RowT p (w.setCell a u) g ts:=⟨h.1.setCell ha hg u,fun b hb=>by simpa using h.2 b hb⟩
end
theorem PartR.rowS {lo:Nat→Prop}{B:Nat}{w:World}{A:Option Addr}{n c:Nat}{ts:List Tm}(h:PartR lo B w (.slice A n c) ts)(hi:0<ts.length) :
  ∃g,A=some ⟨g,0,none⟩∧n=ts.length∧B≤g∧g<w.heap.size∧RowT (fun b=>(lo b∨B≤b)∧b<w.heap.size∧b≠g) w g ts:=by
 obtain ⟨xs,h1,h2⟩:=h;rcases h1.2 with ⟨e,h0⟩|⟨g,cap,cur,e,hb,hg,hn,hmx,hcs,htk⟩
 ·omega
 ·injection e with e1 e2 e3;subst e1 e2 e3;have hB:Blk w g cur:=⟨25,hg⟩;refine ⟨g,rfl,rfl,hb,hB.lt,⟨cur,xs,hB,fun j u hu=>?_,h2.keep (fun b hb=>⟨hb.1,hb.2.1,fun e=>hb.2.2 (by rw [e];rfl)⟩) fun _ _ _=>rfl⟩,fun b hb=>hb.2.1⟩;rw [← htk,List.getElem?_take] at hu;split at hu
  ·simpa using hu
  ·cases hu
end Go.Proofs.YtddkehjdjfmhmaaGreat
