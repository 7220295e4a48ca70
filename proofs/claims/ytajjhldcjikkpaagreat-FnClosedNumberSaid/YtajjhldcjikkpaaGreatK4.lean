/- Parts of the proof. No condition. -/
import Derived.Test.YtajjhldcjikkpaaGreatK2
import Derived.Test.YtajjhldcjikkpaaGreatK3
open Go.Proofs.Tryz
namespace Go.Proofs.YtajjhldcjikkpaaGreat
open Go.RowKit
set_option maxHeartbeats 2000000
set_option maxRecDepth 100000
set_option linter.unusedSimpArgs false
set_option linter.unusedVariables false
theorem bM (k n:Int)(ks:List Tm)(A:Option Addr)(c:Nat)(w:World)(hM:aH ks≤1099511627775)(hr:Rd w A 0 ks) :
  Calls prog 28 #[.agg (Ro k n A ks.length c)] w fun e w'=>e = .returned (.bool (aE (.mk k n ks)))∧Bw w w':=by
 have hlen:=aQ ks;have hrp:RdP (·≠w.heap.size+1) w A 0 ks:=hr.rdp.mono (fun b hb=>by have hb:b<w.heap.size:=hb;show b≠_;omega);go_enter func28,ntmps28;go_wp2_with (go_at_call 48;refine (aNv (aH ks+1) k n ks A c 1 30 0 (w.heap.size+1) _ (by omega) (by omega) (by omega) (by omega) (by omega) (by omega) (by omega) (aC _ _ _ (by simp)) ((hrp.alloc _).alloc _)).mono ?_;rintro e w3 ⟨b,cx,rfl,hbe,hcx,hx0,hx1,hG3,hg3⟩;clear hcx hG3)
 go_ret
 refine ⟨eU ?_,bw2.grown hg3 (by simp;omega) (fun k e=>by cases e;omega)⟩;show kQ 30 0 k n ks=_
 unfold kQ aE
 rw [Tm.size];by_cases h:aH ks+1≤400
 ·rw [decide_eq_true h,decide_eq_true (by omega)]
 ·rw [decide_eq_false h,decide_eq_false (by omega)]
mutual
def nrm:Tm→Bool | .mk k _ ks=>aDk ks && (cH k ks==0)
def aDk:List Tm→Bool|[]=>true|t::ts=>nrm t && aDk ts
end
theorem aEz:∀ks:List Tm,aDk ks=true↔∀t,t∈ks→nrm t=true
 | []=>by simp [aDk]
 | t::ts=>by rw [aDk,Bool.and_eq_true,aEz ts];simp
def Path (w:World)(A:Option Addr)(m:Nat):Prop:=
 ∃xs:List Int,xs.length=m∧(0<m→∃b off,A=some ⟨b,off,none⟩∧∀(i:Nat) (u:Value),(xs.map (Value.int .i64))[i]?=some u→w.cell? ⟨b,off+i,none⟩=some u)
theorem Path.nil {w:World}{A:Option Addr}:Path w A 0:=⟨[],rfl,fun h=>absurd h (Nat.lt_irrefl _)⟩
theorem Path.alloc {w:World}{A:Option Addr}{m:Nat}(h:Path w A m)(o:Obj):Path (w.alloc o) A m:=by
 obtain ⟨xs,h1,h2⟩:=h;refine ⟨xs,h1,fun hm=>?_⟩;obtain ⟨b,off,h3,h4⟩:=h2 hm;exact ⟨b,off,h3,fun i u hu=>Keeps.alloc w o _ _ (h4 i u hu)⟩
theorem aPt:(prog.info? 3).map (fun i=>(i.zero,i.size,i.bytes))=some (some (.int .i64 0),1,8):=by kernel_rfl
theorem eH (n:Int)(w:World):Calls prog 131 #[.int .i64 n] w fun e w'=>e = .returned (.agg (Ro 1 n none 0 0))∧Bw w w':=by
 go_enter func131,ntmps131;go_wp2_with fail
 exact bodyPost_ret (v:=.agg (Ro 1 n none 0 0)) (by simp [results,results131,go_sem]) rfl ⟨rfl,bw1⟩
def fT:Value:=.agg Zr
theorem iB (k n:Int)(ks:List Tm)(A:Option Addr)(c:Nat)(w:World)(hM:aH ks≤1099511627775)(hr:Rd w A 0 ks)(hv:aE (.mk k n ks)=true) :
  Calls prog 86 #[(.agg (Ro k n A ks.length c))] w fun e w'=>e = .returned (.tuple #[(.agg (Ro k n A ks.length c)),.bool true])∧Bw w w':=by
 go_enter func86,ntmps86;go_wp2_with (go_at_call 28;refine (bM k n ks A c _ hM ((hr.alloc _).alloc _)).mono ?_;rw [hv];rintro e w1 ⟨rfl,hb1⟩;have hB:=cV hb1;have hT:=bH hb1;obtain ⟨p0,p1,p2⟩:=hB.three;obtain ⟨d0,d1,d2,e0,e1,e2⟩:=bW hT;replace hb1:Bw w w1:=bw2.trans (hb1.mono (by simp;omega)))
 refine bodyPost_ret (v:=.tuple #[(.agg (Ro k n A ks.length c)),.bool true]) (by simp [results,results86,go_sem,d0,d1,d2]) rfl ⟨rfl,?_⟩;exact bT hb1
theorem wM (k n:Int)(ks:List Tm)(A:Option Addr)(c:Nat)(w:World)(hM:aH ks≤1099511627775)(hr:Rd w A 0 ks)(hv:aE (.mk k n ks)=false) :
  Calls prog 86 #[(.agg (Ro k n A ks.length c))] w fun e w'=>e = .returned (.tuple #[fT,.bool false])∧Bw w w':=by
 go_enter func86,ntmps86;go_wp2_with (go_at_call 28;refine (bM k n ks A c _ hM ((hr.alloc _).alloc _)).mono ?_;rw [hv];rintro e w1 ⟨rfl,hb1⟩;have hT:=bH hb1;obtain ⟨d0,d1,d2,e0,e1,e2⟩:=bW hT;replace hb1:Bw w w1:=bw2.trans (hb1.mono (by simp;omega)))
 refine bodyPost_ret (v:=.tuple #[fT,.bool false]) (by simp [results,results86,go_sem,d0,d1,d2,fT]) rfl ⟨rfl,?_⟩;exact bT hb1
def shF (by_ cut:Int)(n d:Int):Tm:=.mk 1 (if cut≤n - d then n+by_ else n) []
def uT (by_ cut:Int)(n d:Int):Bool:=if cut≤n - d then decide (cut≤n+by_ - d) && decide (n+by_≤20) else true
theorem tU {by_ cut:Int}{bc bb g:Nat}{W0:World}(hb1 : -1000≤by_∧by_≤1000)(hc : -1000≤cut∧cut≤1000)(hC:Blk W0 bc #[.int .i64 cut])(hB:Blk W0 bb #[.int .i64 by_])(hcg:bc≠g)(hbg:bb≠g) :
  aMy 130 [.pointer (some ⟨bc,0,none⟩),.pointer (some ⟨bb,0,none⟩),.pointer (some ⟨g,0,none⟩)] W0 g (shF by_ cut) (uT by_ cut):=by
 intro n d w b hn0 hn1 hd0 qE hW hg;have hCw:=hC.grown hW (by simpa using hcg);have hBw:=hB.grown hW (by simpa using hbg);have x0:=hCw.at_ (i:=0) rfl;have x1:=hBw.at_ (i:=0) rfl;have x2:=hg.at_ (i:=0) rfl;have z2:=hg.frozen 0;have l0:=hCw.lt;have l1:=hBw.lt;have l2:=hg.lt;by_cases h1:cut≤n - d
 ·have hz:shF by_ cut n d = .mk 1 (n+by_) []:=by rw [shF,if_pos h1]
  have hzo:uT by_ cut n d=(decide (cut≤n+by_ - d) && decide (n+by_≤20)):=by rw [uT,if_pos h1]
  rw [hz,hzo];have q1:decide (cut≤n - d)=true:=decide_eq_true h1;have H:=aD h1;clear h1 hz hzo;cases b with
  | false=>
   rw [Bool.false_and];go_enter func130,ntmps130;go_wp2_with (go_at_call 131;refine (eH _ _).mono ?_;rintro e w1 ⟨rfl,hv1⟩;have hT:Blk w1 w.heap.size Zr:=(aC _ 25 _ (by simp)).keep hv1;obtain ⟨d0,d1,d2,e0,e1,e2⟩:=bW hT;have hG1:Blk w1 g #[.bool (false)]:=((hg.set_ 0 (.bool (false))).alloc (.cells Zr 25)).keep hv1;replace hv1:w.grownBy w1 (some g):=bI (aM (aG (iM _ _) (.inl rfl) _) _) hv1)
   refine bodyPost_ret (v:=.agg (Ro 1 (n+by_) none 0 0)) (by simp [results,results130,go_sem,d0,d1,d2]) rfl ⟨none,0,rfl,by simp [Tm.ks],Fresh.nil,?_,?_⟩
   ·exact ((hG1.far (by simp;omega) _).far (by simp;omega) _).far (by simp;omega) _
   ·exact aG (aG (aG hv1 (.inr (by simp)) _) (.inr (by simp)) _) (.inr (by simp)) _
  | true=>
   by_cases h2:cut≤n+by_ - d
   ·have q2:decide (cut≤n+by_ - d)=true:=decide_eq_true h2;rw [q2,Bool.true_and,Bool.true_and];have H2:=aD h2;clear h2;cases q3:decide (n+by_≤20) with
    | false=>
     go_enter func130,ntmps130;go_wp2_with (go_at_call 131;refine (eH _ _).mono ?_;rintro e w1 ⟨rfl,hv1⟩;have hT:Blk w1 w.heap.size Zr:=(aC _ 25 _ (by simp)).keep hv1;obtain ⟨d0,d1,d2,e0,e1,e2⟩:=bW hT;have hG1:Blk w1 g #[.bool (false)]:=((hg.set_ 0 (.bool (false))).alloc (.cells Zr 25)).keep hv1;replace hv1:w.grownBy w1 (some g):=bI (aM (aG (iM _ _) (.inl rfl) _) _) hv1)
     refine bodyPost_ret (v:=.agg (Ro 1 (n+by_) none 0 0)) (by simp [results,results130,go_sem,d0,d1,d2]) rfl ⟨none,0,rfl,by simp [Tm.ks],Fresh.nil,?_,?_⟩
     ·exact ((hG1.far (by simp;omega) _).far (by simp;omega) _).far (by simp;omega) _
     ·exact aG (aG (aG hv1 (.inr (by simp)) _) (.inr (by simp)) _) (.inr (by simp)) _
    | true=>
     go_enter func130,ntmps130;go_wp2_with (go_at_call 131;refine (eH _ _).mono ?_;rintro e w1 ⟨rfl,hv1⟩;have hT:Blk w1 w.heap.size Zr:=(aC _ 25 _ (by simp)).keep hv1;obtain ⟨d0,d1,d2,e0,e1,e2⟩:=bW hT;have hG1:Blk w1 g #[.bool (true)]:=((hg.set_ 0 (.bool (true))).alloc (.cells Zr 25)).keep hv1;replace hv1:w.grownBy w1 (some g):=bI (aM (aG (iM _ _) (.inl rfl) _) _) hv1)
     refine bodyPost_ret (v:=.agg (Ro 1 (n+by_) none 0 0)) (by simp [results,results130,go_sem,d0,d1,d2]) rfl ⟨none,0,rfl,by simp [Tm.ks],Fresh.nil,?_,?_⟩
     ·exact ((hG1.far (by simp;omega) _).far (by simp;omega) _).far (by simp;omega) _
     ·exact aG (aG (aG hv1 (.inr (by simp)) _) (.inr (by simp)) _) (.inr (by simp)) _
   ·have q2:decide (cut≤n+by_ - d)=false:=decide_eq_false h2;rw [q2,Bool.false_and,Bool.true_and];have H2:=aD h2;clear h2;go_enter func130,ntmps130;go_wp2_with (go_at_call 131;refine (eH _ _).mono ?_;rintro e w1 ⟨rfl,hv1⟩;have hT:Blk w1 w.heap.size Zr:=(aC _ 25 _ (by simp)).keep hv1;obtain ⟨d0,d1,d2,e0,e1,e2⟩:=bW hT;have hG1:Blk w1 g #[.bool (false)]:=((hg.set_ 0 (.bool (false))).alloc (.cells Zr 25)).keep hv1;replace hv1:w.grownBy w1 (some g):=bI (aM (aG (iM _ _) (.inl rfl) _) _) hv1)
    refine bodyPost_ret (v:=.agg (Ro 1 (n+by_) none 0 0)) (by simp [results,results130,go_sem,d0,d1,d2]) rfl ⟨none,0,rfl,by simp [Tm.ks],Fresh.nil,?_,?_⟩
    ·exact ((hG1.far (by simp;omega) _).far (by simp;omega) _).far (by simp;omega) _
    ·exact aG (aG (aG hv1 (.inr (by simp)) _) (.inr (by simp)) _) (.inr (by simp)) _
 ·have hz:shF by_ cut n d = .mk 1 n []:=by rw [shF,if_neg h1]
  have hzo:uT by_ cut n d=true:=by rw [uT,if_neg h1]
  rw [hz,hzo,Bool.and_true];have q1:decide (cut≤n - d)=false:=decide_eq_false h1;have H:=aD h1;clear h1 hz hzo;go_enter func130,ntmps130;go_wp2_with (go_at_call 131;refine (eH _ _).mono ?_;rintro e w1 ⟨rfl,hv1⟩;have hT:Blk w1 w.heap.size Zr:=(aC _ 25 _ rfl).keep hv1;obtain ⟨d0,d1,d2,e0,e1,e2⟩:=bW hT;have hG1:=(hg.alloc (.cells Zr 25)).keep hv1;replace hv1:w.grownBy w1 (some g):=bI (aM (iM _ _) _) hv1)
  refine bodyPost_ret (v:=.agg (Ro 1 n none 0 0)) (by simp [results,results130,go_sem,d0,d1,d2]) rfl ⟨none,0,rfl,by simp [Tm.ks],Fresh.nil,?_,?_⟩
  ·exact ((hG1.far (by simp;omega) _).far (by simp;omega) _).far (by simp;omega) _
  ·exact aG (aG (aG hv1 (.inr (by simp)) _) (.inr (by simp)) _) (.inr (by simp)) _
theorem aFc {f:Int→Int→Tm}{M:Nat}(hM:1≤M)(hf:∀n d,(f n d).size≤M):(∀t d,(uP f d t).size≤t.size*M)∧(∀ts k d i,aH (gT f k d i ts)≤aH ts*M):=by
 refine bO (fun k n ks ih d=>?_) (fun k d i=>by simp [gT,aH]) (fun t ts h1 h2 k d i=>?_)
 ·rw [uP,Tm.size,Nat.add_mul,Nat.one_mul];split
  ·have:=hf n d;omega
  ·rw [Tm.size];have:=ih k d 0;omega
 ·rw [gT,aH,aH,Nat.add_mul];have:=h1 (d+aR k i);have:=h2 k d (i+1);omega
theorem aOs (by_ cut n d:Int):(shF by_ cut n d).size≤1:=by simp [shF,Tm.size,aH]
def uK (w:World)(o:Option Tm)(e:Ending)(w':World):Prop:=
 match o with
 | none=>e = .returned (.tuple #[fT,.bool false])∧Bw w w'
 | some t=>∃A c,e = .returned (.tuple #[.agg (Ro t.k t.n A t.ks.length c),.bool true])∧t.ks.length≤9223372036854775807∧Fresh w.heap.size w' A t.ks∧Bw w w'
def cG (by_ cut:Int)(t:Tm):Option Tm:=if fM (uT by_ cut) 0 t=true then (if aE (uP (shF by_ cut) 0 t)=true then some (uP (shF by_ cut) 0 t) else none) else none
theorem iV (k n:Int)(ks:List Tm)(A:Option Addr)(c:Nat)(by_ cut:Int)(w:World)(hby : -1000≤by_∧by_≤1000)(hcut : -1000≤cut∧cut≤1000)(hM:aH ks≤1000000000)(hs:shape 30 (.mk k n ks)=true)(hr:Rd w A 0 ks) :
  Calls prog 102 #[(.agg (Ro k n A ks.length c)),.int .i64 by_,.int .i64 cut] w (uK w (cG by_ cut (.mk k n ks))):=by
 have hrp:RdP (·≠w.heap.size+4) w A 0 ks:=hr.rdp.mono (fun b hb=>by have hb:b<w.heap.size:=hb;show b≠_;omega);obtain ⟨k2,n2,ks2,hct⟩:=jF (uP (shF by_ cut) 0 (.mk k n ks));have hsz2:aH ks2≤1000000001:=by
  have:=(aFc (pS 1) (aOs by_ cut)).1 (.mk k n ks) 0;rw [hct,Tm.size,Tm.size] at this;omega
 cases hok:fM (uT by_ cut) 0 (.mk k n ks) with
 | false=>
  have hz:cG by_ cut (.mk k n ks)=none:=by rw [cG,hok];rfl
  rw [hz];clear hz;go_enter func102,ntmps102;go_wp2_with (go_at_call 129;refine (hE (tU (bc:=w.heap.size+2) (bb:=w.heap.size+1) (g:=w.heap.size+4) hby hcut (((aC _ 3 _ (by simp)).alloc _).alloc _) ((((aC _ 3 _ (by simp)).alloc _).alloc _).alloc _) (by omega) (by omega)) (fO func130 (by kernel_rfl) (by kernel_rfl)) (aH ks+1) k n ks A c 0 30 _ true (by omega) hs (by omega) (by omega) (by omega) (iM _ _) (aC _ 4 _ (by simp)) (((((hrp.alloc _).alloc _).alloc _).alloc _).alloc _)).mono ?_;rw [hct,hok];intro e w6 hpost;obtain ⟨A6,c6,rfl,hl6,hf6,hG6,hg6⟩:=nL hpost;clear hpost;have hT6:Blk w6 (w.heap.size+1+1+1) Zr:=((aC _ 25 _ (by simp)).alloc _).grown hg6 (by simp);have f0:=hG6.at_ (i:=0) rfl;obtain ⟨d0,d1,d2,e0,e1,e2,lT⟩:=dA hT6;have lG:=hG6.lt;have hb6:Bw w w6:=bw5.grown hg6 (by simp;omega) (fun k e=>by cases e;omega);replace hf6:=hf6.mono (B':=w.heap.size+5) (by simp))
  have y:=fun o=>(((((hT6.set_ 0 (.int .i64 0)).set_ 1 (.int .i64 0)).set_ 2 (.slice none 0 0)).alloc o:Blk _ _ Zr)).three
  refine bodyPost_ret (v:=.tuple #[fT,.bool false]) (by simp [results,results102,go_sem,y,fT]) rfl ⟨rfl,?_⟩;exact (bT hb6).alloc (by simp [World.setCell];omega) _
 | true=>
  cases hv:aE (.mk k2 n2 ks2) with
  | false=>
   have hz:cG by_ cut (.mk k n ks)=none:=by rw [cG,hok,if_pos rfl,hct,hv];rfl
   rw [hz];clear hz;go_enter func102,ntmps102;go_wp2_with (first|(go_at_call 129;refine (hE (tU (bc:=w.heap.size+2) (bb:=w.heap.size+1) (g:=w.heap.size+4) hby hcut (((aC _ 3 _ (by simp)).alloc _).alloc _) ((((aC _ 3 _ (by simp)).alloc _).alloc _).alloc _) (by omega) (by omega)) (fO func130 (by kernel_rfl) (by kernel_rfl)) (aH ks+1) k n ks A c 0 30 _ true (by omega) hs (by omega) (by omega) (by omega) (iM _ _) (aC _ 4 _ (by simp)) (((((hrp.alloc _).alloc _).alloc _).alloc _).alloc _)).mono ?_;rw [hct,hok];intro e w6 hpost;obtain ⟨A6,c6,rfl,hl6,hf6,hG6,hg6⟩:=nL hpost;clear hpost;have hT6:Blk w6 (w.heap.size+1+1+1) Zr:=((aC _ 25 _ (by simp)).alloc _).grown hg6 (by simp);have f0:=hG6.at_ (i:=0) rfl;obtain ⟨d0,d1,d2,e0,e1,e2,lT⟩:=dA hT6;have lG:=hG6.lt;have hb6:Bw w w6:=bw5.grown hg6 (by simp;omega) (fun k e=>by cases e;omega);replace hf6:=hf6.mono (B':=w.heap.size+5) (by simp))|(go_at_call 86;refine (wM k2 n2 ks2 A6 c6 _ (by omega) (hf6.rd.alloc _) hv).mono ?_;rintro e w8 ⟨rfl,hb8⟩;have hT8:Blk w8 (w.heap.size+1+1+1) Zr:=(hT6.alloc _).keep hb8;obtain ⟨x0,x1,x2,e80,e81,e82⟩:=bW hT8;replace hb8:Bw w w8:=(hb6.alloc hb6.size _).trans (hb8.mono (by have:=hb6.size;simp;omega));have hzz:fT = .agg Zr:=rfl))
   refine bodyPost_ret (v:=.tuple #[fT,.bool false]) (by simp [results,results102,go_sem,x0,x1,x2,fT]) rfl ⟨rfl,?_⟩;exact bT hb8
  | true=>
   have hz:cG by_ cut (.mk k n ks)=some (.mk k2 n2 ks2):=by rw [cG,hok,if_pos rfl,hct,hv];rfl
   rw [hz];clear hz;go_enter func102,ntmps102;go_wp2_with (first|(go_at_call 129;refine (hE (tU (bc:=w.heap.size+2) (bb:=w.heap.size+1) (g:=w.heap.size+4) hby hcut (((aC _ 3 _ (by simp)).alloc _).alloc _) ((((aC _ 3 _ (by simp)).alloc _).alloc _).alloc _) (by omega) (by omega)) (fO func130 (by kernel_rfl) (by kernel_rfl)) (aH ks+1) k n ks A c 0 30 _ true (by omega) hs (by omega) (by omega) (by omega) (iM _ _) (aC _ 4 _ (by simp)) (((((hrp.alloc _).alloc _).alloc _).alloc _).alloc _)).mono ?_;rw [hct,hok];intro e w6 hpost;obtain ⟨A6,c6,rfl,hl6,hf6,hG6,hg6⟩:=nL hpost;clear hpost;have hT6:Blk w6 (w.heap.size+1+1+1) Zr:=((aC _ 25 _ (by simp)).alloc _).grown hg6 (by simp);have f0:=hG6.at_ (i:=0) rfl;obtain ⟨d0,d1,d2,e0,e1,e2,lT⟩:=dA hT6;have lG:=hG6.lt;have hb6:Bw w w6:=bw5.grown hg6 (by simp;omega) (fun k e=>by cases e;omega);replace hf6:=hf6.mono (B':=w.heap.size+5) (by simp))|(go_at_call 86;refine (iB k2 n2 ks2 A6 c6 _ (by omega) (hf6.rd.alloc _) hv).mono ?_;rintro e w8 ⟨rfl,hb8⟩;have hf8:=(hf6.alloc (.cells (Ro k2 n2 A6 ks2.length c6) 25)).below hb8;have hT8:Blk w8 (w.heap.size+1+1+1) Zr:=(hT6.alloc _).keep hb8;obtain ⟨x0,x1,x2,e80,e81,e82⟩:=bW hT8;replace hb8:Bw w w8:=(hb6.alloc hb6.size _).trans (hb8.mono (by have:=hb6.size;simp;omega))))
   refine bodyPost_ret (v:=.tuple #[.agg (Ro k2 n2 A6 ks2.length c6),.bool true]) (by simp [results,results102,go_sem,x0,x1,x2]) rfl ⟨A6,c6,rfl,hl6,?_,?_⟩
   ·exact (mU hf8).mono (by omega)
   ·exact bT hb8
theorem bB (k n:Int)(w:World):Calls prog 23 #[.int .i64 k,.int .i64 n] w fun e w'=>e = .returned (.agg (Ro k n none 0 0))∧Bw w w':=by
 go_enter func23,ntmps23;go_wp2_with fail
 refine bodyPost_ret (v:=.agg (Ro k n none 0 0)) (by simp [results,results23,go_sem]) rfl ⟨rfl,?_⟩;exact bw1
mutual
def flS (args:List Tm):Int→Tm→Tm
 | d,.mk k n ks=>if k=1∧d≤n then (if n<d+args.length then eZ d 0 (args.getD (n - d).toNat default) else .mk 1 (n - args.length) []) else .mk k n (aMe args k d 0 ks)
def aMe (args:List Tm):Int→Int→Nat→List Tm→List Tm|_,_,_,[]=>[]|k,d,i,t::ts=>flS args (d+aR k i) t::aMe args k d (i+1) ts
end
def aQp (args:List Tm)(n d:Int):Tm:=
 if n - d<0 then .mk 1 n [] else if (args.length:Int)≤n - d then .mk 1 (n - args.length) [] else (cG d 0 (args.getD (n - d).toNat default)).getD (.mk 0 0 [])
def aHg (args:List Tm)(n d:Int):Bool:=
 if n - d<0 then true else if (args.length:Int)≤n - d then true else (cG d 0 (args.getD (n - d).toNat default)).isSome
theorem cS {w:World}{k n:Int}{ks:List Tm}{e:Ending}{w':World}(h:uK w (some (.mk k n ks)) e w') :
  ∃A c,e = .returned (.tuple #[.agg (Ro k n A ks.length c),.bool true])∧ks.length≤9223372036854775807∧Fresh w.heap.size w' A ks∧Bw w w':=h
theorem gX {w:World}{e:Ending}{w':World}(h:uK w none e w'):e = .returned (.tuple #[.agg Zr,.bool false])∧Bw w w':=h
end Go.Proofs.YtajjhldcjikkpaaGreat
