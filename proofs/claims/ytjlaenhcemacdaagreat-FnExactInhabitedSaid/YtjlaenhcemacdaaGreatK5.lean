/- Parts of the proof. No condition. -/
import Derived.Test.YtjlaenhcemacdaaGreatK2
import Derived.Test.YtjlaenhcemacdaaGreatK3
import Derived.Test.YtjlaenhcemacdaaGreatK4
open Go.Proofs.Tryz
namespace Go.Proofs.YtjlaenhcemacdaaGreat
open Go.RowKit
set_option maxHeartbeats 4000000
set_option maxRecDepth 100000
set_option linter.unusedSimpArgs false
set_option linter.unusedVariables false
theorem bB (k n:Int)(ks:List Tm)(A:Ba)(c:Nat)(w:Bb)(hM:aG ks<=1099511627775)(hr:Rd w A 0 ks) :
  Calls prog 58 #[.agg (Ro k n A ks.length c)] w λe w'=>e = .returned (.bool (aE (.mk k n ks)))/\Bw w w':=by
 have hlen:=aJ ks;have hrp:RdP (·≠w.heap.size+1) w A 0 ks:=hr.rdp.mono (λb hb=>by have hb:b<w.heap.size:=hb;show b≠_;omega);go_enter func58,ntmps58;go_wp2_with (go_at_call 93;refine (aPq (aG ks+1) k n ks A c 1 30 0 (w.heap.size+1) _ Ac Ac Ac Ac Ac Ac Ac (aC _ _ _ Ag) ((hrp.alloc _).alloc _)).mono ?_;rintro e w3 ⟨b,cx,rfl,hbe,hcx,hx0,hx1,hG3,hg3⟩;clear hcx hG3);go_ret;refine ⟨dE ?_,bw2.grown hg3 Ai (λk e=>by cases e;omega)⟩;show lY 30 0 k n ks=_;unfold lY aE;rw [Tm.size];by_cases h:aG ks+1<=400
 ·rw [decide_eq_true h,decide_eq_true Ac]
 ·rw [decide_eq_false h,decide_eq_false Ac]
mutual
def nrm:Tm->Bool | .mk k _ ks=>aDz ks && (rdx k ks==0)
def aDz:List Tm->Bool|[]=>true|t::ts=>nrm t && aDz ts
end
theorem aEi:∀ks:List Tm,aDz ks=true↔∀t,t∈ks->nrm t=true
 | []=>by simp [aDz]
 | t::ts=>by rw [aDz,Bool.and_eq_true,aEi ts];simp
theorem aPy:(prog.info? 3).map (λi=>(i.zero,i.size,i.bytes))=some (some (.int .i64 0),1,8):=by kernel_rfl
theorem cU (n:Int)(w:Bb):Calls prog 60 #[.int .i64 n] w λe w'=>e = .returned (.agg (Ro 1 n none 0 0))/\Bw w w':=by
 go_enter func60,ntmps60;go_wp2_with fail;exact bodyPost_ret (v:=.agg (Ro 1 n none 0 0)) (by simp [results,results60,go_sem]) rfl ⟨rfl,bw1⟩
def fX:Value:=.agg Zr
theorem iO (k n:Int)(ks:List Tm)(A:Ba)(c:Nat)(w:Bb)(hM:aG ks<=1099511627775)(hr:Rd w A 0 ks)(hv:aE (.mk k n ks)=true) :
  Calls prog 84 #[(.agg (Ro k n A ks.length c))] w λe w'=>e = .returned (.tuple #[(.agg (Ro k n A ks.length c)),.bool true])/\Bw w w':=by
 go_enter func84,ntmps84;go_wp2_with (go_at_call 58;refine (bB k n ks A c _ hM ((hr.alloc _).alloc _)).mono ?_;rw [hv];rintro e w1 ⟨rfl,hb1⟩;have hB:Blk w1 w.heap.size (Ro k n A ks.length c):=((aC w 32 (Ro k n A ks.length c) rfl).alloc _).keep hb1;have hT:Blk w1 (w.heap.size+1) Zr:=(aC _ 32 _ Ag).keep hb1;obtain ⟨p0,p1,p2⟩:=hB.three;obtain ⟨d0,d1,d2,e0,e1,e2⟩:=bZ hT;replace hb1:Bw w w1:=bw2.trans (hb1.mono Ai));refine bodyPost_ret (v:=.tuple #[(.agg (Ro k n A ks.length c)),.bool true]) (by simp [results,results84,go_sem,d0,d1,d2]) rfl ⟨rfl,?_⟩;exact bV hb1
theorem wH (k n:Int)(ks:List Tm)(A:Ba)(c:Nat)(w:Bb)(hM:aG ks<=1099511627775)(hr:Rd w A 0 ks)(hv:aE (.mk k n ks)=false) :
  Calls prog 84 #[(.agg (Ro k n A ks.length c))] w λe w'=>e = .returned (.tuple #[fX,.bool false])/\Bw w w':=by
 go_enter func84,ntmps84;go_wp2_with (go_at_call 58;refine (bB k n ks A c _ hM ((hr.alloc _).alloc _)).mono ?_;rw [hv];rintro e w1 ⟨rfl,hb1⟩;have hT:Blk w1 (w.heap.size+1) Zr:=(aC _ 32 _ Ag).keep hb1;obtain ⟨d0,d1,d2,e0,e1,e2⟩:=bZ hT;replace hb1:Bw w w1:=bw2.trans (hb1.mono Ai));refine bodyPost_ret (v:=.tuple #[fX,.bool false]) (by simp [results,results84,go_sem,d0,d1,d2,fX]) rfl ⟨rfl,?_⟩;exact bV hb1
def shF (by_ cut:Int)(n d:Int):Tm:=.mk 1 (if cut<=n - d then n+by_ else n) []
def qU (by_ cut:Int)(n d:Int):Bool:=if cut<=n - d then decide (cut<=n+by_ - d) && decide (n+by_<=20) else true
theorem uM {by_ cut:Int}{bc bb g:Nat}{W0:Bb}(hb1 : -1000<=by_/\by_<=1000)(hc : -1000<=cut/\cut<=1000)(hC:Blk W0 bc #[.int .i64 cut])(hB:Blk W0 bb #[.int .i64 by_])(hcg:bc≠g)(hbg:bb≠g) :
  aOw 83 [.pointer (some ⟨bc,0,none⟩),.pointer (some ⟨bb,0,none⟩),.pointer (some ⟨g,0,none⟩)] W0 g (shF by_ cut) (qU by_ cut):=by
 intro n d w b hn0 hn1 hd0 hd1 hW hg;have hCw:=hC.grown hW (by simpa using hcg);have hBw:=hB.grown hW (by simpa using hbg);have x0:=hCw.at_ (i:=0) rfl;have x1:=hBw.at_ (i:=0) rfl;have x2:=hg.at_ (i:=0) rfl;have z2:=hg.frozen 0;have l0:=hCw.lt;have l1:=hBw.lt;have l2:=hg.lt;by_cases h1:cut<=n - d
 ·have hz:shF by_ cut n d = .mk 1 (n+by_) []:=by rw [shF,Av h1]
  have hzo:qU by_ cut n d=(decide (cut<=n+by_ - d) && decide (n+by_<=20)):=by rw [qU,Av h1]
  rw [hz,hzo];have q1:decide (cut<=n - d)=true:=decide_eq_true h1;have H:=aD h1;clear h1 hz hzo;cases b with
  | false=>
   rw [Bool.false_and];go_enter func83,ntmps83;go_wp2_with (go_at_call 60;refine (cU _ _).mono ?_;rintro e w1 ⟨rfl,hv1⟩;have hT:Blk w1 w.heap.size Zr:=(aC _ 32 _ Ag).keep hv1;obtain ⟨d0,d1,d2,e0,e1,e2⟩:=bZ hT;have hG1:Blk w1 g #[.bool (false)]:=((hg.set_ 0 (.bool (false))).alloc (.cells Zr 32)).keep hv1;replace hv1:w.grownBy w1 (some g):=dC (bG (aK (nE _ _) (.inl rfl) _) _) hv1);refine bodyPost_ret (v:=.agg (Ro 1 (n+by_) none 0 0)) (by simp [results,results83,go_sem,d0,d1,d2]) rfl ⟨none,0,rfl,by simp [Tm.ks],Fresh.nil,?_,?_⟩
   ·exact ((hG1.far Ai _).far Ai _).far Ai _
   ·exact aK (aK (aK hv1 (.inr Ag) _) (.inr Ag) _) (.inr Ag) _
  | true=>
   by_cases h2:cut<=n+by_ - d
   ·have q2:decide (cut<=n+by_ - d)=true:=decide_eq_true h2;rw [q2,Bool.true_and,Bool.true_and];have H2:=aD h2;clear h2;cases q3:decide (n+by_<=20) with
    | false=>
     go_enter func83,ntmps83;go_wp2_with (go_at_call 60;refine (cU _ _).mono ?_;rintro e w1 ⟨rfl,hv1⟩;have hT:Blk w1 w.heap.size Zr:=(aC _ 32 _ Ag).keep hv1;obtain ⟨d0,d1,d2,e0,e1,e2⟩:=bZ hT;have hG1:Blk w1 g #[.bool (false)]:=((hg.set_ 0 (.bool (false))).alloc (.cells Zr 32)).keep hv1;replace hv1:w.grownBy w1 (some g):=dC (bG (aK (nE _ _) (.inl rfl) _) _) hv1);refine bodyPost_ret (v:=.agg (Ro 1 (n+by_) none 0 0)) (by simp [results,results83,go_sem,d0,d1,d2]) rfl ⟨none,0,rfl,by simp [Tm.ks],Fresh.nil,?_,?_⟩
     ·exact ((hG1.far Ai _).far Ai _).far Ai _
     ·exact aK (aK (aK hv1 (.inr Ag) _) (.inr Ag) _) (.inr Ag) _
    | true=>
     go_enter func83,ntmps83;go_wp2_with (go_at_call 60;refine (cU _ _).mono ?_;rintro e w1 ⟨rfl,hv1⟩;have hT:Blk w1 w.heap.size Zr:=(aC _ 32 _ Ag).keep hv1;obtain ⟨d0,d1,d2,e0,e1,e2⟩:=bZ hT;have hG1:Blk w1 g #[.bool (true)]:=((hg.set_ 0 (.bool (true))).alloc (.cells Zr 32)).keep hv1;replace hv1:w.grownBy w1 (some g):=dC (bG (aK (nE _ _) (.inl rfl) _) _) hv1);refine bodyPost_ret (v:=.agg (Ro 1 (n+by_) none 0 0)) (by simp [results,results83,go_sem,d0,d1,d2]) rfl ⟨none,0,rfl,by simp [Tm.ks],Fresh.nil,?_,?_⟩
     ·exact ((hG1.far Ai _).far Ai _).far Ai _
     ·exact aK (aK (aK hv1 (.inr Ag) _) (.inr Ag) _) (.inr Ag) _
   ·have q2:decide (cut<=n+by_ - d)=false:=decide_eq_false h2;rw [q2,Bool.false_and,Bool.true_and];have H2:=aD h2;clear h2;go_enter func83,ntmps83;go_wp2_with (go_at_call 60;refine (cU _ _).mono ?_;rintro e w1 ⟨rfl,hv1⟩;have hT:Blk w1 w.heap.size Zr:=(aC _ 32 _ Ag).keep hv1;obtain ⟨d0,d1,d2,e0,e1,e2⟩:=bZ hT;have hG1:Blk w1 g #[.bool (false)]:=((hg.set_ 0 (.bool (false))).alloc (.cells Zr 32)).keep hv1;replace hv1:w.grownBy w1 (some g):=dC (bG (aK (nE _ _) (.inl rfl) _) _) hv1);refine bodyPost_ret (v:=.agg (Ro 1 (n+by_) none 0 0)) (by simp [results,results83,go_sem,d0,d1,d2]) rfl ⟨none,0,rfl,by simp [Tm.ks],Fresh.nil,?_,?_⟩
    ·exact ((hG1.far Ai _).far Ai _).far Ai _
    ·exact aK (aK (aK hv1 (.inr Ag) _) (.inr Ag) _) (.inr Ag) _
 ·have hz:shF by_ cut n d = .mk 1 n []:=by rw [shF,Aw h1]
  have hzo:qU by_ cut n d=true:=by rw [qU,Aw h1]
  rw [hz,hzo,Bool.and_true];have q1:decide (cut<=n - d)=false:=decide_eq_false h1;have H:=aD h1;clear h1 hz hzo;go_enter func83,ntmps83;go_wp2_with (go_at_call 60;refine (cU _ _).mono ?_;rintro e w1 ⟨rfl,hv1⟩;have hT:Blk w1 w.heap.size Zr:=(aC _ 32 _ rfl).keep hv1;obtain ⟨d0,d1,d2,e0,e1,e2⟩:=bZ hT;have hG1:=(hg.alloc (.cells Zr 32)).keep hv1;replace hv1:w.grownBy w1 (some g):=dC (bG (nE _ _) _) hv1);refine bodyPost_ret (v:=.agg (Ro 1 n none 0 0)) (by simp [results,results83,go_sem,d0,d1,d2]) rfl ⟨none,0,rfl,by simp [Tm.ks],Fresh.nil,?_,?_⟩
  ·exact ((hG1.far Ai _).far Ai _).far Ai _
  ·exact aK (aK (aK hv1 (.inr Ag) _) (.inr Ag) _) (.inr Ag) _
theorem aEy {f:Int->Int->Tm}{M:Nat}(hM:1<=M)(hf:∀n d,(f n d).size<=M):(∀t d,(vI f d t).size<=t.size*M)/\(∀ts k d i,aG (iE f k d i ts)<=aG ts*M):=by
 refine bA (λk n ks ih d=>?_) (λk d i=>by simp [iE,aG]) (λt ts h1 h2 k d i=>?_)
 ·rw [vI,Tm.size,Nat.add_mul,Nat.one_mul];split
  ·have:=hf n d;omega
  ·rw [Tm.size];have:=ih k d 0;omega
 ·rw [iE,aG,aG,Nat.add_mul];have:=h1 (d+aN k i);have:=h2 k d (i+1);omega
theorem aNf (by_ cut n d:Int):(shF by_ cut n d).size<=1:=by simp [shF,Tm.size,aG]
def pF (w:Bb)(o:Option Tm)(e:Ending)(w':Bb):Prop:=
 match o with
 | none=>e = .returned (.tuple #[fX,.bool false])/\Bw w w'
 | some t=>∃A c,e = .returned (.tuple #[.agg (Ro t.k t.n A t.ks.length c),.bool true])/\t.ks.length<=9223372036854775807/\Fresh w.heap.size w' A t.ks/\Bw w w'
def bJ (by_ cut:Int)(t:Tm):Option Tm:=if eW (qU by_ cut) 0 t=true then (if aE (vI (shF by_ cut) 0 t)=true then some (vI (shF by_ cut) 0 t) else none) else none
theorem fU (k n:Int)(ks:List Tm)(A:Ba)(c:Nat)(by_ cut:Int)(w:Bb)(hby : -1000<=by_/\by_<=1000)(hcut : -1000<=cut/\cut<=1000)(hM:aG ks<=1000000000)(hs:shape 30 (.mk k n ks)=true)(hr:Rd w A 0 ks) :
  Calls prog 50 #[(.agg (Ro k n A ks.length c)),.int .i64 by_,.int .i64 cut] w (pF w (bJ by_ cut (.mk k n ks))):=by
 have hrp:RdP (·≠w.heap.size+4) w A 0 ks:=hr.rdp.mono (λb hb=>by have hb:b<w.heap.size:=hb;show b≠_;omega);obtain ⟨k2,n2,ks2,hct⟩:=gQ (vI (shF by_ cut) 0 (.mk k n ks));have hsz2:aG ks2<=1000000001:=by
  have:=(aEy (mC 1) (aNf by_ cut)).1 (.mk k n ks) 0;rw [hct,Tm.size,Tm.size] at this;omega
 cases hok:eW (qU by_ cut) 0 (.mk k n ks) with
 | false=>
  have hz:bJ by_ cut (.mk k n ks)=none:=by rw [bJ,hok];rfl
  rw [hz];clear hz;go_enter func50,ntmps50;go_wp2_with (go_at_call 82;refine (iL (uM (bc:=w.heap.size+2) (bb:=w.heap.size+1) (g:=w.heap.size+4) hby hcut (((aC _ 3 _ Ag).alloc _).alloc _) ((((aC _ 3 _ Ag).alloc _).alloc _).alloc _) Ac Ac) (fS func83 (by kernel_rfl) (by kernel_rfl)) (aG ks+1) k n ks A c 0 30 _ true Ac hs Ac Ac Ac (nE _ _) (aC _ 4 _ Ag) (((((hrp.alloc _).alloc _).alloc _).alloc _).alloc _)).mono ?_;rw [hct,hok];intro e w6 hpost;obtain ⟨A6,c6,rfl,hl6,hf6,hG6,hg6⟩:=oZ hpost;clear hpost;have hT6:Blk w6 (w.heap.size+1+1+1) Zr:=((aC _ 32 _ Ag).alloc _).grown hg6 Ag;have f0:=hG6.at_ (i:=0) rfl;obtain ⟨d0,d1,d2,e0,e1,e2,lT⟩:=dN hT6;have lG:=hG6.lt;have hb6:Bw w w6:=bw5.grown hg6 Ai (λk e=>by cases e;omega);replace hf6:=hf6.mono (B':=w.heap.size+5) Ag);have y:=λo=>(((((hT6.set_ 0 (.int .i64 0)).set_ 1 (.int .i64 0)).set_ 2 (.slice none 0 0)).alloc o:Blk _ _ Zr)).three
  refine bodyPost_ret (v:=.tuple #[fX,.bool false]) (by simp [results,results50,go_sem,y,fX]) rfl ⟨rfl,?_⟩;exact (bV hb6).alloc (by simp [World.setCell];omega) _
 | true=>
  cases hv:aE (.mk k2 n2 ks2) with
  | false=>
   have hz:bJ by_ cut (.mk k n ks)=none:=by rw [bJ,hok,Av rfl,hct,hv];rfl
   rw [hz];clear hz;go_enter func50,ntmps50;go_wp2_with (first|(go_at_call 82;refine (iL (uM (bc:=w.heap.size+2) (bb:=w.heap.size+1) (g:=w.heap.size+4) hby hcut (((aC _ 3 _ Ag).alloc _).alloc _) ((((aC _ 3 _ Ag).alloc _).alloc _).alloc _) Ac Ac) (fS func83 (by kernel_rfl) (by kernel_rfl)) (aG ks+1) k n ks A c 0 30 _ true Ac hs Ac Ac Ac (nE _ _) (aC _ 4 _ Ag) (((((hrp.alloc _).alloc _).alloc _).alloc _).alloc _)).mono ?_;rw [hct,hok];intro e w6 hpost;obtain ⟨A6,c6,rfl,hl6,hf6,hG6,hg6⟩:=oZ hpost;clear hpost;have hT6:Blk w6 (w.heap.size+1+1+1) Zr:=((aC _ 32 _ Ag).alloc _).grown hg6 Ag;have f0:=hG6.at_ (i:=0) rfl;obtain ⟨d0,d1,d2,e0,e1,e2,lT⟩:=dN hT6;have lG:=hG6.lt;have hb6:Bw w w6:=bw5.grown hg6 Ai (λk e=>by cases e;omega);replace hf6:=hf6.mono (B':=w.heap.size+5) Ag)|(go_at_call 84;refine (wH k2 n2 ks2 A6 c6 _ Ac (hf6.rd.alloc _) hv).mono ?_;rintro e w8 ⟨rfl,hb8⟩;have hT8:Blk w8 (w.heap.size+1+1+1) Zr:=(hT6.alloc _).keep hb8;obtain ⟨x0,x1,x2,e80,e81,e82⟩:=bZ hT8;replace hb8:Bw w w8:=(hb6.alloc hb6.size _).trans (hb8.mono (by have:=hb6.size;simp;omega));have hzz:fX = .agg Zr:=rfl));refine bodyPost_ret (v:=.tuple #[fX,.bool false]) (by simp [results,results50,go_sem,x0,x1,x2,fX]) rfl ⟨rfl,?_⟩;exact bV hb8
  | true=>
   have hz:bJ by_ cut (.mk k n ks)=some (.mk k2 n2 ks2):=by rw [bJ,hok,Av rfl,hct,hv];rfl
   rw [hz];clear hz;go_enter func50,ntmps50;go_wp2_with (first|(go_at_call 82;refine (iL (uM (bc:=w.heap.size+2) (bb:=w.heap.size+1) (g:=w.heap.size+4) hby hcut (((aC _ 3 _ Ag).alloc _).alloc _) ((((aC _ 3 _ Ag).alloc _).alloc _).alloc _) Ac Ac) (fS func83 (by kernel_rfl) (by kernel_rfl)) (aG ks+1) k n ks A c 0 30 _ true Ac hs Ac Ac Ac (nE _ _) (aC _ 4 _ Ag) (((((hrp.alloc _).alloc _).alloc _).alloc _).alloc _)).mono ?_;rw [hct,hok];intro e w6 hpost;obtain ⟨A6,c6,rfl,hl6,hf6,hG6,hg6⟩:=oZ hpost;clear hpost;have hT6:Blk w6 (w.heap.size+1+1+1) Zr:=((aC _ 32 _ Ag).alloc _).grown hg6 Ag;have f0:=hG6.at_ (i:=0) rfl;obtain ⟨d0,d1,d2,e0,e1,e2,lT⟩:=dN hT6;have lG:=hG6.lt;have hb6:Bw w w6:=bw5.grown hg6 Ai (λk e=>by cases e;omega);replace hf6:=hf6.mono (B':=w.heap.size+5) Ag)|(go_at_call 84;refine (iO k2 n2 ks2 A6 c6 _ Ac (hf6.rd.alloc _) hv).mono ?_;rintro e w8 ⟨rfl,hb8⟩;have hf8:=(hf6.alloc (.cells (Ro k2 n2 A6 ks2.length c6) 32)).below hb8;have hT8:Blk w8 (w.heap.size+1+1+1) Zr:=(hT6.alloc _).keep hb8;obtain ⟨x0,x1,x2,e80,e81,e82⟩:=bZ hT8;replace hb8:Bw w w8:=(hb6.alloc hb6.size _).trans (hb8.mono (by have:=hb6.size;simp;omega))));refine bodyPost_ret (v:=.tuple #[.agg (Ro k2 n2 A6 ks2.length c6),.bool true]) (by simp [results,results50,go_sem,x0,x1,x2]) rfl ⟨A6,c6,rfl,hl6,?_,?_⟩
   ·exact (vF hf8).mono Ac
   ·exact bV hb8
theorem cC (k n:Int)(w:Bb):Calls prog 55 #[.int .i64 k,.int .i64 n] w λe w'=>e = .returned (.agg (Ro k n none 0 0))/\Bw w w':=by
 go_enter func55,ntmps55;go_wp2_with fail;refine bodyPost_ret (v:=.agg (Ro k n none 0 0)) (by simp [results,results55,go_sem]) rfl ⟨rfl,?_⟩;exact bw1
mutual
def flS (args:List Tm):Int->Tm->Tm
 | d,.mk k n ks=>if k=1/\d<=n then (if n<d+args.length then bR d 0 (args.getD (n - d).toNat default) else .mk 1 (n - args.length) []) else .mk k n (aPr args k d 0 ks)
def aPr (args:List Tm):Int->Int->Nat->List Tm->List Tm|_,_,_,[]=>[]|k,d,i,t::ts=>flS args (d+aN k i) t::aPr args k d (i+1) ts
end
def aRs (args:List Tm)(n d:Int):Tm:=
 if n - d<0 then .mk 1 n [] else if (args.length:Int)<=n - d then .mk 1 (n - args.length) [] else (bJ d 0 (args.getD (n - d).toNat default)).getD (.mk 0 0 [])
def aIs (args:List Tm)(n d:Int):Bool:=
 if n - d<0 then true else if (args.length:Int)<=n - d then true else (bJ d 0 (args.getD (n - d).toNat default)).isSome
theorem cS {w:Bb}{k n:Int}{ks:List Tm}{e:Ending}{w':Bb}(h:pF w (some (.mk k n ks)) e w') :
  ∃A c,e = .returned (.tuple #[.agg (Ro k n A ks.length c),.bool true])/\ks.length<=9223372036854775807/\Fresh w.heap.size w' A ks/\Bw w w':=h
theorem dS {w:Bb}{e:Ending}{w':Bb}(h:pF w none e w'):e = .returned (.tuple #[.agg Zr,.bool false])/\Bw w w':=h
theorem cL {t:Tm}(h:aE t=true):t.size<=400:=by simp only [aE,Bool.and_eq_true,decide_eq_true_eq] at h;exact h.2
def sbF (x:Int)(u:Tm)(n d:Int):Tm:=if n - d=x then (bJ d 0 u).getD (.mk 0 0 []) else if x<n - d then .mk 1 (n - 1) [] else .mk 1 n []
def qT (x:Int)(u:Tm)(n d:Int):Bool:=if n - d=x then (bJ d 0 u).isSome else true
theorem tZ {x k' n':Int}{ks':List Tm}{A':Ba}{c' bi ba g:Nat}{W0:Bb}(hx:0<=x/\x<=20)(hsh:shape 30 (.mk k' n' ks')=true)(hsz:aG ks'<=1000000000)(hI:Blk W0 bi #[.int .i64 x])(hA:Blk W0 ba (Ro k' n' A' ks'.length c'))(hR:RdP (·≠g) W0 A' 0 ks')(hig:bi≠g)(hag:ba≠g) :
  aOw 115 [.pointer (some ⟨bi,0,none⟩),.pointer (some ⟨ba,0,none⟩),.pointer (some ⟨g,0,none⟩)] W0 g (sbF x (.mk k' n' ks')) (qT x (.mk k' n' ks')):=by
 intro n d w b hn0 hn1 hd0 hd1 hW hg;have hIw:=hI.grown hW (by simpa using hig);have hAw:=hA.grown hW (by simpa using hag);have hRw:=hR.grown hW (λb hb e=>hb (by injection e));have i0:=hIw.at_ (i:=0) rfl;have x0:=hAw.at_ (i:=0) rfl;have x1:=hAw.at_ (i:=1) rfl;have x3:=hAw.at_ (i:=2) rfl;have x2:=hg.at_ (i:=0) rfl;have z2:=hg.frozen 0;have li:=hIw.lt;have l0:=hAw.lt;have l2:=hg.lt;have hrd:=hRw.rd;have H4:=aD hsh;clear hsh;by_cases h1:n - d=x
 ·have hz:sbF x (.mk k' n' ks') n d=(bJ d 0 (.mk k' n' ks')).getD (.mk 0 0 []):=by rw [sbF,Av h1]
  have hzo:qT x (.mk k' n' ks') n d=(bJ d 0 (.mk k' n' ks')).isSome:=by rw [qT,Av h1]
  rw [hz,hzo];have q1:((n - d)==x)=true:=by simpa using h1
  have H:=aD h1;clear h1 hz hzo;cases hsi:bJ d 0 (.mk k' n' ks') with
  | none=>
   rw [show (none:Option Tm).getD (.mk 0 0 []) = .mk 0 0 [] from rfl,show (none:Option Tm).isSome=false from rfl,Bool.and_false];cases b;all_goals
    go_enter func115,ntmps115;go_wp2_with (go_at_call 50;refine (fU k' n' ks' A' c' d 0 _ Ac Ac Ac H4.out (hrd.alloc _)).mono ?_;rw [hsi];intro e w1 hp;obtain ⟨he,hb1⟩:=dS hp;subst he;clear hp;have hT:Blk w1 w.heap.size Zr:=(aC _ 32 _ rfl).keep hb1;obtain ⟨d0,d1,d2,e0,e1,e2⟩:=bZ hT;have hG1:=(hg.alloc (.cells Zr 32)).keep hb1;have g1:=hG1.at_ (i:=0) rfl;have gz:=hG1.frozen 0;have lT:=hT.lt;have lG:=hG1.lt;replace hb1:w.grownBy w1 (some g):=dC (bG (nE _ _) _) hb1);have y:=λ(v:Value) (o:Obj)=>((((((hT.far (p:=⟨g,0,none⟩) Ai v).set_ 0 (.int .i64 0)).set_ 1 (.int .i64 0)).set_ 2 (.slice none 0 0)).alloc o:Blk _ _ Zr)).three
    refine bodyPost_ret (v:=.agg Zr) (by simp [results,results115,go_sem,y]) rfl ⟨_,_,rfl,?_,?_,?_,?_⟩
    ·simp [Tm.ks]
    ·exact Fresh.nil
    ·exact ((((hG1.set_ 0 (.bool false)).far Ai _).far Ai _).far Ai _).alloc _
    ·exact bG (aK (aK (aK (aK hb1 (.inl rfl) _) (.inr Ag) _) (.inr Ag) _) (.inr Ag) _) _
  | some t=>
   obtain ⟨k2,n2,ks2⟩:=t;rw [show (some (Tm.mk k2 n2 ks2)).getD (.mk 0 0 []) = .mk k2 n2 ks2 from rfl,show (some (Tm.mk k2 n2 ks2)).isSome=true from rfl,Bool.and_true];cases b
   ·go_enter func115,ntmps115;go_wp2_with (go_at_call 50;refine (fU k' n' ks' A' c' d 0 _ Ac Ac Ac H4.out (hrd.alloc _)).mono ?_;rw [hsi];intro e w1 hp;obtain ⟨A1,c1,rfl,hl1,hf1,hb1⟩:=cS hp;clear hp;have hT:Blk w1 w.heap.size Zr:=(aC _ 32 _ rfl).keep hb1;obtain ⟨d0,d1,d2,e0,e1,e2⟩:=bZ hT;have hG1:=(hg.alloc (.cells Zr 32)).keep hb1;have g1:=hG1.at_ (i:=0) rfl;have gz:=hG1.frozen 0;have lT:=hT.lt;have lG:=hG1.lt;replace hf1:Fresh (w.heap.size+1) w1 A1 ks2:=hf1.mono Ag;replace hb1:w.grownBy w1 (some g):=dC (bG (nE _ _) _) hb1);have y:=λ(v:Value) (o:Obj)=>((((((hT.far (p:=⟨g,0,none⟩) Ai v).set_ 0 (.int .i64 k2)).set_ 1 (.int .i64 n2)).set_ 2 (.slice A1 ks2.length c1)).alloc o:Blk _ _ (Ro k2 n2 A1 ks2.length c1))).three
    refine bodyPost_ret (v:=.agg (Ro k2 n2 A1 ks2.length c1)) (by simp [results,results115,go_sem,y]) rfl ⟨_,_,rfl,?_,?_,?_,?_⟩
    ·exact hl1
    ·exact (((vF hf1).setCell Ag _).alloc _).mono Ag
    ·exact ((((hG1.set_ 0 (.bool false)).far Ai _).far Ai _).far Ai _).alloc _
    ·exact bG (aK (aK (aK (aK hb1 (.inl rfl) _) (.inr Ag) _) (.inr Ag) _) (.inr Ag) _) _
   ·go_enter func115,ntmps115;go_wp2_with (go_at_call 50;refine (fU k' n' ks' A' c' d 0 _ Ac Ac Ac H4.out (hrd.alloc _)).mono ?_;rw [hsi];intro e w1 hp;obtain ⟨A1,c1,rfl,hl1,hf1,hb1⟩:=cS hp;clear hp;have hT:Blk w1 w.heap.size Zr:=(aC _ 32 _ rfl).keep hb1;obtain ⟨d0,d1,d2,e0,e1,e2⟩:=bZ hT;have hG1:=(hg.alloc (.cells Zr 32)).keep hb1;have g1:=hG1.at_ (i:=0) rfl;have gz:=hG1.frozen 0;have lT:=hT.lt;have lG:=hG1.lt;replace hf1:Fresh (w.heap.size+1) w1 A1 ks2:=hf1.mono Ag;replace hb1:w.grownBy w1 (some g):=dC (bG (nE _ _) _) hb1);have y:=λ(v:Value) (o:Obj)=>((((((hT.far (p:=⟨g,0,none⟩) Ai v).set_ 0 (.int .i64 k2)).set_ 1 (.int .i64 n2)).set_ 2 (.slice A1 ks2.length c1)).alloc o:Blk _ _ (Ro k2 n2 A1 ks2.length c1))).three
    refine bodyPost_ret (v:=.agg (Ro k2 n2 A1 ks2.length c1)) (by simp [results,results115,go_sem,y]) rfl ⟨_,_,rfl,?_,?_,?_,?_⟩
    ·exact hl1
    ·exact (((vF hf1).setCell Ag _).alloc _).mono Ag
    ·exact ((((hG1.set_ 0 (.bool true)).far Ai _).far Ai _).far Ai _).alloc _
    ·exact bG (aK (aK (aK (aK hb1 (.inl rfl) _) (.inr Ag) _) (.inr Ag) _) (.inr Ag) _) _
 ·have q1:((n - d)==x)=false:=by simpa using h1
  have hzo:qT x (.mk k' n' ks') n d=true:=by rw [qT,Aw h1]
  by_cases h2:x<n - d
  ·have hz:sbF x (.mk k' n' ks') n d = .mk 1 (n - 1) []:=by rw [sbF,Aw h1,Av h2]
   rw [hz,hzo,Bool.and_true];have q2:decide (x<n - d)=true:=decide_eq_true h2;have H:=aD h1;clear h1 h2 hz hzo;go_enter func115,ntmps115;go_wp2_with (go_at_call 60;refine (cU _ _).mono ?_;rintro e w1 ⟨rfl,hv1⟩;have hT:Blk w1 w.heap.size Zr:=(aC _ 32 _ rfl).keep hv1;obtain ⟨d0,d1,d2,e0,e1,e2⟩:=bZ hT;have hG1:=(hg.alloc (.cells Zr 32)).keep hv1;replace hv1:w.grownBy w1 (some g):=dC (bG (nE _ _) _) hv1);refine bodyPost_ret (v:=.agg (Ro 1 (n - 1) none 0 0)) (by simp [results,results115,go_sem,d0,d1,d2]) rfl ⟨none,0,rfl,by simp [Tm.ks],Fresh.nil,?_,?_⟩
   ·exact ((hG1.far Ai _).far Ai _).far Ai _
   ·exact aK (aK (aK hv1 (.inr Ag) _) (.inr Ag) _) (.inr Ag) _
  ·have hz:sbF x (.mk k' n' ks') n d = .mk 1 n []:=by rw [sbF,Aw h1,Aw h2]
   rw [hz,hzo,Bool.and_true];have q2:decide (x<n - d)=false:=decide_eq_false h2;have H:=aD h1;clear h1 h2 hz hzo;go_enter func115,ntmps115;go_wp2_with (go_at_call 60;refine (cU _ _).mono ?_;rintro e w1 ⟨rfl,hv1⟩;have hT:Blk w1 w.heap.size Zr:=(aC _ 32 _ rfl).keep hv1;obtain ⟨d0,d1,d2,e0,e1,e2⟩:=bZ hT;have hG1:=(hg.alloc (.cells Zr 32)).keep hv1;replace hv1:w.grownBy w1 (some g):=dC (bG (nE _ _) _) hv1);refine bodyPost_ret (v:=.agg (Ro 1 (n) none 0 0)) (by simp [results,results115,go_sem,d0,d1,d2]) rfl ⟨none,0,rfl,by simp [Tm.ks],Fresh.nil,?_,?_⟩
   ·exact ((hG1.far Ai _).far Ai _).far Ai _
   ·exact aK (aK (aK hv1 (.inr Ag) _) (.inr Ag) _) (.inr Ag) _
def fJ (x:Int)(u:Tm)(t:Tm):Option Tm:=if eW (qT x u) 0 t=true then (if aE (vI (sbF x u) 0 t)=true then some (vI (sbF x u) 0 t) else none) else none
theorem aPs (x:Int)(u:Tm)(n d:Int):(sbF x u n d).size<=400:=by
 unfold sbF;split
 ·unfold bJ;split
  ·split
   ·rename_i h;exact cL h
   ·simp [Tm.size,aG]
  ·simp [Tm.size,aG]
 ·split<;>simp [Tm.size,aG]
theorem fE (k n:Int)(ks:List Tm)(A:Ba)(c:Nat)(x ku nu:Int)(us:List Tm)(B:Ba)(cb:Nat)(w:Bb)(hx:0<=x/\x<=20)(hsa:shape 30 (.mk ku nu us)=true)(hza:aG us<=1000000000)(hRa:Rd w B 0 us)(hM:aG ks<=1000)(hs:shape 30 (.mk k n ks)=true)(hr:Rd w A 0 ks) :
  Calls prog 95 #[(.agg (Ro k n A ks.length c)),.int .i64 x,.agg (Ro ku nu B us.length cb)] w (pF w (fJ x (.mk ku nu us) (.mk k n ks))):=by
 have hrp:RdP (·≠w.heap.size+4) w A 0 ks:=hr.rdp.mono (λb hb=>by have hb:b<w.heap.size:=hb;show b≠_;omega);have hRp:RdP (·≠w.heap.size+4) w B 0 us:=hRa.rdp.mono (λb hb=>by have hb:b<w.heap.size:=hb;show b≠_;omega);obtain ⟨k2,n2,ks2,hct⟩:=gQ (vI (sbF x (.mk ku nu us)) 0 (.mk k n ks));have hsz2:aG ks2<=1000000001:=by
  have:=(aEy Ac (aPs x (.mk ku nu us))).1 (.mk k n ks) 0;rw [hct,Tm.size,Tm.size] at this;omega
 cases hok:eW (qT x (.mk ku nu us)) 0 (.mk k n ks) with
 | false=>
  have hz:fJ x (.mk ku nu us) (.mk k n ks)=none:=by rw [fJ,hok];rfl
  rw [hz];clear hz;go_enter func95,ntmps95;go_wp2_with (go_at_call 82;refine (iL (tZ (x:=x) (k':=ku) (n':=nu) (ks':=us) (A':=B) (c':=cb) (bi:=w.heap.size+1) (ba:=w.heap.size+2) (g:=w.heap.size+4) hx hsa hza ((((aC _ 3 _ Ag).alloc _).alloc _).alloc _) (((aC _ 32 _ Ag).alloc _).alloc _) (((((hRp.alloc _).alloc _).alloc _).alloc _).alloc _) Ac Ac) (fS func115 (by kernel_rfl) (by kernel_rfl)) (aG ks+1) k n ks A c 0 30 _ true Ac hs Ac Ac Ac (nE _ _) (aC _ 4 _ Ag) (((((hrp.alloc _).alloc _).alloc _).alloc _).alloc _)).mono ?_;rw [hct,hok];intro e w6 hpost;obtain ⟨A6,c6,rfl,hl6,hf6,hG6,hg6⟩:=oZ hpost;clear hpost;have hT6:Blk w6 (w.heap.size+1+1+1) Zr:=((aC _ 32 _ Ag).alloc _).grown hg6 Ag;have f0:=hG6.at_ (i:=0) rfl;obtain ⟨d0,d1,d2,e0,e1,e2,lT⟩:=dN hT6;have lG:=hG6.lt;have hb6:Bw w w6:=bw5.grown hg6 Ai (λk e=>by cases e;omega);replace hf6:=hf6.mono (B':=w.heap.size+5) Ag);have y:=λo=>(((((hT6.set_ 0 (.int .i64 0)).set_ 1 (.int .i64 0)).set_ 2 (.slice none 0 0)).alloc o:Blk _ _ Zr)).three
  refine bodyPost_ret (v:=.tuple #[fX,.bool false]) (by simp [results,results95,go_sem,y,fX]) rfl ⟨rfl,?_⟩;exact (bV hb6).alloc (by simp [World.setCell];omega) _
 | true=>
  cases hv:aE (.mk k2 n2 ks2) with
  | false=>
   have hz:fJ x (.mk ku nu us) (.mk k n ks)=none:=by rw [fJ,hok,Av rfl,hct,hv];rfl
   rw [hz];clear hz;go_enter func95,ntmps95;go_wp2_with (first|(go_at_call 82;refine (iL (tZ (x:=x) (k':=ku) (n':=nu) (ks':=us) (A':=B) (c':=cb) (bi:=w.heap.size+1) (ba:=w.heap.size+2) (g:=w.heap.size+4) hx hsa hza ((((aC _ 3 _ Ag).alloc _).alloc _).alloc _) (((aC _ 32 _ Ag).alloc _).alloc _) (((((hRp.alloc _).alloc _).alloc _).alloc _).alloc _) Ac Ac) (fS func115 (by kernel_rfl) (by kernel_rfl)) (aG ks+1) k n ks A c 0 30 _ true Ac hs Ac Ac Ac (nE _ _) (aC _ 4 _ Ag) (((((hrp.alloc _).alloc _).alloc _).alloc _).alloc _)).mono ?_;rw [hct,hok];intro e w6 hpost;obtain ⟨A6,c6,rfl,hl6,hf6,hG6,hg6⟩:=oZ hpost;clear hpost;have hT6:Blk w6 (w.heap.size+1+1+1) Zr:=((aC _ 32 _ Ag).alloc _).grown hg6 Ag;have f0:=hG6.at_ (i:=0) rfl;obtain ⟨d0,d1,d2,e0,e1,e2,lT⟩:=dN hT6;have lG:=hG6.lt;have hb6:Bw w w6:=bw5.grown hg6 Ai (λk e=>by cases e;omega);replace hf6:=hf6.mono (B':=w.heap.size+5) Ag)|(go_at_call 84;refine (wH k2 n2 ks2 A6 c6 _ Ac (hf6.rd.alloc _) hv).mono ?_;rintro e w8 ⟨rfl,hb8⟩;have hT8:Blk w8 (w.heap.size+1+1+1) Zr:=(hT6.alloc _).keep hb8;obtain ⟨x0,x1,x2,e80,e81,e82⟩:=bZ hT8;replace hb8:Bw w w8:=(hb6.alloc hb6.size _).trans (hb8.mono (by have:=hb6.size;simp;omega));have hzz:fX = .agg Zr:=rfl));refine bodyPost_ret (v:=.tuple #[fX,.bool false]) (by simp [results,results95,go_sem,x0,x1,x2,fX]) rfl ⟨rfl,?_⟩;exact bV hb8
  | true=>
   have hz:fJ x (.mk ku nu us) (.mk k n ks)=some (.mk k2 n2 ks2):=by rw [fJ,hok,Av rfl,hct,hv];rfl
   rw [hz];clear hz;go_enter func95,ntmps95;go_wp2_with (first|(go_at_call 82;refine (iL (tZ (x:=x) (k':=ku) (n':=nu) (ks':=us) (A':=B) (c':=cb) (bi:=w.heap.size+1) (ba:=w.heap.size+2) (g:=w.heap.size+4) hx hsa hza ((((aC _ 3 _ Ag).alloc _).alloc _).alloc _) (((aC _ 32 _ Ag).alloc _).alloc _) (((((hRp.alloc _).alloc _).alloc _).alloc _).alloc _) Ac Ac) (fS func115 (by kernel_rfl) (by kernel_rfl)) (aG ks+1) k n ks A c 0 30 _ true Ac hs Ac Ac Ac (nE _ _) (aC _ 4 _ Ag) (((((hrp.alloc _).alloc _).alloc _).alloc _).alloc _)).mono ?_;rw [hct,hok];intro e w6 hpost;obtain ⟨A6,c6,rfl,hl6,hf6,hG6,hg6⟩:=oZ hpost;clear hpost;have hT6:Blk w6 (w.heap.size+1+1+1) Zr:=((aC _ 32 _ Ag).alloc _).grown hg6 Ag;have f0:=hG6.at_ (i:=0) rfl;obtain ⟨d0,d1,d2,e0,e1,e2,lT⟩:=dN hT6;have lG:=hG6.lt;have hb6:Bw w w6:=bw5.grown hg6 Ai (λk e=>by cases e;omega);replace hf6:=hf6.mono (B':=w.heap.size+5) Ag)|(go_at_call 84;refine (iO k2 n2 ks2 A6 c6 _ Ac (hf6.rd.alloc _) hv).mono ?_;rintro e w8 ⟨rfl,hb8⟩;have hf8:=(hf6.alloc (.cells (Ro k2 n2 A6 ks2.length c6) 32)).below hb8;have hT8:Blk w8 (w.heap.size+1+1+1) Zr:=(hT6.alloc _).keep hb8;obtain ⟨x0,x1,x2,e80,e81,e82⟩:=bZ hT8;replace hb8:Bw w w8:=(hb6.alloc hb6.size _).trans (hb8.mono (by have:=hb6.size;simp;omega))));refine bodyPost_ret (v:=.tuple #[.agg (Ro k2 n2 A6 ks2.length c6),.bool true]) (by simp [results,results95,go_sem,x0,x1,x2]) rfl ⟨A6,c6,rfl,hl6,?_,?_⟩
   ·exact (vF hf8).mono Ac
   ·exact bV hb8
end Go.Proofs.YtjlaenhcemacdaaGreat
