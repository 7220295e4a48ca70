/- Parts of the proof. No condition. -/
import Derived.Test.YtajjhldcjikkpaaGreatK5
import Derived.Test.YtajjhldcjikkpaaGreatK7
open Go.Proofs.Tryz
namespace Go.Proofs.YtajjhldcjikkpaaGreat
open Go.RowKit
set_option maxHeartbeats 8000000
set_option maxRecDepth 100000
set_option linter.unusedSimpArgs false
set_option linter.unusedVariables false
section
variable {u:Tm}(hsu:shape 30 u=true)
include hsu
theorem aWp (t:Tm):∀(q:Nat) (d:Int),0≤d→shape q t=true→fM (pU 0 u) d t=true→uP (sbF 0 u) d t=dC u d d t:=by
 refine Tm.rec (motive_1:=fun t=>∀(q:Nat) (d:Int),0≤d→shape q t=true→fM (pU 0 u) d t=true→uP (sbF 0 u) d t=dC u d d t)
  (motive_2 := fun ts => ∀ (q : Nat) (k d : Int) (i : Nat), 0 ≤ d → (∀ t, t ∈ ts → shape q t = true) → eE (pU 0 u) k d i ts = true → gT (sbF 0 u) k d i ts = cQ u k d d i ts) ?_ ?_ ?_ t
 ·intro k n ks ih q d hd h hok;obtain ⟨q',rfl,ha,h0,h1,hk⟩:=bX h;rw [fM] at hok;rw [uP,dC];by_cases h1:k=1
  ·subst h1;have:=uY ha;subst this;rw [if_pos rfl] at hok⊢;unfold pU at hok
   unfold sbF
   by_cases h2:n=d
   ·rw [if_pos (show n - d=0 by omega)] at hok⊢;rw [if_pos (show (1:Int)=1∧n=d from ⟨rfl,h2⟩)];exact lO hsu hok
   ·rw [if_neg (show ¬n - d=0 by omega),if_neg (show ¬((1:Int)=1∧n=d) from fun h=>h2 h.2)];by_cases h3:d<n
    ·rw [if_pos (show 0<n - d by omega),if_pos (show (1:Int)=1∧d<n from ⟨rfl,h3⟩)];rfl
    ·rw [if_neg (show ¬0<n - d by omega),if_neg (show ¬((1:Int)=1∧d<n) from fun h=>h3 h.2)];rfl
  ·rw [if_neg h1] at hok⊢;rw [if_neg (by rintro ⟨h,-⟩;exact h1 h),if_neg (by rintro ⟨h,-⟩;exact h1 h),ih q' k d 0 hd hk hok]
 ·intro q k d i _ _ _;rfl
 ·intro t ts h1 h2 q k d i hd hk hok;rw [eE,Bool.and_eq_true] at hok;rw [gT,cQ,h1 q _ (by have:=dH k i;omega) (hk t List.mem_cons_self) hok.1,h2 q k d (i+1) hd (fun t ht=>hk t (List.mem_cons_of_mem _ ht)) hok.2]
theorem aSr (t:Tm):∀(q p:Nat) (d:Int),0≤d→p≤30→shape q t=true→shape p (dC u d d t)=true→(dC u d d t).size≤400→fM (pU 0 u) d t=true:=by
 refine Tm.rec (motive_1:=fun t=>∀(q p:Nat) (d:Int),0≤d→p≤30→shape q t=true→shape p (dC u d d t)=true→(dC u d d t).size≤400→fM (pU 0 u) d t=true)
  (motive_2 := fun ts => ∀ (q p : Nat) (k d : Int) (i : Nat), 0 ≤ d → p ≤ 30 → (∀ t, t ∈ ts → shape q t = true) → (∀ t, t ∈ cQ u k d d i ts → shape p t = true) → aH (cQ u k d d i ts) ≤ 400 → eE (pU 0 u) k d i ts = true) ?_ ?_ ?_ t
 ·intro k n ks ih q p d hd hp h hs hz;obtain ⟨q',rfl,ha,h0,h1,hk⟩:=bX h;rw [fM];rw [dC] at hs hz;by_cases h1:k=1
  ·subst h1;rw [if_pos rfl];unfold pU
   by_cases h2:n=d
   ·rw [if_pos (show n - d=0 by omega)];rw [if_pos (show (1:Int)=1∧n=d from ⟨rfl,h2⟩)] at hs hz;refine yZ hd hsu ?_;rw [aE,eV hp _ hs,decide_eq_true hz];rfl
   ·rw [if_neg (show ¬n - d=0 by omega)]
  ·rw [if_neg h1];have hn:¬(k=1∧n=d):=by rintro ⟨h,-⟩;exact h1 h
   rw [if_neg hn] at hs hz;obtain ⟨p',rfl,hpa,hp0,hp1,hpk⟩:=bX hs;rw [Tm.size] at hz;exact ih q' p' k d 0 hd (by omega) hk hpk (by omega)
 ·intro q p k d i _ _ _ _ _;rfl
 ·intro t ts h1 h2 q p k d i hd hp hk hs hz;rw [cQ] at hs hz;rw [aH] at hz;rw [eE,h1 q p _ (by have:=dH k i;omega) hp (hk t List.mem_cons_self) (hs _ List.mem_cons_self) (by omega),h2 q p k d (i+1) hd hp (fun t ht=>hk t (List.mem_cons_of_mem _ ht)) (fun t ht=>hs t (List.mem_cons_of_mem _ ht)) (by omega)];rfl
end
theorem aW {t:Tm}(h:aE t=true):shape 30 t=true:=by simp only [aE,Bool.and_eq_true] at h;exact h.1
theorem nC {u t:Tm}(hu:aE u=true)(ht:aE t=true):eI 0 u t=vO (dC u 0 0 t):=by
 have hsu:=aW hu;unfold eI vO
 by_cases hv:aE (dC u 0 0 t)=true
 ·have h2:(dC u 0 0 t).size≤400:=by simp only [aE,Bool.and_eq_true,decide_eq_true_eq] at hv;exact hv.2
  have hok:=aSr hsu t 30 30 0 (Int.le_refl _) (pS _) (aW ht) (aW hv) h2;rw [if_pos hok,aWp hsu t 30 0 (Int.le_refl _) (aW ht) hok,if_pos hv]
 ·rw [if_neg hv];by_cases hok:fM (pU 0 u) 0 t=true
  ·rw [if_pos hok,aWp hsu t 30 0 (Int.le_refl _) (aW ht) hok,if_neg hv]
  ·rw [if_neg hok]
def gG:Tm→Tm
 | .mk k n ks=>
  if cH k ks=1 then dC (aI ks 1) 0 0 (aI (aI ks 0).ks 1)
  else if cH k ks=2 then aI ks 1
  else if cH k ks=3 then .mk 5 0 [.mk 5 0 [aI ks 2,aI (aI ks 3).ks 0],.mk 9 0 [aI ks 0,aI ks 1,aI ks 2,aI (aI ks 3).ks 0]]
  else if cH k ks=4 then aI ks 2
  else if cH k ks=5 then aI (aI ks 0).ks 1
  else aI (aI ks 0).ks 2
theorem rR {ks:List Tm}{i:Nat}(h:i<ks.length):aI ks i∈ks:=by
 rw [aI,List.getD_eq_getElem?_getD,oE h];exact iS h
theorem eW {k n:Int}{ks:List Tm}(h:aE (.mk k n ks)=true):aK k=(ks.length:Int):=by
 obtain ⟨q,_,ha,_,_,_⟩:=bX (aW h);exact ha
theorem aV {k n:Int}{ks:List Tm}{i:Nat}(h:aE (.mk k n ks)=true)(hi:i<ks.length):aE (aI ks i)=true:=aL h (rR hi)
theorem aUp (k:Int)(ks:List Tm):0≤cH k ks∧cH k ks≤6:=by unfold cH;repeat' split<;>omega
theorem aRb {k:Int}{ks:List Tm}(h:cH k ks=1):k=5∧gV ks 0=4:=by
 unfold cH at h
 repeat' split at h
 all_goals first|(exact absurd h (by decide))|(constructor<;>assumption)
theorem xK (ks:List Tm)(i:Nat)(h:i<ks.length):gV ks i=(aI ks i).k:=by
 rw [aI,List.getD_eq_getElem?_getD,oE h];simp [gV,h]
theorem zP {k n:Int}{ks:List Tm}(hv:aE (.mk k n ks)=true)(hr:cH k ks≠0):pT (.mk k n ks)=vO (gG (.mk k n ks)):=by
 have hle:=aUp k ks;rw [pT,gG];by_cases h1:cH k ks=1
 ·rw [if_pos h1,if_pos h1];obtain ⟨rfl,h4⟩:=aRb h1;have ha:aK 5=(ks.length:Int):=eW hv;have hl:ks.length=2:=by have h5:aK 5=2:=rfl;omega
  have hv0:=aV (i:=0) hv (by omega);have hv1:=aV (i:=1) hv (by omega);rw [xK ks 0 (by omega)] at h4;generalize aI ks 0=t0 at hv0 h4
  obtain ⟨k0,n0,ks0⟩:=t0;have h4:k0=4:=h4;subst h4;have ha0:aK 4=(ks0.length:Int):=eW hv0;have hl0:ks0.length=2:=by have h5:aK 4=2:=rfl;omega
  exact nC hv1 (aV (i:=1) hv0 (show 1<ks0.length by omega))
 ·rw [if_neg h1,if_neg h1];by_cases h2:cH k ks=2
  ·rw [if_pos h2,if_pos h2]
  rw [if_neg h2,if_neg h2];by_cases h3:cH k ks=3
  ·rw [if_pos h3,if_pos h3]
  rw [if_neg h3,if_neg h3];by_cases h4:cH k ks=4
  ·rw [if_pos h4,if_pos h4]
  rw [if_neg h4,if_neg h4];by_cases h5:cH k ks=5
  ·rw [if_pos h5,if_pos h5]
  rw [if_neg h5,if_neg h5,if_pos (by omega)]
mutual
def dE:Tm→Option Tm
 | .mk k n ks=>if cH k ks=0 then (jY ks).map (Tm.mk k n) else some (gG (.mk k n ks))
def jY:List Tm→Option (List Tm)
 | []=>none
 | t::ts=>match dE t with|some u=>some (u::ts)|none=>(jY ts).map (t::·)
end
def dJ:Nat→Tm→Option Tm × Int
 | fuel,t=>match dE t with
  | none=>(some t,0)
  | some t'=>match fuel with
   | 0=>(none,1)
   | fuel+1=>if aE t'=true then dJ fuel t' else (none,2)
theorem zX {k n:Int}{ks:List Tm}{j:Nat}{p:List Int}{u:Tm}(hj:j<ks.length):iT (.mk k n ks) ((j:Int)::p) u = .mk k n (ks.set j (iT ks[j] p u)):=by
 rw [iT];simp [List.getD,oE hj]
theorem out_step:(∀t:Tm,(dB t=none→dE t=none)∧∀p,dB t=some p→∃k n ks,lC t p=some (.mk k n ks)∧cH k ks≠0∧dE t=some (iT t p (gG (.mk k n ks))))∧
  (∀ (ts : List Tm) (i : Nat), (iU i ts = none → jY ts = none) ∧ ∀ p, iU i ts = some p → ∃ (j : Nat) (q : List Int) (h : j < ts.length), p = ((i + j : Nat) : Int) :: q ∧ ∃ k n ks, lC ts[j] q = some (.mk k n ks) ∧ cH k ks ≠ 0 ∧ jY ts = some (ts.set j (iT ts[j] q (gG (.mk k n ks))))) := by
 refine bO (fun k n ks ih=>⟨fun h=>?_,fun p hp=>?_⟩) (fun i=>⟨fun h=>rfl,fun p hp=>?_⟩) (fun t ts h1 h2 i=>⟨fun h=>?_,fun p hp=>?_⟩)
 ·rw [dB] at h;rw [dE];split at h
  ·rename_i hr
   rw [if_pos hr,(ih 0).1 h];rfl
  ·cases h
 ·rw [dB] at hp;rw [dE];split at hp
  ·rename_i hr
   obtain ⟨j,q,hj,rfl,k1,n1,ks1,ha,hr1,hs⟩:=(ih 0).2 p hp;refine ⟨k1,n1,ks1,?_,hr1,?_⟩
   ·rw [Nat.zero_add,oU hj];exact ha
   ·rw [if_pos hr,hs,Nat.zero_add,zX hj];rfl
  ·rename_i hr
   injection hp with hp;subst hp;exact ⟨k,n,ks,rfl,hr,by rw [if_neg hr];rfl⟩
 ·rw [iU] at hp;cases hp
 ·rw [iU] at h;rw [jY];cases ho:dB t with
  | some q=>rw [ho] at h;cases h
  | none=>
   rw [ho] at h;rw [h1.1 ho,(h2 (i+1)).1 (by simpa using h)];rfl
 ·rw [iU] at hp;rw [jY];cases ho:dB t with
  | some q=>
   rw [ho] at hp;injection hp with hp;subst hp;obtain ⟨k1,n1,ks1,ha,hr1,hs⟩:=h1.2 q ho;exact ⟨0,q,by simp,by simp,k1,n1,ks1,ha,hr1,by rw [hs];rfl⟩
  | none=>
   rw [ho] at hp;obtain ⟨j,q,hj,rfl,k1,n1,ks1,ha,hr1,hs⟩:=(h2 (i+1)).2 p (by simpa using hp);refine ⟨j+1,q,by simp;omega,by congr 1;omega,k1,n1,ks1,by simpa using ha,hr1,?_⟩;rw [h1.1 ho,hs];simp
theorem rF:∀(p:List Int) (t u v:Tm),lC t p=some u→aE (iT t p v)=true→aE v=true
 | [],t,u,v,h,hv=>hv
 | i::is,.mk k n ks,u,v,h,hv=>by
  rw [lC] at h;split at h
  ·rename_i hi
   have hj:i.toNat<ks.length:=by have h2:=hi.2;simp only [Tm.kids] at h2;omega
   rw [iT] at hv;refine rF is _ u v h (aL hv ?_);exact List.mem_iff_getElem.2 ⟨i.toNat,by simpa using hj,by simp [Tm.kids]⟩
  ·cases h
theorem sU {t:Tm}(h:¬aE t=true):vO t=none:=by rw [vO,if_neg h]
theorem aAt {t:Tm}(h:aE t=true):vO t=some t:=by rw [vO,if_pos h]
theorem aOh {t:Tm}{p:List Int}(hv:aE t=true)(hp:dB t=some p):∃t',dE t=some t'∧lX t p=vO t':=by
 obtain ⟨k,n,ks,ha,hr,hs⟩:=(out_step.1 t).2 p hp;refine ⟨_,hs,?_⟩;have hu:=mT ha hv;rw [lX,ha];simp only [zP hu hr]
 by_cases hc:aE (gG (.mk k n ks))=true
 ·rw [aAt hc]
 ·rw [sU hc,sU (fun h=>hc (rF p t _ _ ha h))]
theorem fR:∀(fuel:Nat) (t:Tm),aE t=true→dJ fuel t=redI dB fuel t
 | fuel,t,hv=>by
  rw [dJ,redI];cases hp:dB t with
  | none=>rw [(out_step.1 t).1 hp]
  | some p=>
   obtain ⟨t',hs,hc⟩:=aOh hv hp;rw [hs];cases fuel with
   | zero=>rfl
   | succ fuel=>
    simp only [hc]
    by_cases h:aE t'=true
    ·rw [if_pos h,aAt h];exact fR fuel t' h
    ·rw [if_neg h,sU h]
theorem bD {t:Tm}(h:aE t=true):shape 30 t=true:=by simp only [aE,Bool.and_eq_true] at h;exact h.1
theorem aX {k n:Int}{ks:List Tm}(h:aE (.mk k n ks)=true):aK k=(ks.length:Int)∧0≤n∧n≤dN k:=by
 have:=(bA 29 k n ks).1 (bD h);exact ⟨this.1,this.2.1,this.2.2.1⟩
theorem tZ {α:Type}:∀{l:List α},l.length=1→∃a,l=[a]
 | [a],_=>⟨a,rfl⟩
theorem mS {α:Type}:∀{l:List α},l.length=2→∃a b,l=[a,b]
 | [a,b],_=>⟨a,b,rfl⟩
theorem nY {α:Type}:∀{l:List α},l.length=3→∃a b c,l=[a,b,c]
 | [a,b,c],_=>⟨a,b,c,rfl⟩
theorem aEn {α:Type}:∀{l:List α},l.length=4→∃a b c d,l=[a,b,c,d]
 | [a,b,c,d],_=>⟨a,b,c,d,rfl⟩
theorem aQd {k:Int}{ks:List Tm}(h:cH k ks≠0) :
  (cH k ks = 1 ∧ k = 5 ∧ gV ks 0 = 4) ∨ (cH k ks = 2 ∧ k = 9 ∧ gV ks 3 = 7) ∨ (cH k ks = 3 ∧ k = 9 ∧ gV ks 3 = 8) ∨ (cH k ks = 4 ∧ k = 12 ∧ gV ks 1 = 11) ∨ (cH k ks = 5 ∧ k = 15 ∧ gV ks 0 = 14) ∨ (cH k ks = 6 ∧ k = 16 ∧ gV ks 0 = 14) := by
 unfold cH at h⊢
 by_cases h5:k=5
 ·rw [if_pos h5] at h⊢;by_cases h4:gV ks 0=4
  ·exact .inl ⟨by rw [if_pos h4],h5,h4⟩
  ·rw [if_neg h4] at h;exact absurd rfl h
 rw [if_neg h5] at h⊢;by_cases h9:k=9
 ·rw [if_pos h9] at h⊢;by_cases h7:gV ks 3=7
  ·exact .inr (.inl ⟨by rw [if_pos h7],h9,h7⟩)
  ·rw [if_neg h7] at h⊢;by_cases h8:gV ks 3=8
   ·exact .inr (.inr (.inl ⟨by rw [if_pos h8],h9,h8⟩))
   ·rw [if_neg h8] at h;exact absurd rfl h
 rw [if_neg h9] at h⊢;by_cases h12:k=12
 ·rw [if_pos h12] at h⊢;by_cases h4:gV ks 1=11
  ·exact .inr (.inr (.inr (.inl ⟨by rw [if_pos h4],h12,h4⟩)))
  ·rw [if_neg h4] at h;exact absurd rfl h
 rw [if_neg h12] at h⊢;by_cases h15:k=15
 ·rw [if_pos h15] at h⊢;by_cases h4:gV ks 0=14
  ·exact .inr (.inr (.inr (.inr (.inl ⟨by rw [if_pos h4],h15,h4⟩))))
  ·rw [if_neg h4] at h;exact absurd rfl h
 rw [if_neg h15] at h⊢;by_cases h16:k=16
 ·rw [if_pos h16] at h⊢;by_cases h4:gV ks 0=14
  ·exact .inr (.inr (.inr (.inr (.inr ⟨by rw [if_pos h4],h16,h4⟩))))
  ·rw [if_neg h4] at h;exact absurd rfl h
 rw [if_neg h16] at h;exact absurd rfl h
section
variable {w:World}{g:Nat}{k0 n0 k1 n1 k2 n2 k3 n3:Int}{s0 s1 s2 s3:List Tm}{A0 A1 A2 A3:Option Addr}{c0 c1 c2 c3:Nat}
theorem aHp (hB:Blk w g (Ro k0 n0 A0 s0.length c0))(l0:s0.length≤9223372036854775807)(r0:Rd w A0 0 s0):Rd w (some ⟨g,0,none⟩) 0 [.mk k0 n0 s0]:=
 Rd.cons_iff.2 ⟨⟨g,0,rfl,RdC.iff.2 ⟨hB.at_ (i:=0) rfl,hB.at_ (i:=1) rfl,A0,c0,hB.at_ (i:=2) rfl,l0,r0⟩⟩,Rd.nil⟩
theorem cT (hB:Blk w g #[.int .i64 k0,.int .i64 n0,.slice A0 s0.length c0,.int .i64 k1,.int .i64 n1,.slice A1 s1.length c1])(l0:s0.length≤9223372036854775807)(l1:s1.length≤9223372036854775807)(r0:Rd w A0 0 s0)(r1:Rd w A1 0 s1):Rd w (some ⟨g,0,none⟩) 0 [.mk k0 n0 s0,.mk k1 n1 s1]:=
 Rd.cons_iff.2 ⟨⟨g,0,rfl,RdC.iff.2 ⟨hB.at_ (i:=0) rfl,hB.at_ (i:=1) rfl,A0,c0,hB.at_ (i:=2) rfl,l0,r0⟩⟩,
  Rd.cons_iff.2 ⟨⟨g,0,rfl,RdC.iff.2 ⟨hB.at_ (i:=3) rfl,hB.at_ (i:=4) rfl,A1,c1,hB.at_ (i:=5) rfl,l1,r1⟩⟩,Rd.nil⟩⟩
theorem aIq (hB:Blk w g #[.int .i64 k0,.int .i64 n0,.slice A0 s0.length c0,.int .i64 k1,.int .i64 n1,.slice A1 s1.length c1,.int .i64 k2,.int .i64 n2,.slice A2 s2.length c2])(l0:s0.length≤9223372036854775807)(l1:s1.length≤9223372036854775807)(l2:s2.length≤9223372036854775807)(r0:Rd w A0 0 s0)(r1:Rd w A1 0 s1)(r2:Rd w A2 0 s2):Rd w (some ⟨g,0,none⟩) 0 [.mk k0 n0 s0,.mk k1 n1 s1,.mk k2 n2 s2]:=
 Rd.cons_iff.2 ⟨⟨g,0,rfl,RdC.iff.2 ⟨hB.at_ (i:=0) rfl,hB.at_ (i:=1) rfl,A0,c0,hB.at_ (i:=2) rfl,l0,r0⟩⟩,
  Rd.cons_iff.2 ⟨⟨g,0,rfl,RdC.iff.2 ⟨hB.at_ (i:=3) rfl,hB.at_ (i:=4) rfl,A1,c1,hB.at_ (i:=5) rfl,l1,r1⟩⟩,
  Rd.cons_iff.2 ⟨⟨g,0,rfl,RdC.iff.2 ⟨hB.at_ (i:=6) rfl,hB.at_ (i:=7) rfl,A2,c2,hB.at_ (i:=8) rfl,l2,r2⟩⟩,Rd.nil⟩⟩⟩
theorem uV (hB:Blk w g #[.int .i64 k0,.int .i64 n0,.slice A0 s0.length c0,.int .i64 k1,.int .i64 n1,.slice A1 s1.length c1,.int .i64 k2,.int .i64 n2,.slice A2 s2.length c2,.int .i64 k3,.int .i64 n3,.slice A3 s3.length c3])(l0:s0.length≤9223372036854775807)(l1:s1.length≤9223372036854775807)(l2:s2.length≤9223372036854775807)(l3:s3.length≤9223372036854775807)(r0:Rd w A0 0 s0)(r1:Rd w A1 0 s1)(r2:Rd w A2 0 s2)(r3:Rd w A3 0 s3):Rd w (some ⟨g,0,none⟩) 0 [.mk k0 n0 s0,.mk k1 n1 s1,.mk k2 n2 s2,.mk k3 n3 s3]:=
 Rd.cons_iff.2 ⟨⟨g,0,rfl,RdC.iff.2 ⟨hB.at_ (i:=0) rfl,hB.at_ (i:=1) rfl,A0,c0,hB.at_ (i:=2) rfl,l0,r0⟩⟩,
  Rd.cons_iff.2 ⟨⟨g,0,rfl,RdC.iff.2 ⟨hB.at_ (i:=3) rfl,hB.at_ (i:=4) rfl,A1,c1,hB.at_ (i:=5) rfl,l1,r1⟩⟩,
  Rd.cons_iff.2 ⟨⟨g,0,rfl,RdC.iff.2 ⟨hB.at_ (i:=6) rfl,hB.at_ (i:=7) rfl,A2,c2,hB.at_ (i:=8) rfl,l2,r2⟩⟩,
  Rd.cons_iff.2 ⟨⟨g,0,rfl,RdC.iff.2 ⟨hB.at_ (i:=9) rfl,hB.at_ (i:=10) rfl,A3,c3,hB.at_ (i:=11) rfl,l3,r3⟩⟩,Rd.nil⟩⟩⟩⟩
end
section
variable {P:Program}{ops:Array Oper}{Q:Exit→Act→World→Prop}{S:World→Prop}{B:List Nat}
theorem sH {i j m:Nat}{l:Array Bool}{a:Act}{w:World}{f:Nat}{o o2 o3:Oper}(hr:Region.ready .any ops l=[i,j,m])(ho:ops[i]?=some o)(ho2:ops[j]?=some o2)(ho3:ops[m]?=some o3)
  (h : wpList P ops (rJ S (gC P ops Q S B f (l.setIfInBounds i true)) Q) [o] a w) (h2 : wpList P ops (rJ S (gC P ops Q S B f (l.setIfInBounds j true)) Q) [o2] a w) (h3 : wpList P ops (rJ S (gC P ops Q S B f (l.setIfInBounds m true)) Q) [o3] a w) : gC P ops Q S B (f + 1) l a w := by
 refine aAn (by rw [hr];simp) fun i' hi o' ho'=>?_
 rw [hr] at hi;simp only [List.mem_cons,List.not_mem_nil,or_false] at hi
 rcases hi with rfl|rfl|rfl
 ·rw [ho] at ho';injection ho' with ho';subst ho';exact h
 ·rw [ho2] at ho';injection ho' with ho';subst ho';exact h2
 ·rw [ho3] at ho';injection ho' with ho';subst ho';exact h3
theorem aQj {i j m q:Nat}{l:Array Bool}{a:Act}{w:World}{f:Nat}{o o2 o3 o4:Oper}(hr:Region.ready .any ops l=[i,j,m,q])(ho:ops[i]?=some o)(ho2:ops[j]?=some o2)(ho3:ops[m]?=some o3)(ho4:ops[q]?=some o4)
  (h : wpList P ops (rJ S (gC P ops Q S B f (l.setIfInBounds i true)) Q) [o] a w) (h2 : wpList P ops (rJ S (gC P ops Q S B f (l.setIfInBounds j true)) Q) [o2] a w) (h3 : wpList P ops (rJ S (gC P ops Q S B f (l.setIfInBounds m true)) Q) [o3] a w) (h4 : wpList P ops (rJ S (gC P ops Q S B f (l.setIfInBounds q true)) Q) [o4] a w) : gC P ops Q S B (f + 1) l a w := by
 refine aAn (by rw [hr];simp) fun i' hi o' ho'=>?_
 rw [hr] at hi;simp only [List.mem_cons,List.not_mem_nil,or_false] at hi
 rcases hi with rfl|rfl|rfl|rfl
 ·rw [ho] at ho';injection ho' with ho';subst ho';exact h
 ·rw [ho2] at ho';injection ho' with ho';subst ho';exact h2
 ·rw [ho3] at ho';injection ho' with ho';subst ho';exact h3
 ·rw [ho4] at ho';injection ho' with ho';subst ho';exact h4
end
theorem aS (k:Int)(v:Value)(hv:∃A l c,v = .slice A l c)(w:World):Calls prog 18 #[.int .i64 k,v] w fun e w'=>e = .returned (.agg #[.int .i64 k,.int .i64 0,v])∧Bw w w':=by
 obtain ⟨A,l,c,rfl⟩:=hv;go_enter func18,ntmps18;go_wp2
 refine bodyPost_ret (v:=.agg (Ro k 0 A l c)) (by simp [results,results18,go_sem]) rfl ⟨rfl,?_⟩;exact bw1
theorem aXj (n n0 ka na:Int)(kas:List Tm)(kb nb:Int)(kbs:List Tm)(k1 n1:Int)(s1:List Tm)(A:Option Addr)(c:Nat)(w:World)(hv:aE (.mk 5 n [.mk 4 n0 [.mk ka na kas,.mk kb nb kbs],.mk k1 n1 s1])=true)(hr:Rd w A 0 [.mk 4 n0 [.mk ka na kas,.mk kb nb kbs],.mk k1 n1 s1]) :
  Calls prog 84 #[.agg (Ro 5 n A 2 c)] w (uK w (eI 0 (.mk k1 n1 s1) (.mk kb nb kbs))):=by
 have har:=aD (aX hv).1;have hrx:=aD (show cH 5 [.mk 4 n0 [.mk ka na kas,.mk kb nb kbs],.mk k1 n1 s1]=1 from rfl);have hv1:=aL hv (t:=.mk k1 n1 s1) (by simp);have hvb:=aL (aL hv (t:=.mk 4 n0 [.mk ka na kas,.mk kb nb kbs]) (by simp)) (t:=.mk kb nb kbs) (by simp);have hsh1:=aD (bD hv1);have hshb:=aD (bD hvb);have hz1:=aJ hv1;have hzb:=aJ hvb;clear hv hv1 hvb;obtain ⟨b0,o0,k0',n0',ks0',A0,c0,hA0,hk0,i1,i2,i3,hl0,hr0⟩:=hr.at_ (j:=0) (by simp);injection hk0 with e1 e2 e3;subst e1 e2 e3 hA0;obtain ⟨b0',o0',k1',n1',ks1',A1,c1,hA1,hk1,j1,j2,j3,hl1,hr1⟩:=hr.at_ (j:=1) (by simp);injection hk1 with e1 e2 e3;injection hA1 with hA1;injection hA1 with hA2 hA3;subst e1 e2 e3 hA2 hA3;obtain ⟨bb,ob,kb',nb',kbs',Ab,cb,hAb,hkb,m1,m2,m3,hlb,hrb⟩:=hr0.at_ (j:=1) (by simp);injection hkb with e1 e2 e3;subst e1 e2 e3 hAb;simp only [Nat.zero_mul,Nat.add_zero,Nat.one_mul] at i1 i2 i3 j1 j2 j3 m1 m2 m3
 cases hres:eI 0 (.mk k1 n1 s1) (.mk kb nb kbs) with
 | none=>
  replace hres:=aD hres;go_enter func84,ntmps84;go_wp2_with (go_at_call 63;refine (cU 5 n [.mk 4 n0 [.mk ka na kas,.mk kb nb kbs],.mk k1 n1 s1] _ c _ (by simp) har.out ((hr.alloc _).alloc _)).mono ?_;rw [hrx.out];rintro e w1 ⟨rfl,hb1⟩;have hX:=((aC w 25 (Ro 5 n (some ⟨b0,o0,none⟩) 2 c) rfl).alloc (.cells Zr 25)).keep hb1;have hZ:=bH hb1;have g1:Bw w w1:=bQ bw2 hb1)
  refine aN ?_;intro wx hwx;have hXx:=(show Blk wx w.heap.size _ by rw [hwx];exact hX);have hZx:=(show Blk wx (w.heap.size+1) _ by rw [hwx];exact hZ);have gx:Bw w wx:=by rw [hwx];exact g1
  clear hwx;have lz:=hZx.lt;have g0:=aF hXx.three.1;have g1':=aF hXx.three.2.1;have g2:=aF hXx.three.2.2;have y2:=aF ((bU gx) _ _ i3);have m0:=aF ((bU gx) _ _ m1);have m1':=aF ((bU gx) _ _ m2);have m2':=aF ((bU gx) _ _ m3);have v0:=aF ((bU gx) _ _ j1);have v1:=aF ((bU gx) _ _ j2);have v2:=aF ((bU gx) _ _ j3);have r1:=hr1.below gx;have rb:=hrb.below gx;clear i1 i2 i3 j1 j2 j3 m1 m2 m3;refine dX wx [12,13,14,15] [0,1,2,3,4,5,6,7,8,9,10] 16 5 (lT:=[_,_,_,_,_,_,_,_,_,_,_]) ?_;intro q0 bq0;refine bV (aD ?_);refine bG 11 ?_
  ·go_wp2_with (go_at_call 110;refine (eQ kb nb kbs Ab cb 0 k1 n1 s1 A1 c1 _ (by omega) hsh1.out (by omega) (r1.below bq0) (by omega) hshb.out (rb.below bq0)).mono ?_;rw [hres.out];intro e q1 hgo;obtain ⟨rfl,hbq1⟩:=(gX hgo))
   refine aY bq0 hbq1 ?_;intro bq1 lq1;refine eS [12,13] 2 (lT:=[_,_]) ?_;refine bV (aD ?_);refine cD [14,15] (lB:=[_,_]) ?_;have hZ2:=hZx.keep bq1;obtain ⟨d0,d1,d2,e0,e1,e2⟩:=bW hZ2;have gf:=gx.trans (bq1.mono gx.size);have sx:=gx.size;go_wp2_with fail
   refine bodyPost_ret (v:=.tuple #[fT,.bool false]) (by simp [results,results84,go_sem,d0,d1,d2,fT]) rfl ⟨rfl,?_⟩;exact ((gf.setCell (by simp) _).setCell (by simp) _).setCell (by simp) _
 | some r=>
  obtain ⟨kr,nr,rs⟩:=r;replace hres:=aD hres;go_enter func84,ntmps84;go_wp2_with (go_at_call 63;refine (cU 5 n [.mk 4 n0 [.mk ka na kas,.mk kb nb kbs],.mk k1 n1 s1] _ c _ (by simp) har.out ((hr.alloc _).alloc _)).mono ?_;rw [hrx.out];rintro e w1 ⟨rfl,hb1⟩;have hX:=((aC w 25 (Ro 5 n (some ⟨b0,o0,none⟩) 2 c) rfl).alloc (.cells Zr 25)).keep hb1;have hZ:=bH hb1;have g1:Bw w w1:=bQ bw2 hb1)
  refine aN ?_;intro wx hwx;have hXx:=(show Blk wx w.heap.size _ by rw [hwx];exact hX);have hZx:=(show Blk wx (w.heap.size+1) _ by rw [hwx];exact hZ);have gx:Bw w wx:=by rw [hwx];exact g1
  clear hwx;have lz:=hZx.lt;have g0:=aF hXx.three.1;have g1':=aF hXx.three.2.1;have g2:=aF hXx.three.2.2;have y2:=aF ((bU gx) _ _ i3);have m0:=aF ((bU gx) _ _ m1);have m1':=aF ((bU gx) _ _ m2);have m2':=aF ((bU gx) _ _ m3);have v0:=aF ((bU gx) _ _ j1);have v1:=aF ((bU gx) _ _ j2);have v2:=aF ((bU gx) _ _ j3);have r1:=hr1.below gx;have rb:=hrb.below gx;clear i1 i2 i3 j1 j2 j3 m1 m2 m3;refine dX wx [12,13,14,15] [0,1,2,3,4,5,6,7,8,9,10] 16 5 (lT:=[_,_,_,_,_,_,_,_,_,_,_]) ?_;intro q0 bq0;refine bV (aD ?_);refine bG 11 ?_
  ·go_wp2_with (go_at_call 110;refine (eQ kb nb kbs Ab cb 0 k1 n1 s1 A1 c1 _ (by omega) hsh1.out (by omega) (r1.below bq0) (by omega) hshb.out (rb.below bq0)).mono ?_;rw [hres.out];intro e q1 hgo;obtain ⟨A7,c7,rfl,hl7,hfq1,hbq1⟩:=cS hgo)
   refine aY bq0 hbq1 ?_;intro bq1 lq1;refine eS [12,13] 2 (lT:=[_,_]) ?_;refine bV (aD ?_);refine cD [14,15] (lB:=[_,_]) ?_;have hZ2:=hZx.keep bq1;obtain ⟨d0,d1,d2,e0,e1,e2⟩:=bW hZ2;have gf:=gx.trans (bq1.mono gx.size);have sx:=gx.size;go_wp2_with fail
   refine bodyPost_ret (v:=.tuple #[.agg (Ro kr nr A7 rs.length c7),.bool true]) (by simp [results,results84,go_sem,d0,d1,d2,fT]) rfl ⟨A7,c7,rfl,hl7,?_,?_⟩
   ·exact ((((hfq1.mono (by have:=bq0.size;omega)).setCell (by simp;omega) _).setCell (by simp;omega) _).setCell (by simp;omega) _).mono (by omega)
   ·exact ((gf.setCell (by simp) _).setCell (by simp) _).setCell (by simp) _
theorem aXm (n:Int)(t0:Tm)(k1 n1:Int)(s1:List Tm)(t2:Tm)(n3:Int)(s3:List Tm)(A:Option Addr)(c:Nat)(w:World)(hv:aE (.mk 9 n [t0,.mk k1 n1 s1,t2,.mk 7 n3 s3])=true)(hr:Rd w A 0 [t0,.mk k1 n1 s1,t2,.mk 7 n3 s3]) :
  Calls prog 84 #[.agg (Ro 9 n A 4 c)] w (uK w (some (.mk k1 n1 s1))):=by
 have har:=aD (aX hv).1;have hrx:=aD (show cH 9 [t0,.mk k1 n1 s1,t2,.mk 7 n3 s3]=2 from rfl);have hv1:=aD (aL hv (t:=.mk k1 n1 s1) (by simp));have hz1:=aJ hv1.out;clear hv;obtain ⟨b0,o0,k0',n0',ks0',A0,c0,hA0,hk0,i1,i2,i3,hl0,hr0⟩:=hr.at_ (j:=1) (by simp);injection hk0 with e1 e2 e3;subst e1 e2 e3 hA0;simp only [Nat.zero_mul,Nat.add_zero,Nat.one_mul,Nat.reduceMul] at i1 i2 i3
 have q5:=((Keeps.alloc w (.cells (Ro 9 n (some ⟨b0,o0,none⟩) 4 c) 25)).trans (Keeps.alloc _ (.cells Zr 25)));go_enter func84,ntmps84;go_wp2_with (first
  | (go_at_call 86;have _t:=tok2;refine (iB k1 n1 s1 A8 c8 _ (by omega) hf8.rd hv1.out).mono ?_;rintro e w9 ⟨rfl,hb9⟩;have hZ9:=hZ8.keep hb9;have g9:=g8.trans (hb9.mono g8.size);have hf9:=hf8.below hb9;obtain ⟨d0,d1,d2,e0,e1,e2⟩:=bW hZ9)
  | (go_at_call 61;have _t:=tok1;refine (kC (s1.length+aH s1+1) k1 n1 s1 A0 c0 _ (by omega) (by omega) rP).mono ?_;rintro e w8 ⟨A8,c8,rfl,hl8,hf8,hb8⟩;have hZ8:=hZ.keep hb8;have g8:=g1.trans (hb8.mono g1.size);have tok2:=trivial)
  | (go_at_call 63;refine (cU 9 n [t0,.mk k1 n1 s1,t2,.mk 7 n3 s3] _ c _ (by simp) har.out ((hr.alloc _).alloc _)).mono ?_;rw [hrx.out];rintro e w1 ⟨rfl,hb1⟩;have hX:=((aC w 25 (Ro 9 n (some ⟨b0,o0,none⟩) 4 c) rfl).alloc (.cells Zr 25)).keep hb1;have hZ:=bH hb1;have g1:Bw w w1:=bQ bw2 hb1;obtain ⟨x0,x1,x2⟩:=hX.three;have y0:=(bU g1) _ _ i1;have y1:=(bU g1) _ _ i2;have y2:=(bU g1) _ _ i3;  have rP:=hr0.below g1;have tok1:=trivial))
 have sz:=g1.size;have s8:=hb8.size;refine bodyPost_ret (v:=.tuple #[.agg (Ro k1 n1 A8 s1.length c8),.bool true]) (by simp [results,results84,go_sem,d0,d1,d2]) rfl ⟨A8,c8,rfl,hl8,?_,?_⟩
 ·exact (((hf9.setCell (by have:=hZ.lt;simp;omega) _).setCell (by have:=hZ.lt;simp;omega) _).setCell (by have:=hZ.lt;simp;omega) _).mono sz
 ·exact bT g9
theorem aXw (n:Int)(t0:Tm)(n3:Int)(s3:List Tm)(k1 n1:Int)(s1:List Tm)(A:Option Addr)(c:Nat)(w:World)(hv:aE (.mk 12 n [t0,.mk 11 n3 s3,.mk k1 n1 s1])=true)(hr:Rd w A 0 [t0,.mk 11 n3 s3,.mk k1 n1 s1]) :
  Calls prog 84 #[.agg (Ro 12 n A 3 c)] w (uK w (some (.mk k1 n1 s1))):=by
 have har:=aD (aX hv).1;have hrx:=aD (show cH 12 [t0,.mk 11 n3 s3,.mk k1 n1 s1]=4 from rfl);have hv1:=aD (aL hv (t:=.mk k1 n1 s1) (by simp));have hz1:=aJ hv1.out;clear hv;obtain ⟨b0,o0,k0',n0',ks0',A0,c0,hA0,hk0,i1,i2,i3,hl0,hr0⟩:=hr.at_ (j:=2) (by simp);injection hk0 with e1 e2 e3;subst e1 e2 e3 hA0;simp only [Nat.zero_mul,Nat.add_zero,Nat.one_mul,Nat.reduceMul] at i1 i2 i3
 have q5:=((Keeps.alloc w (.cells (Ro 12 n (some ⟨b0,o0,none⟩) 3 c) 25)).trans (Keeps.alloc _ (.cells Zr 25)));go_enter func84,ntmps84;go_wp2_with (first
  | (go_at_call 86;have _t:=tok2;refine (iB k1 n1 s1 A8 c8 _ (by omega) hf8.rd hv1.out).mono ?_;rintro e w9 ⟨rfl,hb9⟩;have hZ9:=hZ8.keep hb9;have g9:=g8.trans (hb9.mono g8.size);have hf9:=hf8.below hb9;obtain ⟨d0,d1,d2,e0,e1,e2⟩:=bW hZ9)
  | (go_at_call 61;have _t:=tok1;refine (kC (s1.length+aH s1+1) k1 n1 s1 A0 c0 _ (by omega) (by omega) rP).mono ?_;rintro e w8 ⟨A8,c8,rfl,hl8,hf8,hb8⟩;have hZ8:=hZ.keep hb8;have g8:=g1.trans (hb8.mono g1.size);have tok2:=trivial)
  | (go_at_call 63;refine (cU 12 n [t0,.mk 11 n3 s3,.mk k1 n1 s1] _ c _ (by simp) har.out ((hr.alloc _).alloc _)).mono ?_;rw [hrx.out];rintro e w1 ⟨rfl,hb1⟩;have hX:=((aC w 25 (Ro 12 n (some ⟨b0,o0,none⟩) 3 c) rfl).alloc (.cells Zr 25)).keep hb1;have hZ:=bH hb1;have g1:Bw w w1:=bQ bw2 hb1;obtain ⟨x0,x1,x2⟩:=hX.three;have y0:=(bU g1) _ _ i1;have y1:=(bU g1) _ _ i2;have y2:=(bU g1) _ _ i3;  have rP:=hr0.below g1;have tok1:=trivial))
 have sz:=g1.size;have s8:=hb8.size;refine bodyPost_ret (v:=.tuple #[.agg (Ro k1 n1 A8 s1.length c8),.bool true]) (by simp [results,results84,go_sem,d0,d1,d2]) rfl ⟨A8,c8,rfl,hl8,?_,?_⟩
 ·exact (((hf9.setCell (by have:=hZ.lt;simp;omega) _).setCell (by have:=hZ.lt;simp;omega) _).setCell (by have:=hZ.lt;simp;omega) _).mono sz
 ·exact bT g9
theorem aXt (n:Int)(n3:Int)(t0:Tm)(k1 n1:Int)(s1:List Tm)(t2:Tm)(A:Option Addr)(c:Nat)(w:World)(hv:aE (.mk 15 n [.mk 14 n3 [t0,.mk k1 n1 s1,t2]])=true)(hr:Rd w A 0 [.mk 14 n3 [t0,.mk k1 n1 s1,t2]]) :
  Calls prog 84 #[.agg (Ro 15 n A 1 c)] w (uK w (some (.mk k1 n1 s1))):=by
 have har:=aD (aX hv).1;have hrx:=aD (show cH 15 [.mk 14 n3 [t0,.mk k1 n1 s1,t2]]=5 from rfl);have hv1:=aD (aL (aL hv (t:=.mk 14 n3 [t0,.mk k1 n1 s1,t2]) (by simp)) (t:=.mk k1 n1 s1) (by simp));have hz1:=aJ hv1.out;clear hv;obtain ⟨b0,o0,k0',n0',ks0',A0,c0,hA0,hk0,i1,i2,i3,hl0,hr0⟩:=hr.at_ (j:=0) (by simp);injection hk0 with e1 e2 e3;subst e1 e2 e3 hA0;simp only [Nat.zero_mul,Nat.add_zero,Nat.one_mul,Nat.reduceMul] at i1 i2 i3
 obtain ⟨bb,ob,kb',nb',kbs',Ab,cb,hAb,hkb,m1,m2,m3,hlb,hrb⟩:=hr0.at_ (j:=1) (by simp);injection hkb with e1 e2 e3;subst e1 e2 e3 hAb;simp only [Nat.zero_mul,Nat.add_zero,Nat.one_mul,Nat.reduceMul] at m1 m2 m3
 have q5:=((Keeps.alloc w (.cells (Ro 15 n (some ⟨b0,o0,none⟩) 1 c) 25)).trans (Keeps.alloc _ (.cells Zr 25)));go_enter func84,ntmps84;go_wp2_with (first
  | (go_at_call 86;have _t:=tok2;refine (iB k1 n1 s1 A8 c8 _ (by omega) hf8.rd hv1.out).mono ?_;rintro e w9 ⟨rfl,hb9⟩;have hZ9:=hZ8.keep hb9;have g9:=g8.trans (hb9.mono g8.size);have hf9:=hf8.below hb9;obtain ⟨d0,d1,d2,e0,e1,e2⟩:=bW hZ9)
  | (go_at_call 61;have _t:=tok1;refine (kC (s1.length+aH s1+1) k1 n1 s1 Ab cb _ (by omega) (by omega) rP).mono ?_;rintro e w8 ⟨A8,c8,rfl,hl8,hf8,hb8⟩;have hZ8:=hZ.keep hb8;have g8:=g1.trans (hb8.mono g1.size);have tok2:=trivial)
  | (go_at_call 63;refine (cU 15 n [.mk 14 n3 [t0,.mk k1 n1 s1,t2]] _ c _ (by simp) har.out ((hr.alloc _).alloc _)).mono ?_;rw [hrx.out];rintro e w1 ⟨rfl,hb1⟩;have hX:=((aC w 25 (Ro 15 n (some ⟨b0,o0,none⟩) 1 c) rfl).alloc (.cells Zr 25)).keep hb1;have hZ:=bH hb1;have g1:Bw w w1:=bQ bw2 hb1;obtain ⟨x0,x1,x2⟩:=hX.three;have y0:=(bU g1) _ _ i1;have y1:=(bU g1) _ _ i2;have y2:=(bU g1) _ _ i3;have z0:=(bU g1) _ _ m1;have z1:=(bU g1) _ _ m2;have z2:=(bU g1) _ _ m3;have rP:=hrb.below g1;have tok1:=trivial))
 have sz:=g1.size;have s8:=hb8.size;refine bodyPost_ret (v:=.tuple #[.agg (Ro k1 n1 A8 s1.length c8),.bool true]) (by simp [results,results84,go_sem,d0,d1,d2]) rfl ⟨A8,c8,rfl,hl8,?_,?_⟩
 ·exact (((hf9.setCell (by have:=hZ.lt;simp;omega) _).setCell (by have:=hZ.lt;simp;omega) _).setCell (by have:=hZ.lt;simp;omega) _).mono sz
 ·exact bT g9
theorem aWu (n:Int)(n3:Int)(t0 t1:Tm)(k1 n1:Int)(s1:List Tm)(A:Option Addr)(c:Nat)(w:World)(hv:aE (.mk 16 n [.mk 14 n3 [t0,t1,.mk k1 n1 s1]])=true)(hr:Rd w A 0 [.mk 14 n3 [t0,t1,.mk k1 n1 s1]]) :
  Calls prog 84 #[.agg (Ro 16 n A 1 c)] w (uK w (some (.mk k1 n1 s1))):=by
 have har:=aD (aX hv).1;have hrx:=aD (show cH 16 [.mk 14 n3 [t0,t1,.mk k1 n1 s1]]=6 from rfl);have hv1:=aD (aL (aL hv (t:=.mk 14 n3 [t0,t1,.mk k1 n1 s1]) (by simp)) (t:=.mk k1 n1 s1) (by simp));have hz1:=aJ hv1.out;clear hv;obtain ⟨b0,o0,k0',n0',ks0',A0,c0,hA0,hk0,i1,i2,i3,hl0,hr0⟩:=hr.at_ (j:=0) (by simp);injection hk0 with e1 e2 e3;subst e1 e2 e3 hA0;simp only [Nat.zero_mul,Nat.add_zero,Nat.one_mul,Nat.reduceMul] at i1 i2 i3
 obtain ⟨bb,ob,kb',nb',kbs',Ab,cb,hAb,hkb,m1,m2,m3,hlb,hrb⟩:=hr0.at_ (j:=2) (by simp);injection hkb with e1 e2 e3;subst e1 e2 e3 hAb;simp only [Nat.zero_mul,Nat.add_zero,Nat.one_mul,Nat.reduceMul] at m1 m2 m3
 have q5:=((Keeps.alloc w (.cells (Ro 16 n (some ⟨b0,o0,none⟩) 1 c) 25)).trans (Keeps.alloc _ (.cells Zr 25)));go_enter func84,ntmps84;go_wp2_with (first
  | (go_at_call 86;have _t:=tok2;refine (iB k1 n1 s1 A8 c8 _ (by omega) hf8.rd hv1.out).mono ?_;rintro e w9 ⟨rfl,hb9⟩;have hZ9:=hZ8.keep hb9;have g9:=g8.trans (hb9.mono g8.size);have hf9:=hf8.below hb9;obtain ⟨d0,d1,d2,e0,e1,e2⟩:=bW hZ9)
  | (go_at_call 61;have _t:=tok1;refine (kC (s1.length+aH s1+1) k1 n1 s1 Ab cb _ (by omega) (by omega) rP).mono ?_;rintro e w8 ⟨A8,c8,rfl,hl8,hf8,hb8⟩;have hZ8:=hZ.keep hb8;have g8:=g1.trans (hb8.mono g1.size);have tok2:=trivial)
  | (go_at_call 63;refine (cU 16 n [.mk 14 n3 [t0,t1,.mk k1 n1 s1]] _ c _ (by simp) har.out ((hr.alloc _).alloc _)).mono ?_;rw [hrx.out];rintro e w1 ⟨rfl,hb1⟩;have hX:=((aC w 25 (Ro 16 n (some ⟨b0,o0,none⟩) 1 c) rfl).alloc (.cells Zr 25)).keep hb1;have hZ:=bH hb1;have g1:Bw w w1:=bQ bw2 hb1;obtain ⟨x0,x1,x2⟩:=hX.three;have y0:=(bU g1) _ _ i1;have y1:=(bU g1) _ _ i2;have y2:=(bU g1) _ _ i3;have z0:=(bU g1) _ _ m1;have z1:=(bU g1) _ _ m2;have z2:=(bU g1) _ _ m3;have rP:=hrb.below g1;have tok1:=trivial))
 have sz:=g1.size;have s8:=hb8.size;refine bodyPost_ret (v:=.tuple #[.agg (Ro k1 n1 A8 s1.length c8),.bool true]) (by simp [results,results84,go_sem,d0,d1,d2]) rfl ⟨A8,c8,rfl,hl8,?_,?_⟩
 ·exact (((hf9.setCell (by have:=hZ.lt;simp;omega) _).setCell (by have:=hZ.lt;simp;omega) _).setCell (by have:=hZ.lt;simp;omega) _).mono sz
 ·exact bT g9
def sN:Nat→Tm→Bool
 | 0,_=>false
 | d+1,.mk _ n ks=>decide (n≤3) && ks.all (sN d)
theorem aGs:∀{a b:Nat} {t:Tm},a≤b→sN a t=true→sN b t=true
 | 0,b,t,_,h=>by rw [sN] at h;cases h
 | a+1,0,t,hab,h=>by omega
 | a+1,b+1,.mk k n ks,hab,h=>by
  rw [sN,Bool.and_eq_true] at h⊢;exact ⟨h.1,List.all_eq_true.2 fun t ht=>aGs (by omega) (List.all_eq_true.1 h.2 t ht)⟩
theorem tG {k n:Int}{ks:List Tm}(h:aE (.mk k n ks)=true):n≤20:=by
 simp only [aE,Bool.and_eq_true] at h
 obtain ⟨q,_,_,_,hm,_⟩:=bX h.1;have:dN k≤20:=by unfold dN;repeat' split<;>omega
 omega
def aCk:Tm:=.mk 6 0 []
def oD (s:Tm)(kind:Int):Option Tm:=
 if aE s=true then (match redI bS 200 s with|(some o,c)=>if c=0∧o.k=kind then some o else none|(none,_)=>none) else none
def aEe (a b:Tm):Bool:=aE a && aE b && (iP 200 a b==1)
def wT (o:Option Tm):Option Int:=match o with|none=>none|some s=>(oD s 2).map (fun h=>h.n)
def jC (o:Option Tm)(want:Tm):Bool:=match o with|some s=>aEe s want|none=>false
def aBx (o want:Option Tm):Bool:=match want with|some x=>jC o x|none=>false
def fmS (o:Option Tm)(kind:Int):Option Tm:=match o with|none=>none|some s=>oD s kind
def wK (o:Option Tm)(t:Tm):Bool:=match fmS o 3 with|some s=>aEe (aI s.ks 0) t && (oD (aI s.ks 1) 2).isSome|none=>false
def aKc (a b:Tm):Tm:=.mk 5 0 [a,b]
def aVg (p:Tm):Option Tm:=
 match cG 1 0 p with
 | none=>none
 | some one=>match cG 2 0 p with
  | none=>none
  | some two=>vO (.mk 3 0 [aCk,.mk 3 0 [aKc one (.mk 1 0 []),aKc two (.mk 8 0 [.mk 1 1 []])]])
def aKm (rec_:Tm→Option Tm)(ctx:List Tm)(t:Tm)(ty:Nat→Option Tm):Option Tm:=
 if t.k=1 then (if 0≤t.n∧t.n<ctx.length then cG (t.n+1) 0 (ctx.getD (ctx.length - 1 - t.n.toNat) default) else none)
 else if t.k=2 then (if t.n=3 then none else some (.mk 2 (t.n+1) []))
 else if t.k=6 then some (.mk 2 0 [])
 else if t.k=7 then some aCk
 else if t.k=8 then (if jC (ty 0) aCk=true then some aCk else none)
 else if t.k=3 then (match wT (ty 0) with|none=>none|some i=>match wT (ty 1) with|none=>none|some j=>some (.mk 2 (if i<j then j else i) []))
 else if t.k=4 then (match wT (ty 0) with|none=>none|some _=>match ty 1 with|none=>none|some b=>match vO (.mk 3 0 [aI t.ks 0,b]) with|none=>none|some o=>if (rec_ o).isSome=true then some o else none)
 else if t.k=5 then (match fmS (ty 0) 3 with|none=>none|some s=>if jC (ty 1) (aI s.ks 0)=true then eI 0 (aI t.ks 1) (aI s.ks 1) else none)
 else if t.k=9 then (if wK (ty 0) aCk=true∧aBx (ty 1) (vO (aKc (aI t.ks 0) (.mk 7 0 [])))=true∧aBx (ty 2) (aVg (aI t.ks 0))=true∧jC (ty 3) aCk=true then vO (aKc (aI t.ks 0) (aI t.ks 3)) else none)
 else if t.k=10 then (match wT (ty 0) with|none=>none|some i=>if jC (ty 1) (aI t.ks 0)=true∧jC (ty 2) (aI t.ks 0)=true then some (.mk 2 i []) else none)
 else if t.k=11 then (match ty 0 with|none=>none|some s=>if (wT (rec_ s)).isSome=true then vO (.mk 10 0 [s,aI t.ks 0,aI t.ks 0]) else none)
 else if t.k=12 then (match fmS (ty 1) 10 with|none=>none|some e=>if wK (ty 0) (aI e.ks 0)=true∧aBx (ty 2) (vO (aKc (aI t.ks 0) (aI e.ks 1)))=true then vO (aKc (aI t.ks 0) (aI e.ks 2)) else none)
 else if t.k=13 then (match wT (ty 0) with|none=>none|some i=>match wT (ty 1) with|none=>none|some j=>some (.mk 2 (if i<j then j else i) []))
 else if t.k=14 then (match wT (ty 0) with|none=>none|some _=>match oD (aI t.ks 0) 13 with|none=>none|some s=>if jC (ty 1) (aI s.ks 0)=true∧aBx (ty 2) (eI 0 (aI t.ks 1) (aI s.ks 1))=true then some (aI t.ks 0) else none)
 else if t.k=15 then (match fmS (ty 0) 13 with|none=>none|some s=>some (aI s.ks 0))
 else if t.k=16 then (match fmS (ty 0) 13 with|none=>none|some s=>eI 0 (.mk 15 0 [aI t.ks 0]) (aI s.ks 1))
 else none
def tyS (rec_:List Tm→Tm→Option Tm)(ctx:List Tm)(t:Tm)(i:Nat):Option Tm:=
 if aR t.k i=0 then rec_ ctx (aI t.ks i) else if 20≤ctx.length then none else rec_ (ctx++[aI t.ks 0]) (aI t.ks i)
def oS:Nat→List Tm→Tm→Option Tm
 | 0,_,_=>none
 | N+1,ctx,t=>aKm (oS N ctx) ctx t (tyS (oS N) ctx t)
abbrev Prs:=List Tm × List Tm
def aXa (x y:Tm):List Tm→List Tm→Option Nat
 | l::ls,r::rs=>if (iX l x && iX r y)=true then some 0 else (aXa x y ls rs).map (·+1)
 | _,_=>none
def aMr (H:Nat→Tm)(d:Int)(t u:Tm)(st:Prs):Option (Tm × Prs):=
 match cG (-d) 0 t,cG (-d) 0 u with
 | some x,some y=>(match aXa x y st.1 st.2 with|some i=>some (H i,st)|none=>some (H st.1.length,(st.1++[x],st.2++[y])))
 | _,_=>none
mutual
def cm (H:Nat→Tm):Int→Tm→Tm→Prs→Option (Tm × Prs)
 | d,.mk k n ks,u,st=>
  if u.k=k∧u.n=n∧u.kids.length=ks.length then
   (match cmL H k d 0 ks u.kids st with
    | some (os,st')=>some (.mk k n os,st')
    | none=>aMr H d (.mk k n ks) u st)
  else aMr H d (.mk k n ks) u st
def cmL (H:Nat→Tm):Int→Int→Nat→List Tm→List Tm→Prs→Option (List Tm × Prs)
 | k,d,i,t::ts,u::us,st=>
  (match cm H (d + aR k i) t u st with
   | none=>none
   | some (o,st')=>(match cmL H k d (i+1) ts us st' with|none=>none|some (os,st2)=>some (o::os,st2)))
 | _,_,_,_,_,st=>some ([],st)
end
def PrsOk (m:Nat)(st:Prs):Prop:=st.1.length=st.2.length∧st.1.length≤m∧(∀x,x∈st.1→x.size≤400)∧(∀x,x∈st.2→x.size≤400)
theorem PrsOk.mono {m m':Nat}{st:Prs}(h:PrsOk m st)(hm:m≤m'):PrsOk m' st:=⟨h.1,Nat.le_trans h.2.1 hm,h.2.2⟩
def nbd:Tm→Bool
 | .mk _ n ks=>decide (0≤n) && decide (n≤1000000) && nbds ks
where nbds:List Tm→Bool|[]=>true|t::ts=>nbd t && nbds ts
end Go.Proofs.YtajjhldcjikkpaaGreat
