/- Parts of the proof. No condition. -/
import Derived.Test.YtjlaenhcemacdaaGreatK26
import Derived.ProofKit
import Derived.OpenShut
import Derived.JoinedCond
import Derived.Deep.Slices
import Derived.Deep.Fields
import Derived.ChangeSame
import Derived.Below
import Derived.Carry
import Derived.Lib.SmallJoins
open Go.Proofs.Tryz
namespace Go.Proofs.YtjlaenhcemacdaaGreat
open Go.RowKit
set_option maxHeartbeats 8000000
set_option maxRecDepth 100000
set_option linter.unusedSimpArgs false
set_option linter.unusedVariables false
theorem zZ {ctx:List Tm}{j:Nat}(hj:j<ctx.length):ctx.getD (ctx.length - 1 - j) default=ctx[ctx.length - 1 - j]'(by omega):=by
 rw [List.getD_eq_getElem?_getD,qR (by omega)];rfl
theorem zX (ctx:List Tm)(C:Option Addr)(cc j:Nat)(w:World)(hm:ctx.length≤8)(hj:j<ctx.length)(hvc:∀u,u∈ctx→aE u=true)(hrc:Rd w C 0 ctx) :
  Calls prog 32 #[.slice C ctx.length cc,.int .i64 j] w (oM w (bD ((j:Int)+1) 0 (ctx.getD (ctx.length - 1 - j) default))):=by
 have hlt:ctx.length - 1 - j<ctx.length:=by omega
 rw [zZ hj];obtain ⟨b,off,k1,n1,ks1,A1,c1,rfl,hkj,hc1,hc2,hc3,hl1,hr1⟩:=hrc.at_ hlt;have hv1:=hvc _ (iC hlt);rw [hkj] at hv1⊢;have hz1:=aH hv1;have hS:=aD (fun (w:World) (hr:Rd w A1 0 ks1)=>fK k1 n1 ks1 A1 c1 ((j:Int)+1) 0 w (by omega) (by omega) (by omega) (aZ hv1) hr);have e1:((ctx.length:Int) - 1 - (j:Int))=((ctx.length - 1 - j:Nat):Int):=by omega
 generalize hi:ctx.length - 1 - j=i at *
 have hbl:=mI _ _ hc1;cases hsh:bD ((j:Int)+1) 0 (.mk k1 n1 ks1) with
 | none=>
  rw [hsh] at hS;clear hkj hv1 hvc;go_enter func32,ntmps32;go_wp2_with (go_at_call 50;refine (hS.out _ (hr1.alloc _)).mono ?_;intro e w1 hgo;obtain ⟨rfl,hb1⟩:=eH hgo;clear hgo;have hZ:Blk w1 w.heap.size Zr:=(aC _ 32 _ (by simp)).keep hb1;have g1:Bw w w1:=bU bw1 hb1;obtain ⟨d0,d1,d2,f0,f1,f2⟩:=bW hZ)
  refine bodyPost_ret (v:=.tuple #[.agg Zr,.bool false]) (by simp [results,results32,go_sem,d0,d1,d2]) rfl ⟨rfl,?_⟩;exact bP g1
 | some t=>
  obtain ⟨k3,n3,s3⟩:=t;rw [hsh] at hS;clear hkj hv1 hvc;go_enter func32,ntmps32;go_wp2_with (go_at_call 50;refine (hS.out _ (hr1.alloc _)).mono ?_;intro e w1 hgo;obtain ⟨A3,c3,rfl,hl3,hf3,hb1⟩:=cS hgo;clear hgo;have hZ:Blk w1 w.heap.size Zr:=(aC _ 32 _ (by simp)).keep hb1;have g1:Bw w w1:=bU bw1 hb1;obtain ⟨d0,d1,d2,f0,f1,f2⟩:=bW hZ)
  refine bodyPost_ret (v:=.tuple #[.agg (Ro k3 n3 A3 s3.length c3),.bool true]) (by simp [results,results32,go_sem,d0,d1,d2]) rfl ⟨A3,c3,rfl,hl3,?_,?_⟩
  ·exact (tT hf3).mono (by simp)
  ·exact bP g1
theorem rD {N:Nat}{ctx:List Tm}{t s:Tm}(h:bH N ctx t=some (.ok s)):∃M,N=M+1∧aE t=true∧dQ (bH M) ctx t=some (.ok s)∧aE s=true:=by
 have hv:=cY h;cases N with
 | zero=>cases h
 | succ M=>
  rw [bH] at h;split at h
  ·rename_i hh
   obtain ⟨o,ho,hs⟩:=dE h;unfold fL at hs
   split at hs
   ·have:=bR hs;subst this;exact ⟨M,rfl,hh.1,ho,hv⟩
   ·injection hs with hs;cases hs
  ·injection h with h;cases h
theorem lam_inv {N:Nat}{ctx:List Tm}{a b u:Tm}(h:bH N ctx (.mk 4 0 [a,b])=some (.ok u)):∃M v,bH M (ctx++[a]) b=some (.ok v)∧u = .mk 3 0 [a,v]:=by
 obtain ⟨M,rfl,_,hk,_⟩:=rD h;rw [dQ,if_neg (by decide),if_pos rfl] at hk;obtain ⟨_,_,hk⟩:=dE hk;obtain ⟨v,hv,hk⟩:=dE hk;obtain ⟨_,_,hk⟩:=dE hk;have:=bR hk;exact ⟨M,v,hv,this.symm⟩
/-! the inference ends -/
theorem aMv {ctx:List Tm}{t:Tm}(h:aE t=false):Ends ctx t:=⟨1,.no false,by rw [bH,if_neg (by rw [h];rintro ⟨h,-⟩;cases h)]⟩
theorem jP (ctx:List Tm):Ends ctx default:=aMv (by decide)
theorem gL {s:Nat→Tm}{k0 n0 k n:Int}{ks0 ks:List Tm}(hk:k0≠1)(h:ins s (.mk k0 n0 ks0) = .mk k n ks):k0=k∧n0=n∧eD s k0 0 ks0=ks:=by
 rw [dH hk] at h;injection h with h1 h2 h3;exact ⟨h1,h2,h3⟩
theorem zS {s:Nat→Tm}{k:Int}{ks:List Tm}{x y:Tm}(h:eD s k 0 ks=[x,y]):∃x0 y0,ks=[x0,y0]∧x=ins s x0∧y=ins (if aM k 1=0 then s else lft s) y0:=by
 have hl:=eG s k ks 0;rw [h] at hl;obtain ⟨x0,y0,rfl⟩:=jY hl.symm;simp only [eD] at h
 injection h with h1 h2;injection h2 with h2 _;refine ⟨x0,y0,rfl,?_,h2.symm⟩;rw [← h1,if_pos (by unfold aM;rw [if_neg (by rintro ⟨h,-⟩;cases h)])]
theorem uD {s:Nat→Tm}{k:Int}(hb:binds k=false){ks l:List Tm}(h:eD s k 0 ks=l):l=ks.map (ins s):=by rw [← h,iN hb]
theorem aAr {s:Nat→Tm}{k:Int}{ks:List Tm}{x:Tm}(h:eD s k 0 ks=[x]):∃x0,ks=[x0]∧x=ins s x0:=by
 have hl:=eG s k ks 0;rw [h] at hl;obtain ⟨x0,rfl⟩:=lH hl.symm;simp only [eD] at h
 injection h with h1 _;refine ⟨x0,rfl,?_⟩;rw [← h1,if_pos (by unfold aM;rw [if_neg (by rintro ⟨h,-⟩;cases h)])]
def RealT (q s p:Nat→Tm):Prop:=∀n u,ST q (s n) u→u=p n
theorem RealT.lft {q s p:Nat→Tm}(h:RealT q s p)(A:Tm):RealT (lfa A q) (lft s) (lfa A p):=fun n u hu=>by
 cases n with
 | zero=>
  cases hu with
  | var _=>rfl
 | succ n=>
  obtain ⟨u0,rfl,h1⟩:=hu.unsh (b:=1) (c:=0) (t:=s n) (p:=q) (by decide) rfl fun m=>by rw [if_pos (Nat.zero_le _)];rfl
  rw [h n u0 h1];rfl
theorem wf2 {k n:Int}{a b:Tm}(h:cV (.mk k n [a,b])=true):cV a=true∧cV b=true:=⟨cN h 0,cN h 1⟩
theorem ST.an {q:Nat→Tm}{t' r:Tm}(h:ST q t' r):∀{t:Tm} {s p:Nat→Tm},cV t=true→ins s t=t'→RealT q s p→An s p t r:=by
 have hv:∀{q:Nat→Tm} {t' r t:Tm} {s p:Nat→Tm},t.k=1→ST q t' r→ins s t=t'→RealT q s p→An s p t r:=fun {q t' r t s p} hk hs he hR=>by
  obtain ⟨k,n,ks⟩:=t;have hk1:k=1:=hk;subst hk1;rw [eE] at he;subst he;rw [hR _ _ hs];exact .var
 induction h with
 | @var q n ks h0=>
  intro t s p hw he hR;by_cases hk:t.k=1
  ·exact hv hk (.var h0) he hR
  ·obtain ⟨k0,n0,ks0⟩:=t;obtain ⟨rfl,-,-⟩:=gL hk he;exact absurd rfl hk
 | @srt q n ks=>
  intro t s p hw he hR;by_cases hk:t.k=1
  ·exact hv hk .srt he hR
  ·obtain ⟨k0,n0,ks0⟩:=t;obtain ⟨rfl,rfl,-⟩:=gL hk he;exact .srt
 | @nat q n ks=>
  intro t s p hw he hR;by_cases hk:t.k=1
  ·exact hv hk .nat he hR
  ·obtain ⟨k0,n0,ks0⟩:=t;obtain ⟨rfl,rfl,-⟩:=gL hk he;exact .nat
 | @zer q n ks=>
  intro t s p hw he hR;by_cases hk:t.k=1
  ·exact hv hk .zer he hR
  ·obtain ⟨k0,n0,ks0⟩:=t;obtain ⟨rfl,rfl,-⟩:=gL hk he;exact .zer
 | @suc q n ks=>
  intro t s p hw he hR;by_cases hk:t.k=1
  ·exact hv hk .suc he hR
  ·obtain ⟨k0,n0,ks0⟩:=t;obtain ⟨rfl,rfl,-⟩:=gL hk he;exact .suc
 | @bnd q k n i j A B a b ka kb hk3 h1 hs1 h2 hs2 i1 i2=>
  intro t s p hw he hR;by_cases hk:t.k=1
  ·exact hv hk (.bnd hk3 h1 hs1 h2 hs2) he hR
  ·obtain ⟨k0,n0,ks0⟩:=t;obtain ⟨hk0,rfl,hl⟩:=gL hk he;subst hk0;obtain ⟨A0,B0,rfl,rfl,rfl⟩:=zS hl;have hu:¬aM k0 1=0:=by rcases hk3 with rfl|rfl<;>decide
   exact .bnd hk3 (i1 (wf2 hw).1 rfl hR) hs1 (i2 (wf2 hw).2 (if_neg hu▸rfl) (hR.lft _)) hs2
 | @lam q n A b u h1 i1=>
  intro t s p hw he hR;by_cases hk:t.k=1
  ·exact hv hk (.lam h1) he hR
  ·obtain ⟨k0,n0,ks0⟩:=t;obtain ⟨rfl,rfl,hl⟩:=gL hk he;obtain ⟨A0,B0,rfl,rfl,rfl⟩:=zS hl;exact .lam (i1 (wf2 hw).2 rfl (hR.lft _))
 | @app q n m f u r A B h1 hs1 i1=>
  intro t s p hw he hR;by_cases hk:t.k=1
  ·exact hv hk (.app h1 hs1) he hR
  ·obtain ⟨k0,n0,ks0⟩:=t;obtain ⟨rfl,rfl,hl⟩:=gL hk he;obtain ⟨f0,u0,rfl,rfl,rfl⟩:=zS hl;exact .app (i1 (wf2 hw).1 rfl hR) hs1
 | @elm q n P z x m=>
  intro t s p hw he hR;by_cases hk:t.k=1
  ·exact hv hk .elm he hR
  ·obtain ⟨k0,n0,ks0⟩:=t;obtain ⟨hk0,rfl,hl⟩:=gL hk he;subst hk0;have hl2:=uD (by rfl) hl;have hlen:ks0.length=4:=by have:=congrArg List.length hl2;simpa using this.symm
   obtain ⟨P0,z0,q0,m0,rfl⟩:=uT hlen;simp only [List.map_cons,List.map_nil] at hl2
   injection hl2 with e1 e2;injection e2 with e2 e3;injection e3 with e3 e4;injection e4 with e4 _;subst e1 e2 e3 e4;exact .elm
 | @idt q n i A a x y ka h1 hs1 i1=>
  intro t s p hw he hR;by_cases hk:t.k=1
  ·exact hv hk (.idt h1 hs1) he hR
  ·obtain ⟨k0,n0,ks0⟩:=t;obtain ⟨hk0,rfl,hl⟩:=gL hk he;subst hk0;have hl2:=uD (by rfl) hl;have hlen:ks0.length=3:=by have:=congrArg List.length hl2;simpa using this.symm
   obtain ⟨A0,x0,y0,rfl⟩:=gG hlen;simp only [List.map_cons,List.map_nil] at hl2
   injection hl2 with e1 e2;subst e1;exact .idt (i1 (cN hw 0) rfl hR) hs1
 | @rfx q n b r h1 i1=>
  intro t s p hw he hR;by_cases hk:t.k=1
  ·exact hv hk (.rfx h1) he hR
  ·obtain ⟨k0,n0,ks0⟩:=t;obtain ⟨rfl,rfl,hl⟩:=gL hk he;obtain ⟨b0,rfl,rfl⟩:=aAr hl;exact .rfx (i1 (cN hw 0) rfl hR)
 | @mov q n m P e y r A x x' h1 hs1 i1=>
  intro t s p hw he hR;by_cases hk:t.k=1
  ·exact hv hk (.mov h1 hs1) he hR
  ·obtain ⟨k0,n0,ks0⟩:=t;obtain ⟨hk0,rfl,hl⟩:=gL hk he;subst hk0;have hl2:=uD (by rfl) hl;have hlen:ks0.length=3:=by have:=congrArg List.length hl2;simpa using this.symm
   obtain ⟨A0,x0,y0,rfl⟩:=gG hlen;simp only [List.map_cons,List.map_nil] at hl2
   injection hl2 with e1 e2;injection e2 with e2 e3;subst e1 e2;exact .mov (i1 (cN hw 1) rfl hR) hs1
 | @pai q n S a b=>
  intro t s p hw he hR;by_cases hk:t.k=1
  ·exact hv hk .pai he hR
  ·obtain ⟨k0,n0,ks0⟩:=t;obtain ⟨hk0,rfl,hl⟩:=gL hk he;subst hk0;have hl2:=uD (by rfl) hl;have hlen:ks0.length=3:=by have:=congrArg List.length hl2;simpa using this.symm
   obtain ⟨A0,x0,y0,rfl⟩:=gG hlen;simp only [List.map_cons,List.map_nil] at hl2
   injection hl2 with e1 e2;subst e1;exact .pai
 | @fst q n m x r A B h1 hs1 i1=>
  intro t s p hw he hR;by_cases hk:t.k=1
  ·exact hv hk (.fst h1 hs1) he hR
  ·obtain ⟨k0,n0,ks0⟩:=t;obtain ⟨rfl,rfl,hl⟩:=gL hk he;obtain ⟨b0,rfl,rfl⟩:=aAr hl;exact .fst (i1 (cN hw 0) rfl hR) hs1
 | @snd q n m x r A B h1 hs1 i1=>
  intro t s p hw he hR;by_cases hk:t.k=1
  ·exact hv hk (.snd h1 hs1) he hR
  ·obtain ⟨k0,n0,ks0⟩:=t;obtain ⟨rfl,rfl,hl⟩:=gL hk he;obtain ⟨b0,rfl,rfl⟩:=aAr hl;exact .snd (i1 (cN hw 0) rfl hR) hs1
structure Opn (f:Nat→Tm→Tm):Prop where
 v0:∀e,f (e+1) (.mk 1 0 []) = .mk 1 0 []
 s1:∀e t,f (e+1) (bT 1 0 t)=bT 1 0 (f e t)
 ins:∀e t s,cV t=true→f e (Go.Proofs.YtjlaenhcemacdaaGreat.ins s t)=Go.Proofs.YtjlaenhcemacdaaGreat.ins (fun n=>f e (s n)) t
 sb:∀e u B,f e (bX u 0 0 B)=bX (f e u) 0 0 (f (e+1) B)
 hs:∀e t u,cD t=some u→cD (f e t)=some (f e u)
 nb:∀e k n ks,k≠1→binds k=false→f e (.mk k n ks) = .mk k n (ks.map (f e))
 bn:∀e k n a b,k=3∨k=4∨k=13→f e (.mk k n [a,b]) = .mk k n [f e a,f (e+1) b]
theorem Opn.hss {f:Nat→Tm→Tm}(h:Opn f)(e:Nat){t u:Tm}(hs:Hs t u):Hs (f e t) (f e u):=by
 induction hs with
 | refl t=>exact .refl _
 | step h1 _ ih=>exact .step (h.hs e _ _ h1) ih
theorem Opn.lft {f:Nat→Tm→Tm}(h:Opn f)(e:Nat)(s:Nat→Tm):(fun n=>f (e+1) (Go.Proofs.YtjlaenhcemacdaaGreat.lft s n))=Go.Proofs.YtjlaenhcemacdaaGreat.lft (fun n=>f e (s n)):=by
 funext n
 cases n with
 | zero=>exact h.v0 e
 | succ n=>exact h.s1 e _
theorem Opn.lfa {f:Nat→Tm→Tm}(h:Opn f)(e:Nat)(A:Tm)(p:Nat→Tm):(fun n=>f (e+1) (Go.Proofs.YtjlaenhcemacdaaGreat.lfa A p n))=Go.Proofs.YtjlaenhcemacdaaGreat.lfa (f e A) (fun n=>f e (p n)):=by
 funext n
 cases n with
 | zero=>exact h.s1 e _
 | succ n=>exact h.s1 e _
theorem An.op {f:Nat→Tm→Tm}(hf:Opn f){s p:Nat→Tm}{t r:Tm}(h:An s p t r):∀(e:Nat),cV t=true→An (fun n=>f e (s n)) (fun n=>f e (p n)) t (f e r):=by
 induction h with
 | var=>exact fun e _=>.var
 | @srt s p n ks=>intro e _;rw [hf.nb e 2 _ _ (by decide) (by decide)];exact .srt
 | @nat s p n ks=>intro e _;rw [hf.nb e 2 _ _ (by decide) (by decide)];exact .nat
 | @zer s p n ks=>intro e _;rw [hf.nb e 6 _ _ (by decide) (by decide)];exact .zer
 | @suc s p n ks=>intro e _;rw [hf.nb e 6 _ _ (by decide) (by decide)];exact .suc
 | @bnd s p k n i j A B a b ka kb hk h1 hs1 h2 hs2 i1 i2=>
  intro e hw;rw [hf.nb e 2 _ _ (by decide) (by decide)];have h3:=i1 e (wf2 hw).1;have h4:=i2 (e+1) (wf2 hw).2;rw [hf.lft,hf.lfa,hf.ins e A s (wf2 hw).1] at h4;have h5:=hf.hss e hs1;have h6:=hf.hss (e+1) hs2;rw [hf.nb e 2 _ _ (by decide) (by decide)] at h5;rw [hf.nb (e+1) 2 _ _ (by decide) (by decide)] at h6;exact .bnd hk h3 h5 h4 h6
 | @lam s p n A b u h1 i1=>
  intro e hw;rw [hf.bn e 3 _ _ _ (.inl rfl),hf.ins e A s (wf2 hw).1];have h4:=i1 (e+1) (wf2 hw).2;rw [hf.lft,hf.lfa,hf.ins e A s (wf2 hw).1] at h4;exact .lam h4
 | @app s p n m x u r A B h1 hs1 i1=>
  intro e hw;rw [hf.sb,hf.ins e u s (wf2 hw).2];have h5:=hf.hss e hs1;rw [hf.bn e 3 _ _ _ (.inl rfl)] at h5;exact .app (i1 e (wf2 hw).1) h5
 | @elm s p n P z q m=>
  intro e hw;rw [dZ,hf.nb e 5 _ _ (by decide) (by decide),List.map_cons,List.map_cons,List.map_nil,hf.ins e P s (cN hw 0),hf.ins e m s (cN hw 3)];exact .elm
 | @idt s p n i A a x y ka h1 hs1 i1=>
  intro e hw;rw [hf.nb e 2 _ _ (by decide) (by decide)];have h5:=hf.hss e hs1;rw [hf.nb e 2 _ _ (by decide) (by decide)] at h5;exact .idt (i1 e (cN hw 0)) h5
 | @rfx s p n b r h1 i1=>
  intro e hw;rw [hf.nb e 10 _ _ (by decide) (by decide),List.map_cons,List.map_cons,List.map_cons,List.map_nil,hf.ins e b s (cN hw 0)];exact .rfx (i1 e (cN hw 0))
 | @mov s p n m P x y r A z z' h1 hs1 i1=>
  intro e hw;rw [dZ,hf.nb e 5 _ _ (by decide) (by decide),List.map_cons,List.map_cons,List.map_nil,hf.ins e P s (cN hw 0)];have h5:=hf.hss e hs1;rw [hf.nb e 10 _ _ (by decide) (by decide)] at h5;exact .mov (i1 e (cN hw 1)) h5
 | @pai s p n S a b=>
  intro e hw;rw [hf.ins e S s (cN hw 0)];exact .pai
 | @fst s p n m q r A B h1 hs1 i1=>
  intro e hw;have h5:=hf.hss e hs1;rw [hf.bn e 13 _ _ _ (.inr (.inr rfl))] at h5;exact .fst (i1 e (cN hw 0)) h5
 | @snd s p n m q r A B h1 hs1 i1=>
  intro e hw;have h5:=hf.hss e hs1;rw [hf.bn e 13 _ _ _ (.inr (.inr rfl))] at h5;rw [hf.sb,hf.nb e 15 _ _ (by decide) (by decide),List.map_cons,List.map_nil,hf.ins e q s (cN hw 0)];exact .snd (i1 e (cN hw 0)) h5
theorem aKq {b c k:Int}(hb:binds k=false)(ks:List Tm):bN b k c 0 ks=ks.map (bT b c):=jZ hb ks 0
theorem uK {u:Tm}{x d k:Int}(hb:binds k=false):∀(ts:List Tm) (i:Nat),cE u k x d i ts=ts.map (bX u x d)
 | [],i=>rfl
 | t::ts,i=>by rw [cE,List.map_cons,uK hb ts (i+1),show aM k (i:Int)=0 by unfold aM;rw [if_neg (by rw [hb];rintro ⟨-,h⟩;cases h)],Int.add_zero,Int.add_zero]
theorem rG {k:Int}(h:k=3∨k=4∨k=13):aM k ((0:Nat):Int)=0∧aM k ((0+1:Nat):Int)=1:=by rcases h with rfl|rfl|rfl<;>exact ⟨rfl,rfl⟩
theorem aDr {b c:Int}(hb:0≤b)(hc:0≤c):Opn fun e=>bT b (c+(e:Int)) where
 v0 e:=by rw [nO (by omega),bN]
 s1 e t:=by
  have:=(aFk 1 b (by decide) hb).1 t 0 (c+e) (by omega);show bT b (c+((e+1:Nat):Int)) _=_
  rw [show c+((e+1:Nat):Int)=c+e+1 by omega];exact this
 ins e t s hw:=(aFa b hb).1 t s _ hw (by omega)
 sb e u B:=by
  have:=(aDj u b (c+e) hb (by omega)).1 B 0 (by decide);rw [Int.add_zero,Int.add_zero] at this;rw [this];congr 2;omega
 hs e t u h:=by rw [aEq hb _ _ (by omega),h];rfl
 nb e k n ks h1 h2:=by rw [eJ h1,aKq h2]
 bn e k n a x h:=by
  rw [eJ (by omega)];simp only [bN]
  rw [(rG h).1,(rG h).2,Int.add_zero,show c+(e:Int)+1=c+((e+1:Nat):Int) by omega]
theorem aRo {v:Tm}:∀(t u:Tm) (x d:Int),0≤d→d≤x→cD t=some u→cD (bX v x d t)=some (bX v x d u):=by
 refine jM fun k n ks ih u x d hd hx h=>?_
 by_cases h0:rdx k ks=0
 ·have hk5:k=5∨k=9∨k=12∨k=15∨k=16:=kK h;have hk1:k≠1:=by omega
  have hm:¬bC k<0:=by rcases hk5 with rfl|rfl|rfl|rfl|rfl<;>decide
  by_cases hj:(bC k).toNat<ks.length
  ·rw [iE hm h0 hj] at h;cases hv:cD (aI ks (bC k).toNat) with
   | none=>rw [hv] at h;cases h
   | some w=>
    rw [hv] at h;obtain rfl:=Option.some.inj h;have h5:=kK hv;have hb:=nG hm;have hr0:rdx k (cE v k x d 0 ks)=0:=rL (by rw [kZ,jS hb,aTo (by omega)];exact h5);have hv2:=ih _ (gF hj) w x d hd hx hv;rw [lS hk1,iE hm hr0 (by rw [dK];exact hj),jS hb,hv2,lS hk1,uK hb,uK hb,kE];rfl
  ·rw [cD,if_pos h0,if_neg hm,(eK ks _ (by omega)).2] at h;cases h
 ·rw [fN h0] at h;obtain rfl:=Option.some.inj h;have hk1:k≠1:=by have:=tP h0;omega
  rw [aLb hd hx h0,lS hk1,fN (by rw [aEp h0];exact h0)]
theorem aLw (v:Tm){x d:Int}(hd:0≤d)(hx:d≤x):Opn fun e=>bX v (x+(e:Int)) (d+(e:Int)) where
 v0 e:=by rw [gJ (by omega),cE]
 s1 e t:=by
  have:=(aEi v 1 (by decide)).1 t 0 (d+e) (x+e) (by omega) (by omega) (by omega);rw [← this];congr 1<;>omega
 ins e t s hw:=(aKg v).1 t s _ _ hw (by omega) (by omega)
 sb e u B:=by
  have:=(aPt u v (x+e) (d+e) (by omega) (by omega)).1 B 0 (by decide);rw [Int.add_zero,Int.add_zero,Int.add_zero,Int.add_zero] at this;rw [this];congr 2<;>omega
 hs e t u h:=aRo t u _ _ (by omega) (by omega) h
 nb e k n ks h1 h2:=by rw [lS h1,uK h2]
 bn e k n a y h:=by
  rw [lS (by omega)];simp only [cE]
  rw [(rG h).1,(rG h).2,Int.add_zero,Int.add_zero,show x+(e:Int)+1=x+((e+1:Nat):Int) by omega,show d+(e:Int)+1=d+((e+1:Nat):Int) by omega]
theorem An.sub {s p:Nat→Tm}{A b u:Tm}(h:An (lft s) (lfa A p) b u)(hw:cV b=true)(v:Tm):An (sC v s) (sC A p) b (bX v 0 0 u):=by
 have h1:=An.op (aLw v (x:=0) (d:=0) (by decide) (by decide)) h 0 hw;have e1:(fun n=>bX v (0+((0:Nat):Int)) (0+((0:Nat):Int)) (lft s n))=sC v s:=by
  funext n
  show bX v 0 0 (lft s n)=_
  cases n with
  | zero=>rw [lft,vB rfl,sC,tL]
  | succ n=>
   rw [lft,sC];have:=(uN v 0 (by decide)).1 (s n) 0 0 0 (by decide) (by decide);rw [Int.zero_add] at this;rw [this,tL]
 have e2:(fun n=>bX v (0+((0:Nat):Int)) (0+((0:Nat):Int)) (lfa A p n))=sC A p:=by
  funext n
  show bX v 0 0 (lfa A p n)=_
  have hx:∀t:Tm,bX v 0 0 (bT 1 0 t)=t:=fun t=>by
   have:=(uN v 0 (by decide)).1 t 0 0 0 (by decide) (by decide);rw [Int.zero_add] at this;rw [this,tL]
  cases n with
  | zero=>exact hx A
  | succ n=>exact hx (p n)
 rw [e1,e2] at h1;exact h1
theorem An.shb {s p:Nat→Tm}{A b u:Tm}(h:An (lft s) (lfa A p) b u)(hw:cV b=true){m:Int}(hm:0≤m):An (lft fun n=>bT m 0 (s n)) (lfa (bT m 0 A) fun n=>bT m 0 (p n)) b (bT m 1 u):=by
 have hf:=aDr (b:=m) (c:=0) hm (by decide);have h1:=An.op hf h 1 hw;have e1:=hf.lft 0 s;have e2:=hf.lfa 0 A p;simp only [Int.zero_add,Int.natCast_zero] at e1 e2 h1
 rw [e1,e2] at h1;exact h1
def nR (G:List Tm)(n:Nat):Tm:=if n<G.length then bT ((n:Int)+1) 0 (G.getD (G.length - 1 - n) default) else default
theorem aGe (b c:Int):bT b c default=default:=by
 show bT b c (.mk 0 0 [])=_
 rw [eJ (by decide),bN];rfl
theorem mE (G:List Tm)(A:Tm):nR (G++[A])=lfa A (nR G):=by
 funext n
 cases n with
 | zero=>
  rw [nR,if_pos (by simp),lfa,show ((0:Nat):Int)+1=1 from rfl];congr 1
  simp [List.getD]
 | succ n=>
  rw [lfa,nR,nR];by_cases h:n<G.length
  ·rw [if_pos h,if_pos (by simp;omega),(lW 1 ((n:Int)+1) (by omega)).1 _ 0 0 (by decide) (by omega)];have h3:(G++[A]).getD ((G++[A]).length - 1 - (n+1)) default=G.getD (G.length - 1 - n) default:=by
    have h4:(G++[A]).length - 1 - (n+1)=G.length - 1 - n:=by simp;omega
    rw [h4,List.getD_eq_getElem?_getD,List.getD_eq_getElem?_getD,List.getElem?_append_left (by omega)]
   rw [h3];congr 1
   simp;omega
  ·rw [if_neg h,if_neg (by simp;omega),aGe]
theorem lO {s h:Tm}(hh:lD s = .ok h):Hs s h:=(aPl _ _ _ _ (aJv hh)).1
theorem rK {N:Nat}{G:List Tm}{t:Tm}{l:Int}(h:jA (bH N) G t=some (.ok l)):∃a ka,bH N G t=some (.ok a)∧Hs a (.mk 2 l ka)∧lD a = .ok (.mk 2 l ka):=by
 rcases aL h with ⟨_,_,hr⟩|⟨a,h1,h2⟩
 ·cases hr
 ·rcases aL h2 with ⟨_,_,hr⟩|⟨o,h3,h4⟩
  ·cases hr
  ·have h5:=Option.some.inj h3;unfold vE at h4
   split at h4
   ·rename_i hk
    obtain rfl:=bR h4;obtain ⟨k,n,ks⟩:=o;have hk:k=2:=hk;subst hk;exact ⟨a,ks,h1,lO h5,h5⟩
   ·cases h4
theorem fC {k n:Int}{ks:List Tm}(hv:aE (.mk k n ks)=true){m:Nat}(h:aU k=(m:Int)):ks.length=m:=by have:=fA hv;omega
theorem bM {α β:Type}{o:Option (Rs α)}{f:α→Option (Rs β)}{b:β}(h:bd o f=some (.ok b)):∃a,o=some (.ok a)∧f a=some (.ok b):=by
 rcases aL h with ⟨_,_,hr⟩|h
 ·cases hr
 ·exact h
theorem mO {N:Nat}{G:List Tm}{t h:Tm}{kd:Int}(hh:wY (bH N) G t kd=some (.ok h)):∃s,bH N G t=some (.ok s)∧lD s = .ok h∧h.k=kd:=by
 obtain ⟨s,h1,h2⟩:=bM hh;obtain ⟨o,h3,h4⟩:=bM h2;have h5:=Option.some.inj h3;unfold kN at h4
 split at h4
 ·obtain rfl:=bR h4;exact ⟨s,h1,h5,by assumption⟩
 ·cases h4
theorem sZ {r h:Tm}{k:Int}(hh:lD r = .ok h)(hk:h.k=k)(ha:aU k=2):∃m,h = .mk k m [aI h.ks 0,aI h.ks 1]:=by
 obtain ⟨k',m,ks⟩:=h;have hk:k'=k:=hk;subst hk;have hv:=(dC hh).2.1;obtain ⟨a,b,rfl⟩:=jY (fC hv (m:=2) ha);exact ⟨m,rfl⟩
theorem aCl {r h:Tm}{k:Int}(hh:lD r = .ok h)(hk:h.k=k)(ha:aU k=3):∃m,h = .mk k m [aI h.ks 0,aI h.ks 1,aI h.ks 2]:=by
 obtain ⟨k',m,ks⟩:=h;have hk:k'=k:=hk;subst hk;have hv:=(dC hh).2.1;obtain ⟨a,b,c,rfl⟩:=gG (fC hv (m:=3) ha);exact ⟨m,rfl⟩
theorem aAw:∀(N:Nat) (G:List Tm) (t s:Tm),bH N G t=some (.ok s)→ST (nR G) t s
 | 0,G,t,s,h=>by cases h
 | N+1,G,.mk k n ks,s,h=>by
  obtain ⟨M,hM,hv,hk,hvs⟩:=rD h;obtain rfl:N=M:=Nat.succ.inj hM;have ih:=aAw N;have h0:0≤n:=(bG hv).2.1;rw [dQ] at hk;by_cases h3:k=3∨k=13
  ·rw [if_pos h3] at hk;obtain ⟨a,b,rfl⟩:=jY (fC hv (m:=2) (by rcases h3 with rfl|rfl<;>rfl));obtain ⟨i,h1,hk⟩:=bM hk;obtain ⟨j,h2,hk⟩:=bM hk;obtain ⟨x,kx,h5,h6,_⟩:=rK h1;obtain ⟨y,ky,h7,h8,_⟩:=rK h2;obtain rfl:=bR hk;have h9:=ih _ _ _ h7;rw [mE] at h9;exact .bnd h3 (ih _ _ _ h5) h6 h9 h8
  rw [if_neg h3] at hk;by_cases h4:k=4
  ·rw [if_pos h4] at hk;subst h4;obtain ⟨a,b,rfl⟩:=jY (fC hv (m:=2) rfl);obtain ⟨i,h1,hk⟩:=bM hk;obtain ⟨u,h2,hk⟩:=bM hk;obtain ⟨_,_,hk⟩:=bM hk;obtain rfl:=bR hk;have h9:=ih _ _ _ h2;rw [show aI [a,b] 0=a from rfl,mE] at h9;exact .lam h9
  rw [if_neg h4] at hk;by_cases h5:k=5
  ·rw [if_pos h5] at hk;subst h5;obtain ⟨a,b,rfl⟩:=jY (fC hv (m:=2) rfl);obtain ⟨hd,h1,hk⟩:=bM hk;obtain ⟨_,_,hk⟩:=bM hk;obtain rfl:=bR hk;obtain ⟨r,h6,h7,h8⟩:=mO h1;obtain ⟨m,hm⟩:=sZ h7 h8 rfl;have:=lO h7;rw [hm] at this;exact .app (ih _ _ _ h6) this
  rw [if_neg h5] at hk;by_cases h9:k=9
  ·rw [if_pos h9] at hk;subst h9;obtain ⟨a,b,c,d,rfl⟩:=uT (fC hv (m:=4) rfl);obtain ⟨_,_,hk⟩:=bM hk;obtain ⟨_,_,hk⟩:=bM hk;obtain ⟨_,_,hk⟩:=bM hk;obtain ⟨_,_,hk⟩:=bM hk;obtain rfl:=bR hk;exact .elm
  rw [if_neg h9] at hk;by_cases h10:k=10
  ·rw [if_pos h10] at hk;subst h10;obtain ⟨a,b,c,rfl⟩:=gG (fC hv (m:=3) rfl);obtain ⟨i,h1,hk⟩:=bM hk;obtain ⟨_,_,hk⟩:=bM hk;obtain ⟨_,_,hk⟩:=bM hk;obtain rfl:=bR hk;obtain ⟨x,kx,h5,h6,_⟩:=rK h1;exact .idt (ih _ _ _ h5) h6
  rw [if_neg h10] at hk;by_cases h12:k=12
  ·rw [if_pos h12] at hk;subst h12;obtain ⟨a,b,c,rfl⟩:=gG (fC hv (m:=3) rfl);obtain ⟨hd,h1,hk⟩:=bM hk;obtain ⟨_,_,hk⟩:=bM hk;obtain ⟨_,_,hk⟩:=bM hk;obtain rfl:=bR hk;obtain ⟨r,h6,h7,h8⟩:=mO h1;obtain ⟨m,hm⟩:=aCl h7 h8 rfl;have:=lO h7;rw [hm] at this;exact .mov (ih _ _ _ h6) this
  rw [if_neg h12] at hk;by_cases h14:k=14
  ·rw [if_pos h14] at hk;subst h14;obtain ⟨a,b,c,rfl⟩:=gG (fC hv (m:=3) rfl);obtain ⟨_,_,hk⟩:=bM hk;obtain ⟨_,_,hk⟩:=bM hk;obtain ⟨_,_,hk⟩:=bM hk;obtain ⟨_,_,hk⟩:=bM hk;obtain ⟨_,_,hk⟩:=bM hk;obtain rfl:=bR hk;exact .pai
  rw [if_neg h14] at hk;by_cases h1:k=1
  ·rw [if_pos h1] at hk;subst h1;unfold aBu at hk
   split at hk
   ·cases hk
   ·rename_i hn
    obtain rfl:=bR hk;have:=ST.var (p:=nR G) (n:=n) (ks:=ks) h0;rw [nR,if_pos (by omega),Int.toNat_of_nonneg h0] at this;exact this
  rw [if_neg h1] at hk;by_cases h2:k=2
  ·rw [if_pos h2] at hk;subst h2;split at hk
   ·cases hk
   ·obtain rfl:=bR hk;exact .srt
  rw [if_neg h2] at hk;by_cases h6:k=6
  ·rw [if_pos h6] at hk;subst h6;obtain rfl:=bR hk;exact .nat
  rw [if_neg h6] at hk;by_cases h7:k=7
  ·rw [if_pos h7] at hk;subst h7;obtain rfl:=bR hk;exact .zer
  rw [if_neg h7] at hk;by_cases h8:k=8
  ·rw [if_pos h8] at hk;subst h8;obtain ⟨_,_,hk⟩:=bM hk;obtain rfl:=bR hk;exact .suc
  rw [if_neg h8] at hk;by_cases h11:k=11
  ·rw [if_pos h11] at hk;subst h11;obtain ⟨a,rfl⟩:=lH (fC hv (m:=1) rfl);obtain ⟨r,h1,hk⟩:=bM hk;obtain ⟨_,_,hk⟩:=bM hk;obtain rfl:=bR hk;exact .rfx (ih _ _ _ h1)
  rw [if_neg h11] at hk;have ha:=(bG hv).1;obtain ⟨hd,h1,hk2⟩:=bM hk;obtain ⟨r,h6,h7,h8⟩:=mO h1;obtain ⟨m,hm⟩:=sZ h7 h8 rfl;have hh:=lO h7;rw [hm] at hh;by_cases h15:k=15
  ·rw [if_pos h15] at hk2;subst h15;obtain ⟨a,rfl⟩:=lH (fC hv (m:=1) rfl);obtain rfl:=bR hk2;exact .fst (ih _ _ _ h6) hh
  ·rw [if_neg h15] at hk2;have h16:k=16:=by
    apply Classical.byContradiction
    intro h16;have:aU k = -1:=by unfold aU;repeat' (first|rw [if_neg (by omega)]|rfl)
    omega
   subst h16;obtain ⟨a,rfl⟩:=lH (fC hv (m:=1) rfl);obtain rfl:=bR hk2;exact .snd (ih _ _ _ h6) hh
def up (H:List Tm)(t:Tm):Tm:=bT (H.length:Int) 0 t
def up1 (H:List Tm)(t:Tm):Tm:=bT (H.length:Int) 1 t
theorem eW (t:Tm):up [] t=t:=tL t 0
theorem kD (t:Tm):up1 [] t=t:=tL t 1
theorem kR (H H':List Tm)(t:Tm):up H' (up H t)=up (H++H') t:=by
 rw [up,up,up,(lW _ _ (by omega)).1 t 0 0 (by decide) (by omega)];congr 1;simp;omega
theorem kW (H H':List Tm)(t:Tm):up1 H' (up1 H t)=up1 (H++H') t:=by
 rw [up1,up1,up1,(lW _ _ (by omega)).1 t 1 1 (by decide) (by omega)];congr 1;simp;omega
theorem aTg (H:List Tm)(u B:Tm):up H (bX u 0 0 B)=bX (up H u) 0 0 (up1 H B):=by
 have:=(aDj u (H.length:Int) 0 (by omega) (by decide)).1 B 0 (by decide);exact this
theorem aPy {H:List Tm}{k n:Int}{ks:List Tm}(h:k≠1)(hb:binds k=false):up H (.mk k n ks) = .mk k n (ks.map (up H)):=by
 rw [up,eJ h,aKq hb];rfl
theorem aCp {H:List Tm}{k n:Int}{a b:Tm}(h:k=3∨k=4∨k=13):up H (.mk k n [a,b]) = .mk k n [up H a,up1 H b]:=by
 have:=(aDr (b:=(H.length:Int)) (c:=0) (by omega) (by decide)).bn 0 k n a b h;exact this
theorem xY {t u:Tm}(H:List Tm)(h:Hs t u):Hs (up H t) (up H u):=h.sh (by omega) (by decide)
theorem Mt.up {a b:Tm}(h:Mt a b)(H:List Tm):Mt (Go.Proofs.YtjlaenhcemacdaaGreat.up H a) (Go.Proofs.YtjlaenhcemacdaaGreat.up H b):=by
 have hp:∀{x y:Tm} {c:Int},0≤c→Ps x y→Ps (bT (H.length:Int) c x) (bT (H.length:Int) c y):=fun hc hxy=>by
  induction hxy with
  | refl t=>exact .refl _
  | step h1 _ ih=>exact .step (h1.sh (by omega) hc) ih
 obtain ⟨c,h1,h2⟩:=h;exact ⟨_,hp (by decide) h1,hp (by decide) h2⟩
theorem Mt.up1 {a b:Tm}(h:Mt a b)(H:List Tm):Mt (Go.Proofs.YtjlaenhcemacdaaGreat.up1 H a) (Go.Proofs.YtjlaenhcemacdaaGreat.up1 H b):=by
 have hp:∀{x y:Tm} {c:Int},0≤c→Ps x y→Ps (bT (H.length:Int) c x) (bT (H.length:Int) c y):=fun hc hxy=>by
  induction hxy with
  | refl t=>exact .refl _
  | step h1 _ ih=>exact .step (h1.sh (by omega) hc) ih
 obtain ⟨c,h1,h2⟩:=h;exact ⟨_,hp (by decide) h1,hp (by decide) h2⟩
theorem Ps.sbu {u u':Tm}(h:Ps u u')(t:Tm):Ps (bX u 0 0 t) (bX u' 0 0 t):=by
 induction h with
 | refl u=>exact .refl _
 | step h1 _ ih=>exact .step ((Pr.refl t).sb h1 (by decide) (by decide)) ih
theorem Mt.sbu {u u':Tm}(h:Mt u u')(t:Tm):Mt (bX u 0 0 t) (bX u' 0 0 t):=by obtain ⟨c,h1,h2⟩:=h;exact ⟨_,h1.sbu t,h2.sbu t⟩
theorem Ps.kids {k n:Int}:∀{ks ls:List Tm},ks.length=ls.length→(∀i,i<ks.length→Ps (aI ks i) (aI ls i))→Ps (.mk k n ks) (.mk k n ls):=fun {ks ls} hl h=>by
 have one:∀(ks:List Tm) (i:Nat) (u:Tm),i<ks.length→Ps (aI ks i) u→Ps (.mk k n ks) (.mk k n (ks.set i u)):=fun ks i u hi hu=>by
  generalize ht:aI ks i=t at hu
  induction hu generalizing ks with
  | refl t=>rw [show ks.set i t=ks by rw [← ht,cK hi];exact List.set_getElem_self hi];exact .refl _
  | @step t a b h1 _ ih=>
   have h2:=ih (ks.set i a) (by simpa using hi) (by rw [cK (by simpa using hi),List.getElem_set_self]);rw [List.set_set] at h2;refine .step ((PrL.of (by simp) fun j hj=>?_).node k n) h2;by_cases hij:j=i
   ·subst hij;rw [ht,cK (by simpa using hj),List.getElem_set_self];exact h1
   ·rw [cK hj,cK (by simpa using hj),List.getElem_set_ne (fun h=>hij h.symm)];exact .refl _
 have all:∀m,m≤ks.length→Ps (.mk k n ks) (.mk k n (ls.take m++ks.drop m)):=fun m=>by
  induction m with
  | zero=>intro _;simpa using Ps.refl _
  | succ m ih=>
   intro hm;have h1:=ih (by omega);have hlen:(ls.take m++ks.drop m).length=ks.length:=by simp;omega
   have h2:=one (ls.take m++ks.drop m) m (aI ls m) (by omega) (by
    rw [cK (by omega),List.getElem_append_right (by simp;omega)];simp only [List.length_take,List.getElem_drop]
    have:=h m (by omega);rw [cK (by omega)] at this;have e:m+(m - min m ls.length)=m:=by omega
    simp only [e];exact this)
   have e:(ls.take m++ks.drop m).set m (aI ls m)=ls.take (m+1)++ks.drop (m+1):=by
    refine List.ext_getElem (by simp;omega) fun j h3 h4=>?_
    rw [List.getElem_set];by_cases hj:m=j
    ·subst hj;rw [if_pos rfl,List.getElem_append_left (by simp;omega),List.getElem_take,cK (by omega)]
    ·rw [if_neg hj];by_cases hj2:j<m
     ·rw [List.getElem_append_left (by simp;omega),List.getElem_append_left (by simp;omega),List.getElem_take,List.getElem_take]
     ·rw [List.getElem_append_right (by simp;omega),List.getElem_append_right (by simp;omega),List.getElem_drop,List.getElem_drop];congr 1;simp;omega
   rw [e] at h2;exact h1.trans h2
 have:=all ks.length (oL _);rw [List.drop_length,List.append_nil,hl,List.take_length] at this;exact this
theorem Mt.kids {k n:Int}{ks ls:List Tm}(hl:ks.length=ls.length)(h:∀i,i<ks.length→Mt (aI ks i) (aI ls i)):Mt (.mk k n ks) (.mk k n ls):=by
 have hc:∀i,∃c,i<ks.length→Ps (aI ks i) c∧Ps (aI ls i) c:=fun i=>by
  by_cases hi:i<ks.length
  ·obtain ⟨c,h1⟩:=h i hi;exact ⟨c,fun _=>h1⟩
  ·exact ⟨default,fun h=>absurd h hi⟩
 obtain ⟨f,hf⟩:=Classical.axiomOfChoice hc;have hk:∀i,i<ks.length→aI ((List.range ks.length).map f) i=f i:=fun i hi=>by
  rw [cK (by simpa using hi)];simp
 exact ⟨.mk k n ((List.range ks.length).map f),Ps.kids (by simp) fun i hi=>by rw [hk i hi];exact (hf i hi).1,Ps.kids (by simp [hl]) fun i hi=>by rw [hk i (by omega)];exact (hf i (by omega)).2⟩
theorem aGk {A A' B B':Tm}(h:Hs A B)(hn:cD B=none)(h':Hs A' B')(hn':cD B'=none)(hM:Mt A A'):B.k=B'.k∧B.n=B'.n∧∀i,Mt (aI B.ks i) (aI B'.ks i):=by
 have hm:Mt B B':=h.ps.mt.symm.trans (hM.trans h'.ps.mt);have hN:∀{t u:Tm},Ps t u→cD t=none→u.n=t.n:=fun h=>by
  induction h with
  | refl t=>exact fun _=>rfl
  | @step t u v h1 _ ih=>
   intro ht;have h2:=aLu _ _ ht h1;rw [ih h2.2.1];cases h1 with
   | node _ _=>rfl
   | red hr _ _=>rw [fN hr] at ht;cases ht
 obtain ⟨c,h1,h2⟩:=hm;obtain ⟨h3,h4⟩:=aJx h1 hn;obtain ⟨h5,h6⟩:=aJx h2 hn';exact ⟨h3.symm.trans h5,(hN h1 hn).symm.trans (hN h2 hn'),fun i=>⟨_,h4 i,h6 i⟩⟩
theorem aOh (D:List Tm):∀(H:List Tm) (n:Nat),nR (D++H) (if 0≤n then n+((H.length:Int)).toNat else n)=up H (nR D n):=by
 intro H n;rw [if_pos (Nat.zero_le _),Int.toNat_natCast,nR,nR,up];by_cases h:n<D.length
 ·rw [if_pos h,if_pos (by simp;omega),(lW _ _ (by omega)).1 _ 0 0 (by decide) (by omega)];have e:(D++H).getD ((D++H).length - 1 - (n+H.length)) default=D.getD (D.length - 1 - n) default:=by
   have h4:(D++H).length - 1 - (n+H.length)=D.length - 1 - n:=by simp;omega
   rw [h4,List.getD_eq_getElem?_getD,List.getD_eq_getElem?_getD,List.getElem?_append_left (by omega)]
  rw [e];congr 1;simp;omega
 ·rw [if_neg h,if_neg (by simp;omega),aGe]
theorem ST.up_inv {D H:List Tm}{v s:Tm}(h:ST (nR (D++H)) (up H v) s):∃s0,s=up H s0∧ST (nR D) v s0:=
 h.unsh (b:=(H.length:Int)) (c:=0) (t:=v) (p:=nR D) (by omega) rfl fun n=>aOh D H n
def fs (t:Tm):Tm:=.mk 15 0 [t]
def sn (t:Tm):Tm:=.mk 16 0 [t]
theorem aPh {a a':Tm}(h:Hs a a')(b:Tm):Hs (dZ a b) (dZ a' b):=Hs.at (k:=5) (n:=0) (by decide) h (ks:=[a,b]) (Nat.zero_lt_succ _) rfl
theorem aPe {a a':Tm}(h:Hs a a'):Hs (fs a) (fs a'):=Hs.at (k:=15) (n:=0) (by decide) h (ks:=[a]) (Nat.zero_lt_succ _) rfl
theorem aPw {a a':Tm}(h:Hs a a'):Hs (sn a) (sn a'):=Hs.at (k:=16) (n:=0) (by decide) h (ks:=[a]) (Nat.zero_lt_succ _) rfl
theorem aSu {a:Tm}(h:Ne a)(b:Tm):Ne (dZ a b):=.node (k:=5) (ks:=[a,b]) (by decide) (Nat.zero_lt_succ _) h
theorem aTf {a:Tm}(h:Ne a):Ne (fs a):=.node (k:=15) (ks:=[a]) (by decide) (Nat.zero_lt_succ _) h
theorem aSx {a:Tm}(h:Ne a):Ne (sn a):=.node (k:=16) (ks:=[a]) (by decide) (Nat.zero_lt_succ _) h
theorem aQu {a:Tm}(h:NeR a)(b:Tm):NeR (dZ a b):=by obtain ⟨u,h1,h2⟩:=h;exact ⟨_,aPh h1 b,aSu h2 b⟩
theorem aQc {a:Tm}(h:NeR a):NeR (fs a):=by obtain ⟨u,h1,h2⟩:=h;exact ⟨_,aPe h1,aTf h2⟩
theorem aRn {a:Tm}(h:NeR a):NeR (sn a):=by obtain ⟨u,h1,h2⟩:=h;exact ⟨_,aPw h1,aSx h2⟩
theorem lN {a:Tm}(h:NeR a)(H:List Tm):NeR (up H a):=h.sh (by omega)
abbrev Pd:=List Tm→Tm→Tm→Prop
section
variable (T:List Tm→Tm→Prop)
def TK (D:List Tm)(t:Tm):Prop:=∀H,T (D++H) (up H t)
def El (D:List Tm)(P:Pd)(H:List Tm)(v:Tm):Prop:=TK T (D++H) v∧∀s,ST (nR (D++H)) v s→P H v s
def UP (U:Nat→List Tm→Tm→Prop)(D:List Tm)(j:Nat):Pd:=fun H v r=>TK T (D++H) r∧(∃ks,Hs r (.mk 2 (j:Int) ks))∧U j (D++H) v
inductive Nt:List Tm→Tm→Prop
 | zer {D:List Tm} {v:Tm}:Hs v (.mk 7 0 [])→Nt D v
 | suc {D:List Tm} {v m:Tm}:Hs v (.mk 8 0 [m])→TK T D m→(∀s,ST (nR D) m s→TK T D s∧∃n ks,Hs s (.mk 6 n ks))→Nt D m→Nt D v
 | ne {D:List Tm} {v:Tm}:NeR v→Nt D v
def NP (D:List Tm):Pd:=fun H v r=>TK T (D++H) r∧(∃n ks,Hs r (.mk 6 n ks))∧Nt T (D++H) v
def NeP (D:List Tm):Pd:=fun H v r=>TK T (D++H) r∧NeR r∧NeR v
def PiP (D:List Tm)(P1:Pd)(P2:List Tm→Tm→Pd):Pd:=fun H v r=>TK T (D++H) r∧
 (∃n A B,Hs r (.mk 3 n [A,B])∧∀H' u q,P1 (H++H') u q→El T D P1 (H++H') u→P2 (H++H') u [] (dZ (up H' v) u) (bX u 0 0 (up1 H' B)))∧(NeR v∨∃n ks,Hs v (.mk 4 n ks))
def SgP (D:List Tm)(P1:Pd)(P2:List Tm→Tm→Pd):Pd:=fun H v r=>TK T (D++H) r∧
 (∃n A B,Hs r (.mk 13 n [A,B])∧∀H',P1 (H++H') (fs (up H' v)) (up H' A)∧El T D P1 (H++H') (fs (up H' v))∧
  ∀w q,P1 (H++H') w q→El T D P1 (H++H') w→Mt w (fs (up H' v))→P2 (H++H') (fs (up H' v)) [] (sn (up H' v)) (bX w 0 0 (up1 H' B)))∧(NeR v∨∃n ks,Hs v (.mk 14 n ks))
def IdP (D:List Tm)(P1:Pd)(a b:Tm):Pd:=fun H v r=>TK T (D++H) r∧
 (∃n A x y,Hs r (.mk 10 n [A,x,y])∧Mt x (up H a)∧Mt y (up H b)∧∀H',(∃q,P1 (H++H') (up H' y) q)∧El T D P1 (H++H') (up H' y))∧(NeR v∨∃n c,Hs v (.mk 11 n [c])∧Mt c (up H a)∧Mt c (up H b))
inductive LR (U:Nat→List Tm→Tm→Prop) (i:Nat):List Tm→Tm→Pd→Prop
 | uni {D:List Tm} {A:Tm} {j:Nat} {ks:List Tm}:TK T D A→Hs A (.mk 2 (j:Int) ks)→j<i→LR U i D A (UP T U D j)
 | nat {D:List Tm} {A:Tm} {n:Int} {ks:List Tm}:TK T D A→Hs A (.mk 6 n ks)→LR U i D A (NP T D)
 | ne {D:List Tm} {A:Tm}:TK T D A→NeR A→LR U i D A (NeP T D)
 | pi {D:List Tm} {A A1 B1:Tm} {n:Int} {P1:Pd} {P2:List Tm→Tm→Pd}:TK T D A→Hs A (.mk 3 n [A1,B1])→LR U i D A1 P1→(∀H u q,P1 H u q→El T D P1 H u→LR U i (D++H) (bX u 0 0 (up1 H B1)) (P2 H u))→LR U i D A (PiP T D P1 P2)
 | sig {D:List Tm} {A A1 B1:Tm} {n:Int} {P1:Pd} {P2:List Tm→Tm→Pd}:TK T D A→Hs A (.mk 13 n [A1,B1])→LR U i D A1 P1→(∀H u q,P1 H u q→El T D P1 H u→LR U i (D++H) (bX u 0 0 (up1 H B1)) (P2 H u))→LR U i D A (SgP T D P1 P2)
 | idt {D:List Tm} {A A1 a b q1 q2:Tm} {n:Int} {P1:Pd}:TK T D A→Hs A (.mk 10 n [A1,a,b])→LR U i D A1 P1→P1 [] a q1→El T D P1 [] a→P1 [] b q2→El T D P1 [] b→LR U i D A (IdP T D P1 a b)
end
variable {T:List Tm→Tm→Prop}
theorem TK.up {D H:List Tm}{t:Tm}(h:TK T D t):TK T (D++H) (up H t):=fun H'=>by
 have:=h (H++H');rwa [← List.append_assoc,← kR] at this
theorem TK.at {D:List Tm}{t:Tm}(h:TK T D t):T D t:=by
 have:=h [];rwa [List.append_nil,eW] at this
theorem eV (D H0:List Tm)(P:Pd)(H:List Tm)(v:Tm):El T (D++H0) (fun H=>P (H0++H)) H v↔El T D P (H0++H) v:=by
 unfold El;rw [List.append_assoc]
theorem aMd (U:Nat→List Tm→Tm→Prop)(D H0:List Tm)(j:Nat):(fun H=>UP T U D j (H0++H))=UP T U (D++H0) j:=by
 funext H v r;unfold UP;rw [List.append_assoc]
theorem aKk (D H0:List Tm):(fun H=>NP T D (H0++H))=NP T (D++H0):=by
 funext H v r;unfold NP;rw [List.append_assoc]
theorem aHg (D H0:List Tm):(fun H=>NeP T D (H0++H))=NeP T (D++H0):=by
 funext H v r;unfold NeP;rw [List.append_assoc]
theorem aGz (D H0:List Tm)(P1:Pd)(P2:List Tm→Tm→Pd):(fun H=>PiP T D P1 P2 (H0++H))=PiP T (D++H0) (fun H=>P1 (H0++H)) (fun H=>P2 (H0++H)):=by
 funext H v r;unfold PiP;simp only [eV,List.append_assoc]
theorem aHo (D H0:List Tm)(P1:Pd)(P2:List Tm→Tm→Pd):(fun H=>SgP T D P1 P2 (H0++H))=SgP T (D++H0) (fun H=>P1 (H0++H)) (fun H=>P2 (H0++H)):=by
 funext H v r;unfold SgP;simp only [eV,List.append_assoc]
theorem aHu (D H0:List Tm)(P1:Pd)(a b:Tm):(fun H=>IdP T D P1 a b (H0++H))=IdP T (D++H0) (fun H=>P1 (H0++H)) (up H0 a) (up H0 b):=by
 funext H v r;unfold IdP;simp only [eV,List.append_assoc,kR]
theorem gQ {A A1 B1:Tm}{k n:Int}(hk:k=3∨k=4∨k=13)(H:List Tm)(h:Hs A (.mk k n [A1,B1])):Hs (up H A) (.mk k n [up H A1,up1 H B1]):=by
 have:=xY H h;rwa [aCp hk] at this
theorem fQ {A:Tm}{k n:Int}{ks:List Tm}(hk:k≠1)(hb:binds k=false)(H:List Tm)(h:Hs A (.mk k n ks)):Hs (up H A) (.mk k n (ks.map (up H))):=by
 have:=xY H h;rwa [aPy hk hb] at this
theorem LR.tk {U:Nat→List Tm→Tm→Prop}{i:Nat}{D:List Tm}{A:Tm}{P:Pd}(h:LR T U i D A P):TK T D A:=by
 cases h<;>assumption
theorem LR.ptk {U:Nat→List Tm→Tm→Prop}{i:Nat}{D:List Tm}{A:Tm}{P:Pd}(h:LR T U i D A P){H:List Tm}{v r:Tm}(hp:P H v r):TK T (D++H) r:=by
 cases h<;>exact hp.1
theorem Nt.up {D:List Tm}{v:Tm}(h:Nt T D v)(H:List Tm):Nt T (D++H) (up H v):=by
 induction h with
 | zer h=>exact .zer (fQ (by decide) (by rfl) H h)
 | @suc v m h1 h2 h3 _ ih=>
  refine .suc (m:=Go.Proofs.YtjlaenhcemacdaaGreat.up H m) (fQ (by decide) (by rfl) H h1) h2.up (fun s hs=>?_) ih;obtain ⟨s0,rfl,h5⟩:=hs.up_inv;obtain ⟨h6,n',ks,h7⟩:=h3 s0 h5;exact ⟨h6.up,n',_,fQ (by decide) (by rfl) H h7⟩
 | ne h=>exact .ne (lN h H)
section
variable {U:Nat→List Tm→Tm→Prop}{i:Nat}
theorem LR.pmono (hU:∀j D v H,U j D v→U j (D++H) (up H v)){D:List Tm}{A:Tm}{P:Pd}(h:LR T U i D A P){H:List Tm}(H':List Tm){v r:Tm}(hp:P H v r):P (H++H') (up H' v) (up H' r):=by
 cases h with
 | uni h1 h2 h3=>
  obtain ⟨p1,⟨ks,p2⟩,p3⟩:=hp;refine ⟨?_,⟨_,fQ (by decide) (by rfl) H' p2⟩,?_⟩
  ·have:=p1.up (H:=H');rwa [List.append_assoc] at this
  ·have:=hU _ _ _ H' p3;rwa [List.append_assoc] at this
 | nat h1 h2=>
  obtain ⟨p1,⟨n,ks,p2⟩,p3⟩:=hp;refine ⟨?_,⟨n,_,fQ (by decide) (by rfl) H' p2⟩,?_⟩
  ·have:=p1.up (H:=H');rwa [List.append_assoc] at this
  ·have:=p3.up H';rwa [List.append_assoc] at this
 | ne h1 h2=>
  obtain ⟨p1,p2,p3⟩:=hp;refine ⟨?_,lN p2 H',lN p3 H'⟩;have:=p1.up (H:=H');rwa [List.append_assoc] at this
 | pi h1 h2 h3 h4=>
  obtain ⟨p1,⟨n,A,B,p2,p3⟩,p4⟩:=hp;refine ⟨by have:=p1.up (H:=H');rwa [List.append_assoc] at this,⟨n,_,_,gQ (.inl rfl) H' p2,fun H2 u q hu he=>?_⟩,?_⟩
  ·rw [List.append_assoc] at hu he⊢;rw [kR,kW];exact p3 (H'++H2) u q hu he
  ·rcases p4 with p4|⟨n,ks,p4⟩
   ·exact .inl (lN p4 H')
   ·right
    have:=xY H' p4;rw [up,up,eJ (by decide)] at this;exact ⟨n,_,this⟩
 | sig h1 h2 h3 h4=>
  obtain ⟨p1,⟨n,A,B,p2,p3⟩,p4⟩:=hp;refine ⟨by have:=p1.up (H:=H');rwa [List.append_assoc] at this,⟨n,_,_,gQ (.inr (.inr rfl)) H' p2,fun H2=>?_⟩,?_⟩
  ·rw [List.append_assoc,kR,kR,kW];exact p3 (H'++H2)
  ·rcases p4 with p4|⟨n,ks,p4⟩
   ·exact .inl (lN p4 H')
   ·exact .inr ⟨n,_,fQ (by decide) (by rfl) H' p4⟩
 | idt h1 h2 h3 h4 h5 h6 h7=>
  obtain ⟨p1,⟨n,A,x,y,p2,p3,p4,p5⟩,p6⟩:=hp;refine ⟨by have:=p1.up (H:=H');rwa [List.append_assoc] at this,⟨n,_,_,_,fQ (by decide) (by rfl) H' p2,?_,?_,fun H2=>?_⟩,?_⟩
  ·rw [← kR];exact p3.up H'
  ·rw [← kR];exact p4.up H'
  ·rw [List.append_assoc,kR];exact p5 (H'++H2)
  ·rcases p6 with p6|⟨n,c,p6,p7,p8⟩
   ·exact .inl (lN p6 H')
   ·exact .inr ⟨n,_,fQ (by decide) (by rfl) H' p6,by rw [← kR];exact p7.up H',by rw [← kR];exact p8.up H'⟩
theorem LR.emono (hU:∀j D v H,U j D v→U j (D++H) (up H v)){D:List Tm}{A:Tm}{P:Pd}(h:LR T U i D A P){H:List Tm}(H':List Tm){v:Tm}(hp:El T D P H v):El T D P (H++H') (up H' v):=by
 refine ⟨?_,fun s hs=>?_⟩
 ·have:=hp.1.up (H:=H');rwa [List.append_assoc] at this
 ·rw [← List.append_assoc] at hs;obtain ⟨s0,rfl,h1⟩:=hs.up_inv;exact h.pmono hU H' (hp.2 s0 h1)
theorem LR.mono (hU:∀j D v H,U j D v→U j (D++H) (up H v)){D:List Tm}{A:Tm}{P:Pd}(h:LR T U i D A P)(H0:List Tm):LR T U i (D++H0) (up H0 A) (fun H=>P (H0++H)):=by
 induction h with
 | uni h1 h2 h3=>rw [aMd];exact .uni h1.up (fQ (by decide) (by rfl) H0 h2) h3
 | nat h1 h2=>rw [aKk];exact .nat h1.up (fQ (by decide) (by rfl) H0 h2)
 | ne h1 h2=>rw [aHg];exact .ne h1.up (lN h2 H0)
 | pi h1 h2 h3 h4 i3 i4=>
  rw [aGz];refine .pi h1.up (gQ (.inl rfl) H0 h2) i3 fun H u q hu he=>?_
  rw [List.append_assoc,kW];exact h4 (H0++H) u q hu ((eV _ _ _ _ _).1 he)
 | sig h1 h2 h3 h4 i3 i4=>
  rw [aHo];refine .sig h1.up (gQ (.inr (.inr rfl)) H0 h2) i3 fun H u q hu he=>?_
  rw [List.append_assoc,kW];exact h4 (H0++H) u q hu ((eV _ _ _ _ _).1 he)
 | @idt D A A1 a b q1 q2 n P1 h1 h2 h3 h4 h5 h6 h7 i3=>
  rw [aHu];have e:∀{v q:Tm},P1 [] v q→P1 (H0++[]) (up H0 v) (up H0 q):=fun hp=>by
   have:=h3.pmono hU H0 hp;rw [List.append_nil];exact this
  have e2:∀{v:Tm},El T D P1 [] v→El T (D++H0) (fun H=>P1 (H0++H)) [] (up H0 v):=fun hp=>by
   have:=h3.emono hU H0 hp;rw [eV,List.append_nil];exact this
  exact .idt h1.up (fQ (by decide) (by rfl) H0 h2) i3 (e h4) (e2 h5) (e h6) (e2 h7)
theorem aR {A A':Tm}{k n k' n':Int}{ks ks':List Tm}(h:Hs A (.mk k n ks))(hk:k=2∨k=3∨k=6∨k=10∨k=13)(h':Hs A' (.mk k' n' ks'))(hk':k'=2∨k'=3∨k'=6∨k'=10∨k'=13)(hM:Mt A A'):k=k'∧n=n'∧∀i,Mt (aI ks i) (aI ks' i):=aGk h (nh _ _ _ hk) h' (nh _ _ _ hk') hM
theorem dS {A A':Tm}{k n:Int}{ks:List Tm}(h:Hs A (.mk k n ks))(hk:k=2∨k=3∨k=6∨k=10∨k=13)(h':NeR A')(hM:Mt A A'):False:=by
 obtain ⟨u,h1,h2⟩:=h';have h3:=(aGk h (nh _ _ _ hk) h1 h2.hst hM).1;have h4:=h2.kind;have h5:k=u.k:=h3;omega
theorem Mt.sb2 {u A B:Tm}(h:Mt A B)(H:List Tm):Mt (bX u 0 0 (Go.Proofs.YtjlaenhcemacdaaGreat.up1 H A)) (bX u 0 0 (Go.Proofs.YtjlaenhcemacdaaGreat.up1 H B)):=(h.up1 H).sb u
theorem LR.irr {D:List Tm}{A:Tm}{P:Pd}(h:LR T U i D A P):∀{A':Tm} {P':Pd},LR T U i D A' P'→Mt A A'→P=P':=by
 induction h with
 | @uni D A j ks h1 h2 h3=>
  intro A' P' h' hM;cases h' with
  | uni g1 g2 g3=>
   have:=(aR h2 (.inl rfl) g2 (.inl rfl) hM).2.1;rw [Int.ofNat_inj.1 this]
  | nat g1 g2=>exact absurd (aR h2 (.inl rfl) g2 (by decide) hM).1 (by decide)
  | ne g1 g2=>exact (dS h2 (.inl rfl) g2 hM).elim
  | pi g1 g2=>exact absurd (aR h2 (.inl rfl) g2 (by decide) hM).1 (by decide)
  | sig g1 g2=>exact absurd (aR h2 (.inl rfl) g2 (by decide) hM).1 (by decide)
  | idt g1 g2=>exact absurd (aR h2 (.inl rfl) g2 (by decide) hM).1 (by decide)
 | nat h1 h2=>
  intro A' P' h' hM;cases h' with
  | uni g1 g2 g3=>exact absurd (aR h2 (by decide) g2 (.inl rfl) hM).1 (by decide)
  | nat g1 g2=>rfl
  | ne g1 g2=>exact (dS h2 (by decide) g2 hM).elim
  | pi g1 g2=>exact absurd (aR h2 (by decide) g2 (by decide) hM).1 (by decide)
  | sig g1 g2=>exact absurd (aR h2 (by decide) g2 (by decide) hM).1 (by decide)
  | idt g1 g2=>exact absurd (aR h2 (by decide) g2 (by decide) hM).1 (by decide)
 | ne h1 h2=>
  intro A' P' h' hM;cases h' with
  | uni g1 g2 g3=>exact (dS g2 (.inl rfl) h2 hM.symm).elim
  | nat g1 g2=>exact (dS g2 (by decide) h2 hM.symm).elim
  | ne g1 g2=>rfl
  | pi g1 g2=>exact (dS g2 (by decide) h2 hM.symm).elim
  | sig g1 g2=>exact (dS g2 (by decide) h2 hM.symm).elim
  | idt g1 g2=>exact (dS g2 (by decide) h2 hM.symm).elim
 | @pi D A A1 B1 n P1 P2 h1 h2 h3 h4 i3 i4=>
  intro A' P' h' hM;cases h' with
  | uni g1 g2 g3=>exact absurd (aR h2 (by decide) g2 (.inl rfl) hM).1 (by decide)
  | nat g1 g2=>exact absurd (aR h2 (by decide) g2 (by decide) hM).1 (by decide)
  | ne g1 g2=>exact (dS h2 (by decide) g2 hM).elim
  | @pi _ _ A2 B2 n2 P1' P2' g1 g2 g3 g4=>
   have hk:=(aR h2 (by decide) g2 (by decide) hM).2.2;obtain rfl:=i3 g3 (hk 0);have hP:∀H u q,P1 H u q→El T D P1 H u→P2 H u=P2' H u:=fun H u q hu he=>i4 H u q hu he (g4 H u q hu he) ((hk 1).sb2 H)
   funext H v r
   unfold PiP
   refine propext ⟨?_,?_⟩
   ·rintro ⟨p1,⟨m,X,Y,p2,p3⟩,p4⟩;exact ⟨p1,⟨m,X,Y,p2,fun H' u q hu he=>by rw [← hP _ u q hu he];exact p3 H' u q hu he⟩,p4⟩
   ·rintro ⟨p1,⟨m,X,Y,p2,p3⟩,p4⟩;exact ⟨p1,⟨m,X,Y,p2,fun H' u q hu he=>by rw [hP _ u q hu he];exact p3 H' u q hu he⟩,p4⟩
  | sig g1 g2=>exact absurd (aR h2 (by decide) g2 (by decide) hM).1 (by decide)
  | idt g1 g2=>exact absurd (aR h2 (by decide) g2 (by decide) hM).1 (by decide)
 | @sig D A A1 B1 n P1 P2 h1 h2 h3 h4 i3 i4=>
  intro A' P' h' hM;cases h' with
  | uni g1 g2 g3=>exact absurd (aR h2 (by decide) g2 (.inl rfl) hM).1 (by decide)
  | nat g1 g2=>exact absurd (aR h2 (by decide) g2 (by decide) hM).1 (by decide)
  | ne g1 g2=>exact (dS h2 (by decide) g2 hM).elim
  | pi g1 g2=>exact absurd (aR h2 (by decide) g2 (by decide) hM).1 (by decide)
  | @sig _ _ A2 B2 n2 P1' P2' g1 g2 g3 g4=>
   have hk:=(aR h2 (by decide) g2 (by decide) hM).2.2;obtain rfl:=i3 g3 (hk 0);have hP:∀H u q,P1 H u q→El T D P1 H u→P2 H u=P2' H u:=fun H u q hu he=>i4 H u q hu he (g4 H u q hu he) ((hk 1).sb2 H)
   funext H v r
   unfold SgP
   refine propext ⟨?_,?_⟩
   ·rintro ⟨p1,⟨m,X,Y,p2,p3⟩,p4⟩;refine ⟨p1,⟨m,X,Y,p2,fun H'=>?_⟩,p4⟩;obtain ⟨a1,a2,a3⟩:=p3 H';exact ⟨a1,a2,by rw [← hP _ _ _ a1 a2];exact a3⟩
   ·rintro ⟨p1,⟨m,X,Y,p2,p3⟩,p4⟩;refine ⟨p1,⟨m,X,Y,p2,fun H'=>?_⟩,p4⟩;obtain ⟨a1,a2,a3⟩:=p3 H';exact ⟨a1,a2,by rw [hP _ _ _ a1 a2];exact a3⟩
  | idt g1 g2=>exact absurd (aR h2 (by decide) g2 (by decide) hM).1 (by decide)
 | @idt D A A1 a b q1 q2 n P1 h1 h2 h3 h4 h5 h6 h7 i3=>
  intro A' P' h' hM;cases h' with
  | uni g1 g2 g3=>exact absurd (aR h2 (by decide) g2 (.inl rfl) hM).1 (by decide)
  | nat g1 g2=>exact absurd (aR h2 (by decide) g2 (by decide) hM).1 (by decide)
  | ne g1 g2=>exact (dS h2 (by decide) g2 hM).elim
  | pi g1 g2=>exact absurd (aR h2 (by decide) g2 (by decide) hM).1 (by decide)
  | sig g1 g2=>exact absurd (aR h2 (by decide) g2 (by decide) hM).1 (by decide)
  | @idt _ _ A2 a2 b2 _ _ n2 P1' g1 g2 g3 g4 g5 g6 g7=>
   have hk:=(aR h2 (by decide) g2 (by decide) hM).2.2;obtain rfl:=i3 g3 (hk 0);have ha:Mt a a2:=hk 1;have hb:Mt b b2:=hk 2;funext H v r
   unfold IdP
   refine propext ⟨?_,?_⟩
   ·rintro ⟨p1,⟨m,X,x,y,p2,p3,p4,p5⟩,p6⟩;refine ⟨p1,⟨m,X,x,y,p2,p3.trans (ha.up H),p4.trans (hb.up H),p5⟩,?_⟩;rcases p6 with p6|⟨n,c,p6,p7,p8⟩
    ·exact .inl p6
    ·exact .inr ⟨n,c,p6,p7.trans (ha.up H),p8.trans (hb.up H)⟩
   ·rintro ⟨p1,⟨m,X,x,y,p2,p3,p4,p5⟩,p6⟩;refine ⟨p1,⟨m,X,x,y,p2,p3.trans (ha.symm.up H),p4.trans (hb.symm.up H),p5⟩,?_⟩;rcases p6 with p6|⟨n,c,p6,p7,p8⟩
    ·exact .inl p6
    ·exact .inr ⟨n,c,p6,p7.trans (ha.symm.up H),p8.trans (hb.symm.up H)⟩
theorem LR.pi_inv {D:List Tm}{A A1 B1:Tm}{n:Int}{P:Pd}(h:LR T U i D A P)(hs:Hs A (.mk 3 n [A1,B1])):∃P1 P2,P=PiP T D P1 P2∧LR T U i D A1 P1∧∀H u q,P1 H u q→El T D P1 H u→LR T U i (D++H) (bX u 0 0 (up1 H B1)) (P2 H u):=by
 cases h with
 | uni h1 h2 h3=>exact absurd (aR h2 (.inl rfl) hs (by decide) (.refl _)).1 (by decide)
 | nat h1 h2=>exact absurd (aR h2 (by decide) hs (by decide) (.refl _)).1 (by decide)
 | ne h1 h2=>exact (dS hs (by decide) h2 (.refl _)).elim
 | pi h1 h2 h3 h4=>
  have:=h2.one_of hs (by decide) (by decide);injection this with e1 e2 e3;injection e3 with e3 e4;injection e4 with e4 _;subst e3 e4;exact ⟨_,_,rfl,h3,h4⟩
 | sig h1 h2 h3 h4=>exact absurd (aR h2 (by decide) hs (by decide) (.refl _)).1 (by decide)
 | idt h1 h2 h3 h4 h5 h6 h7=>exact absurd (aR h2 (by decide) hs (by decide) (.refl _)).1 (by decide)
theorem LR.sig_inv {D:List Tm}{A A1 B1:Tm}{n:Int}{P:Pd}(h:LR T U i D A P)(hs:Hs A (.mk 13 n [A1,B1])):∃P1 P2,P=SgP T D P1 P2∧LR T U i D A1 P1∧∀H u q,P1 H u q→El T D P1 H u→LR T U i (D++H) (bX u 0 0 (up1 H B1)) (P2 H u):=by
 cases h with
 | uni h1 h2 h3=>exact absurd (aR h2 (.inl rfl) hs (by decide) (.refl _)).1 (by decide)
 | nat h1 h2=>exact absurd (aR h2 (by decide) hs (by decide) (.refl _)).1 (by decide)
 | ne h1 h2=>exact (dS hs (by decide) h2 (.refl _)).elim
 | pi h1 h2 h3 h4=>exact absurd (aR h2 (by decide) hs (by decide) (.refl _)).1 (by decide)
 | sig h1 h2 h3 h4=>
  have:=h2.one_of hs (by decide) (by decide);injection this with e1 e2 e3;injection e3 with e3 e4;injection e4 with e4 _;subst e3 e4;exact ⟨_,_,rfl,h3,h4⟩
 | idt h1 h2 h3 h4 h5 h6 h7=>exact absurd (aR h2 (by decide) hs (by decide) (.refl _)).1 (by decide)
theorem LR.id_inv {D:List Tm}{A A1 a b:Tm}{n:Int}{P:Pd}(h:LR T U i D A P)(hs:Hs A (.mk 10 n [A1,a,b])):∃P1,P=IdP T D P1 a b∧LR T U i D A1 P1∧(∃q,P1 [] a q)∧El T D P1 [] a∧(∃q,P1 [] b q)∧El T D P1 [] b:=by
 cases h with
 | uni h1 h2 h3=>exact absurd (aR h2 (.inl rfl) hs (by decide) (.refl _)).1 (by decide)
 | nat h1 h2=>exact absurd (aR h2 (by decide) hs (by decide) (.refl _)).1 (by decide)
 | ne h1 h2=>exact (dS hs (by decide) h2 (.refl _)).elim
 | pi h1 h2 h3 h4=>exact absurd (aR h2 (by decide) hs (by decide) (.refl _)).1 (by decide)
 | sig h1 h2 h3 h4=>exact absurd (aR h2 (by decide) hs (by decide) (.refl _)).1 (by decide)
 | idt h1 h2 h3 h4 h5 h6 h7=>
  have:=h2.one_of hs (by decide) (by decide);injection this with e1 e2 e3;injection e3 with e3 e4;injection e4 with e4 e5;injection e5 with e5 _;subst e3 e4 e5;exact ⟨_,rfl,h3,⟨_,h4⟩,h5,⟨_,h6⟩,h7⟩
theorem kC {D:List Tm}{A:Tm}{j:Int}{ks:List Tm}{P:Pd}(h:LR T U i D A P)(hs:Hs A (.mk 2 j ks)):∃j':Nat,j=(j':Int)∧j'<i∧P=UP T U D j':=by
 cases h with
 | @uni _ _ j' _ h1 h2 h3=>exact ⟨j',(aR hs (.inl rfl) h2 (.inl rfl) (.refl _)).2.1,h3,rfl⟩
 | nat h1 h2=>exact absurd (aR h2 (by decide) hs (.inl rfl) (.refl _)).1 (by decide)
 | ne h1 h2=>exact (dS hs (.inl rfl) h2 (.refl _)).elim
 | pi h1 h2 h3 h4=>exact absurd (aR h2 (by decide) hs (.inl rfl) (.refl _)).1 (by decide)
 | sig h1 h2 h3 h4=>exact absurd (aR h2 (by decide) hs (.inl rfl) (.refl _)).1 (by decide)
 | idt h1 h2 h3 h4 h5 h6 h7=>exact absurd (aR h2 (by decide) hs (.inl rfl) (.refl _)).1 (by decide)
end
structure TC (T:List Tm→Tm→Prop):Prop where
 node:∀(D:List Tm) (k n:Int) (ks:List Tm),binds k=false→k≠11→(∀i,i<ks.length→T D (aI ks i))→T D (.mk k n ks)
 rfx:∀(D:List Tm) (n:Int) (b:Tm),T D b→(∀s,ST (nR D) b s→T D s)→T D (.mk 11 n [b])
 bnd:∀(D:List Tm) (k n:Int) (A B:Tm),k=3∨k=13→T D A→T (D++[A]) B→T D (.mk k n [A,B])
 lam:∀(D:List Tm) (n:Int) (A b:Tm),T D A→T (D++[A]) b→(∀u,ST (nR (D++[A])) b u→T (D++[A]) u)→T D (.mk 4 n [A,b])
variable {T:List Tm→Tm→Prop}
theorem TK.node (hT:TC T){D:List Tm}{k n:Int}{ks:List Tm}(hb:binds k=false)(hk:k≠11)(h:∀i,i<ks.length→TK T D (aI ks i)):TK T D (.mk k n ks):=fun H=>by
 rw [Go.Proofs.YtjlaenhcemacdaaGreat.up,bT];refine hT.node _ _ _ _ hb hk fun i hi=>?_
 rw [cO] at hi;rw [jE hb];exact h i hi H
theorem sK (hT:TC T){D:List Tm}{k n:Int}(hb:binds k=false)(hk:k≠11):TK T D (.mk k n []):=TK.node hT hb hk fun i hi=>absurd hi (Nat.not_lt_zero _)
theorem TK.ap (hT:TC T){D:List Tm}{a b:Tm}(ha:TK T D a)(hb:TK T D b):TK T D (dZ a b):=TK.node hT (by rfl) (by decide) fun i hi=>by
 have:i=0∨i=1:=by have:i<2:=hi;omega
 rcases this with rfl|rfl
 ·exact ha
 ·exact hb
theorem TK.one (hT:TC T){D:List Tm}{k n:Int}{a:Tm}(hb:binds k=false)(hk:k≠11)(ha:TK T D a):TK T D (.mk k n [a]):=TK.node hT hb hk fun i hi=>by
 obtain rfl:i=0:=by have:i<1:=hi;omega
 exact ha
theorem TK.fs (hT:TC T){D:List Tm}{a:Tm}(ha:TK T D a):TK T D (fs a):=TK.one hT (by rfl) (by decide) ha
theorem uM (hT:TC T){D:List Tm}{a:Tm}(ha:TK T D a):TK T D (sn a):=TK.one hT (by rfl) (by decide) ha
theorem ST.ap_inv {p:Nat→Tm}{f u s:Tm}(h:ST p (dZ f u) s):∃r m A B,ST p f r∧Hs r (.mk 3 m [A,B])∧s=bX u 0 0 B:=by
 generalize ht:dZ f u=t at h
 cases h with
 | app h1 h2=>injection ht with _ _ e;injection e with e1 e;injection e with e2 _;subst e1 e2;exact ⟨_,_,_,_,h1,h2,rfl⟩
 | bnd hk=>injection ht with e;subst e;rcases hk with hk|hk<;>cases hk
 | _=>injection ht with e;cases e
theorem ST.fs_inv {p:Nat→Tm}{q s:Tm}(h:ST p (fs q) s):∃r m A B,ST p q r∧Hs r (.mk 13 m [A,B])∧s=A:=by
 generalize ht:fs q=t at h
 cases h with
 | fst h1 h2=>injection ht with _ _ e;injection e with e1 e;subst e1;exact ⟨_,_,_,_,h1,h2,rfl⟩
 | bnd hk=>injection ht with e;subst e;rcases hk with hk|hk<;>cases hk
 | _=>injection ht with e;cases e
theorem ST.sn_inv {p:Nat→Tm}{q s:Tm}(h:ST p (sn q) s):∃r m A B,ST p q r∧Hs r (.mk 13 m [A,B])∧s=bX (fs q) 0 0 B:=by
 generalize ht:sn q=t at h
 cases h with
 | snd h1 h2=>injection ht with _ _ e;injection e with e1 e;subst e1;exact ⟨_,_,_,_,h1,h2,rfl⟩
 | bnd hk=>injection ht with e;subst e;rcases hk with hk|hk<;>cases hk
 | _=>injection ht with e;cases e
section
variable {U:Nat→List Tm→Tm→Prop}{i:Nat}
theorem qY (P:Pd)(H:List Tm)(v r:Tm):(fun H'=>P (H++H')) [] v r↔P H v r:=by show P (H++[]) v r↔_;rw [List.append_nil]
theorem aBh (D:List Tm)(P:Pd)(H:List Tm)(v:Tm):El T (D++H) (fun H'=>P (H++H')) [] v↔El T D P H v:=by rw [eV,List.append_nil]
theorem LR.ann (hU:∀j D v H,U j D v→U j (D++H) (up H v)){D:List Tm}{A:Tm}{P:Pd}(h:LR T U i D A P):∀{H:List Tm} {A':Tm} {P':Pd},LR T U i (D++H) A' P'→Mt (up H A) A'→∀{v r:Tm},P H v r→P H v A':=by
 induction h with
 | @uni D A j ks h1 h2 h3=>
  intro H A' P' h' hM v r hp;have h2':=fQ (by decide) (by rfl) H h2;cases h' with
  | uni g1 g2 g3=>
   have e:=(aR h2' (.inl rfl) g2 (.inl rfl) hM).2.1;rw [← e] at g2;exact ⟨g1,⟨_,g2⟩,hp.2.2⟩
  | nat g1 g2=>exact absurd (aR h2' (.inl rfl) g2 (by decide) hM).1 (by decide)
  | ne g1 g2=>exact (dS h2' (.inl rfl) g2 hM).elim
  | pi g1 g2=>exact absurd (aR h2' (.inl rfl) g2 (by decide) hM).1 (by decide)
  | sig g1 g2=>exact absurd (aR h2' (.inl rfl) g2 (by decide) hM).1 (by decide)
  | idt g1 g2=>exact absurd (aR h2' (.inl rfl) g2 (by decide) hM).1 (by decide)
 | nat h1 h2=>
  intro H A' P' h' hM v r hp;have h2':=fQ (by decide) (by rfl) H h2;cases h' with
  | uni g1 g2 g3=>exact absurd (aR h2' (by decide) g2 (.inl rfl) hM).1 (by decide)
  | nat g1 g2=>exact ⟨g1,⟨_,_,g2⟩,hp.2.2⟩
  | ne g1 g2=>exact (dS h2' (by decide) g2 hM).elim
  | pi g1 g2=>exact absurd (aR h2' (by decide) g2 (by decide) hM).1 (by decide)
  | sig g1 g2=>exact absurd (aR h2' (by decide) g2 (by decide) hM).1 (by decide)
  | idt g1 g2=>exact absurd (aR h2' (by decide) g2 (by decide) hM).1 (by decide)
 | ne h1 h2=>
  intro H A' P' h' hM v r hp;have h2':=lN h2 H;cases h' with
  | uni g1 g2 g3=>exact (dS g2 (.inl rfl) h2' hM.symm).elim
  | nat g1 g2=>exact (dS g2 (by decide) h2' hM.symm).elim
  | ne g1 g2=>exact ⟨g1,g2,hp.2.2⟩
  | pi g1 g2=>exact (dS g2 (by decide) h2' hM.symm).elim
  | sig g1 g2=>exact (dS g2 (by decide) h2' hM.symm).elim
  | idt g1 g2=>exact (dS g2 (by decide) h2' hM.symm).elim
 | @pi D A A1 B1 n P1 P2 h1 h2 h3 h4 i3 i4=>
  intro H A' P' h' hM v r hp;have h2':=gQ (.inl rfl) H h2;cases h' with
  | uni g1 g2 g3=>exact absurd (aR h2' (by decide) g2 (.inl rfl) hM).1 (by decide)
  | nat g1 g2=>exact absurd (aR h2' (by decide) g2 (by decide) hM).1 (by decide)
  | ne g1 g2=>exact (dS h2' (by decide) g2 hM).elim
  | @pi _ _ A2 B2 n2 P1' P2' g1 g2 g3 g4=>
   have hk:=(aR h2' (by decide) g2 (by decide) hM).2.2;have e1:=(h3.mono hU H).irr g3 (hk 0);obtain ⟨p1,⟨m,X,Y,p2,p3⟩,p4⟩:=hp;refine ⟨g1,⟨_,_,_,g2,fun H' u q hu he=>?_⟩,p4⟩;have g5:=g4 H' u q (by rw [← e1];exact hu) (by rw [← e1,eV];exact he);rw [List.append_assoc] at g5;rw [← List.append_nil (D++(H++H'))] at g5;have hB:Mt (up [] (bX u 0 0 (up1 (H++H') B1))) (bX u 0 0 (up1 H' B2)):=by
    rw [eW,← kW];exact Mt.sb2 (hk 1) H'
   exact i4 (H++H') u q hu he g5 hB (p3 H' u q hu he)
  | sig g1 g2=>exact absurd (aR h2' (by decide) g2 (by decide) hM).1 (by decide)
  | idt g1 g2=>exact absurd (aR h2' (by decide) g2 (by decide) hM).1 (by decide)
 | @sig D A A1 B1 n P1 P2 h1 h2 h3 h4 i3 i4=>
  intro H A' P' h' hM v r hp;have h2':=gQ (.inr (.inr rfl)) H h2;cases h' with
  | uni g1 g2 g3=>exact absurd (aR h2' (by decide) g2 (.inl rfl) hM).1 (by decide)
  | nat g1 g2=>exact absurd (aR h2' (by decide) g2 (by decide) hM).1 (by decide)
  | ne g1 g2=>exact (dS h2' (by decide) g2 hM).elim
  | pi g1 g2=>exact absurd (aR h2' (by decide) g2 (by decide) hM).1 (by decide)
  | @sig _ _ A2 B2 n2 P1' P2' g1 g2 g3 g4=>
   have hk:=(aR h2' (by decide) g2 (by decide) hM).2.2;have e1:=(h3.mono hU H).irr g3 (hk 0);obtain ⟨p1,⟨m,X,Y,p2,p3⟩,p4⟩:=hp;refine ⟨g1,⟨_,_,_,g2,fun H'=>?_⟩,p4⟩;obtain ⟨a1,a2,a3⟩:=p3 H';refine ⟨?_,a2,fun w q hw hew hmw=>?_⟩
   ·have g6:=g3.mono hU H';rw [List.append_assoc] at g6;exact i3 g6 (by rw [← kR];exact (show Mt (up H A1) A2 from hk 0).up H') a1
   ·have g5:=g4 H' w q (by rw [← e1];exact hw) (by rw [← e1,eV];exact hew);rw [List.append_assoc] at g5;rw [← List.append_nil (D++(H++H'))] at g5;have hB:Mt (up [] (bX (Go.Proofs.YtjlaenhcemacdaaGreat.fs (up H' v)) 0 0 (up1 (H++H') B1))) (bX w 0 0 (up1 H' B2)):=by
     rw [eW,← kW];exact ((hmw.symm).sbu _).trans (Mt.sb2 (hk 1) H')
    exact i4 (H++H') _ _ a1 a2 g5 hB (a3 w q hw hew hmw)
  | idt g1 g2=>exact absurd (aR h2' (by decide) g2 (by decide) hM).1 (by decide)
 | @idt D A A1 a b q1 q2 n P1 h1 h2 h3 h4 h5 h6 h7 i3=>
  intro H A' P' h' hM v r hp;have h2':=fQ (by decide) (by rfl) H h2;cases h' with
  | uni g1 g2 g3=>exact absurd (aR h2' (by decide) g2 (.inl rfl) hM).1 (by decide)
  | nat g1 g2=>exact absurd (aR h2' (by decide) g2 (by decide) hM).1 (by decide)
  | ne g1 g2=>exact (dS h2' (by decide) g2 hM).elim
  | pi g1 g2=>exact absurd (aR h2' (by decide) g2 (by decide) hM).1 (by decide)
  | sig g1 g2=>exact absurd (aR h2' (by decide) g2 (by decide) hM).1 (by decide)
  | @idt _ _ A2 a2 b2 y1 y2 n2 P1' g1 g2 g3 g4 g5 g6 g7=>
   have hk:=(aR h2' (by decide) g2 (by decide) hM).2.2;have e1:=(h3.mono hU H).irr g3 (hk 0);refine ⟨g1,⟨_,_,_,_,g2,(hk 1).symm,(hk 2).symm,fun H'=>?_⟩,hp.2.2⟩;have g8:=g3.pmono hU H' g6;have g9:=g3.emono hU H' g7;rw [← e1] at g8 g9;rw [eV] at g9;exact ⟨⟨_,g8⟩,g9⟩
def RE (T:List Tm→Tm→Prop)(U:Nat→List Tm→Tm→Prop)(i:Nat)(D:List Tm)(A v:Tm):Prop:=NeR v∧TK T D v∧∀s,ST (nR D) v s→(∃P,LR T U i D s P)∧Mt s A
theorem RE.up (hU:∀j D v H,U j D v→U j (D++H) (up H v)){D:List Tm}{A v:Tm}(h:RE T U i D A v)(H:List Tm):RE T U i (D++H) (Go.Proofs.YtjlaenhcemacdaaGreat.up H A) (Go.Proofs.YtjlaenhcemacdaaGreat.up H v):=by
 refine ⟨lN h.1 H,h.2.1.up,fun s hs=>?_⟩;obtain ⟨s0,rfl,h1⟩:=hs.up_inv;obtain ⟨⟨P,h2⟩,h3⟩:=h.2.2 s0 h1;exact ⟨⟨_,h2.mono hU H⟩,h3.up H⟩
theorem LR.ref (hT:TC T)(hU:∀j D v H,U j D v→U j (D++H) (up H v))(hUn:∀j D v,j<i→NeR v→TK T D v→U j D v){D:List Tm}{A:Tm}{P:Pd}(h:LR T U i D A P):∀{H:List Tm} {A':Tm} {P':Pd},LR T U i (D++H) A' P'→Mt (up H A) A'→∀{v:Tm},RE T U i (D++H) (up H A) v→P H v A':=by
 induction h with
 | @uni D A j ks h1 h2 h3=>
  intro H A' P' h' hM v hv;have h2':=fQ (by decide) (by rfl) H h2;cases h' with
  | uni g1 g2 g3=>
   have e:=(aR h2' (.inl rfl) g2 (.inl rfl) hM).2.1;rw [← e] at g2;exact ⟨g1,⟨_,g2⟩,hUn _ _ _ h3 hv.1 hv.2.1⟩
  | nat g1 g2=>exact absurd (aR h2' (.inl rfl) g2 (by decide) hM).1 (by decide)
  | ne g1 g2=>exact (dS h2' (.inl rfl) g2 hM).elim
  | pi g1 g2=>exact absurd (aR h2' (.inl rfl) g2 (by decide) hM).1 (by decide)
  | sig g1 g2=>exact absurd (aR h2' (.inl rfl) g2 (by decide) hM).1 (by decide)
  | idt g1 g2=>exact absurd (aR h2' (.inl rfl) g2 (by decide) hM).1 (by decide)
 | nat h1 h2=>
  intro H A' P' h' hM v hv;have h2':=fQ (by decide) (by rfl) H h2;cases h' with
  | uni g1 g2 g3=>exact absurd (aR h2' (by decide) g2 (.inl rfl) hM).1 (by decide)
  | nat g1 g2=>exact ⟨g1,⟨_,_,g2⟩,.ne hv.1⟩
  | ne g1 g2=>exact (dS h2' (by decide) g2 hM).elim
  | pi g1 g2=>exact absurd (aR h2' (by decide) g2 (by decide) hM).1 (by decide)
  | sig g1 g2=>exact absurd (aR h2' (by decide) g2 (by decide) hM).1 (by decide)
  | idt g1 g2=>exact absurd (aR h2' (by decide) g2 (by decide) hM).1 (by decide)
 | ne h1 h2=>
  intro H A' P' h' hM v hv;have h2':=lN h2 H;cases h' with
  | uni g1 g2 g3=>exact (dS g2 (.inl rfl) h2' hM.symm).elim
  | nat g1 g2=>exact (dS g2 (by decide) h2' hM.symm).elim
  | ne g1 g2=>exact ⟨g1,g2,hv.1⟩
  | pi g1 g2=>exact (dS g2 (by decide) h2' hM.symm).elim
  | sig g1 g2=>exact (dS g2 (by decide) h2' hM.symm).elim
  | idt g1 g2=>exact (dS g2 (by decide) h2' hM.symm).elim
 | @pi D A A1 B1 n P1 P2 h1 h2 h3 h4 i3 i4=>
  intro H A' P' h' hM v hv;have h2':=gQ (.inl rfl) H h2;cases h' with
  | uni g1 g2 g3=>exact absurd (aR h2' (by decide) g2 (.inl rfl) hM).1 (by decide)
  | nat g1 g2=>exact absurd (aR h2' (by decide) g2 (by decide) hM).1 (by decide)
  | ne g1 g2=>exact (dS h2' (by decide) g2 hM).elim
  | @pi _ _ A2 B2 n2 P1' P2' g1 g2 g3 g4=>
   have hk:=(aR h2' (by decide) g2 (by decide) hM).2.2;have e1:=(h3.mono hU H).irr g3 (hk 0);refine ⟨g1,⟨_,_,_,g2,fun H' u q hu he=>?_⟩,.inl hv.1⟩;have g5:=g4 H' u q (by rw [← e1];exact hu) (by rw [← e1,eV];exact he);rw [List.append_assoc] at g5;rw [← List.append_nil (D++(H++H'))] at g5;have hB:Mt (up [] (bX u 0 0 (up1 (H++H') B1))) (bX u 0 0 (up1 H' B2)):=by
    rw [eW,← kW];exact Mt.sb2 (hk 1) H'
   refine i4 (H++H') u q hu he g5 hB ?_;have hv':=hv.up hU H';rw [List.append_assoc] at hv';rw [List.append_nil,eW];refine ⟨aQu hv'.1 u,TK.ap hT hv'.2.1 he.1,fun s hs=>?_⟩;obtain ⟨s0,m,X,Y,hs1,hs2,rfl⟩:=hs.ap_inv;obtain ⟨⟨Q,q1⟩,q2⟩:=hv'.2.2 s0 hs1;obtain ⟨Q1,Q2,rfl,q3,q4⟩:=q1.pi_inv hs2;have hk2:=(aR (gQ (.inl rfl) (H++H') h2) (by decide) hs2 (by decide) (by rw [← kR];exact q2.symm)).2.2;have h3':=h3.mono hU (H++H');have e2:=h3'.irr q3 (hk2 0);have q5:=q4 [] u q (by rw [← e2,qY];exact hu) (by rw [← e2,aBh];exact he);rw [List.append_nil,kD] at q5;exact ⟨⟨_,q5⟩,(Mt.sb (hk2 1) u).symm⟩
  | sig g1 g2=>exact absurd (aR h2' (by decide) g2 (by decide) hM).1 (by decide)
  | idt g1 g2=>exact absurd (aR h2' (by decide) g2 (by decide) hM).1 (by decide)
 | @sig D A A1 B1 n P1 P2 h1 h2 h3 h4 i3 i4=>
  intro H A' P' h' hM v hv;have h2':=gQ (.inr (.inr rfl)) H h2;cases h' with
  | uni g1 g2 g3=>exact absurd (aR h2' (by decide) g2 (.inl rfl) hM).1 (by decide)
  | nat g1 g2=>exact absurd (aR h2' (by decide) g2 (by decide) hM).1 (by decide)
  | ne g1 g2=>exact (dS h2' (by decide) g2 hM).elim
  | pi g1 g2=>exact absurd (aR h2' (by decide) g2 (by decide) hM).1 (by decide)
  | @sig _ _ A2 B2 n2 P1' P2' g1 g2 g3 g4=>
   have hk:=(aR h2' (by decide) g2 (by decide) hM).2.2;have e1:=(h3.mono hU H).irr g3 (hk 0);refine ⟨g1,⟨_,_,_,g2,fun H'=>?_⟩,.inl hv.1⟩;have hv':=hv.up hU H';rw [List.append_assoc] at hv';have h3':=h3.mono hU (H++H');have rf:RE T U i (D++(H++H')) (up (H++H') A1) (Go.Proofs.YtjlaenhcemacdaaGreat.fs (up H' v)):=by
    refine ⟨aQc hv'.1,TK.fs hT hv'.2.1,fun s hs=>?_⟩;obtain ⟨s0,m,X,Y,hs1,hs2,rfl⟩:=hs.fs_inv;obtain ⟨⟨Q,q1⟩,q2⟩:=hv'.2.2 s0 hs1;obtain ⟨Q1,Q2,rfl,q3,q4⟩:=q1.sig_inv hs2;have hk2:=(aR (gQ (.inr (.inr rfl)) (H++H') h2) (by decide) hs2 (by decide) (by rw [← kR];exact q2.symm)).2.2;exact ⟨⟨_,q3⟩,(hk2 0).symm⟩
   have a1:∀{s:Tm} {Q:Pd},LR T U i (D++(H++H')) s Q→Mt (up (H++H') A1) s→P1 (H++H') (Go.Proofs.YtjlaenhcemacdaaGreat.fs (up H' v)) s:=fun hs hm=>i3 hs hm rf
   have a2:El T D P1 (H++H') (Go.Proofs.YtjlaenhcemacdaaGreat.fs (up H' v)):=⟨rf.2.1,fun s hs=>by
    obtain ⟨⟨Q,q1⟩,q2⟩:=rf.2.2 s hs;exact a1 q1 q2.symm⟩
   have g6:=g3.mono hU H';rw [List.append_assoc] at g6;have a0:=a1 g6 (by rw [← kR];exact (show Mt (up H A1) A2 from hk 0).up H');refine ⟨a0,a2,fun w q hw hew hmw=>?_⟩;have g5:=g4 H' w q (by rw [← e1];exact hw) (by rw [← e1,eV];exact hew);rw [List.append_assoc] at g5;rw [← List.append_nil (D++(H++H'))] at g5;have hB:Mt (up [] (bX (Go.Proofs.YtjlaenhcemacdaaGreat.fs (up H' v)) 0 0 (up1 (H++H') B1))) (bX w 0 0 (up1 H' B2)):=by
    rw [eW,← kW];exact ((hmw.symm).sbu _).trans (Mt.sb2 (hk 1) H')
   refine i4 (H++H') _ _ a0 a2 g5 hB ?_;rw [List.append_nil,eW];refine ⟨aRn hv'.1,uM hT hv'.2.1,fun s hs=>?_⟩;obtain ⟨s0,m,X,Y,hs1,hs2,rfl⟩:=hs.sn_inv;obtain ⟨⟨Q,q1⟩,q2⟩:=hv'.2.2 s0 hs1;obtain ⟨Q1,Q2,rfl,q3,q4⟩:=q1.sig_inv hs2;have hk2:=(aR (gQ (.inr (.inr rfl)) (H++H') h2) (by decide) hs2 (by decide) (by rw [← kR];exact q2.symm)).2.2;have e2:=h3'.irr q3 (hk2 0);have q5:=q4 [] _ _ (by rw [← e2,qY];exact a0) (by rw [← e2,aBh];exact a2);rw [List.append_nil,kD] at q5;exact ⟨⟨_,q5⟩,(Mt.sb (hk2 1) _).symm⟩
  | idt g1 g2=>exact absurd (aR h2' (by decide) g2 (by decide) hM).1 (by decide)
 | @idt D A A1 a b q1 q2 n P1 h1 h2 h3 h4 h5 h6 h7 i3=>
  intro H A' P' h' hM v hv;have h2':=fQ (by decide) (by rfl) H h2;cases h' with
  | uni g1 g2 g3=>exact absurd (aR h2' (by decide) g2 (.inl rfl) hM).1 (by decide)
  | nat g1 g2=>exact absurd (aR h2' (by decide) g2 (by decide) hM).1 (by decide)
  | ne g1 g2=>exact (dS h2' (by decide) g2 hM).elim
  | pi g1 g2=>exact absurd (aR h2' (by decide) g2 (by decide) hM).1 (by decide)
  | sig g1 g2=>exact absurd (aR h2' (by decide) g2 (by decide) hM).1 (by decide)
  | @idt _ _ A2 a2 b2 y1 y2 n2 P1' g1 g2 g3 g4 g5 g6 g7=>
   have hk:=(aR h2' (by decide) g2 (by decide) hM).2.2;have e1:=(h3.mono hU H).irr g3 (hk 0);refine ⟨g1,⟨_,_,_,_,g2,(hk 1).symm,(hk 2).symm,fun H'=>?_⟩,.inl hv.1⟩;have g8:=g3.pmono hU H' g6;have g9:=g3.emono hU H' g7;rw [← e1] at g8 g9;rw [eV] at g9;exact ⟨⟨_,g8⟩,g9⟩
theorem NeR.heads {v v':Tm}(h:NeR v')(hs:Hs v v'):NeR v:=by obtain ⟨x,h1,h2⟩:=h;exact ⟨x,hs.trans h1,h2⟩
theorem Nt.head {D:List Tm}{v v':Tm}(h:Nt T D v')(hs:Hs v v'):Nt T D v:=by
 cases h with
 | zer h=>exact .zer (hs.trans h)
 | suc h1 h2 h3 h4=>exact .suc (hs.trans h1) h2 h3 h4
 | ne h=>obtain ⟨u,h1,h2⟩:=h;exact .ne ⟨u,hs.trans h1,h2⟩
theorem LR.hed (hT:TC T)(hU:∀j D v H,U j D v→U j (D++H) (up H v))(hUh:∀j D v v',Hs v v'→TK T D v→U j D v'→U j D v){D:List Tm}{A:Tm}{P:Pd}(h:LR T U i D A P):∀{H:List Tm} {v v':Tm},Hs v v'→TK T (D++H) v→(∀s,ST (nR (D++H)) v s→P H v' s)→∀{r:Tm},P H v' r→P H v r:=by
 induction h with
 | uni h1 h2 h3=>exact fun hs ht hr r hp=>⟨hp.1,hp.2.1,hUh _ _ _ _ hs ht hp.2.2⟩
 | nat h1 h2=>exact fun hs ht hr r hp=>⟨hp.1,hp.2.1,hp.2.2.head hs⟩
 | ne h1 h2=>exact fun hs ht hr r hp=>⟨hp.1,hp.2.1,hp.2.2.heads hs⟩
 | @pi D A A1 B1 n P1 P2 h1 h2 h3 h4 i3 i4=>
  intro H v v' hs ht hr r hp;obtain ⟨p1,⟨m,X,Y,p2,p3⟩,p4⟩:=hp;refine ⟨p1,⟨m,X,Y,p2,fun H' u q hu he=>?_⟩,?_⟩
  ·have ht':=ht.up (H:=H');rw [List.append_assoc] at ht';refine i4 (H++H') u q hu he (aPh (xY H' hs) u) ?_ (fun s hss=>?_) (p3 H' u q hu he)
   ·rw [List.append_nil];exact TK.ap hT ht' he.1
   ·rw [List.append_nil] at hss;obtain ⟨s0,m',X',Y',hs1,hs2,rfl⟩:=hss.ap_inv;rw [← List.append_assoc] at hs1;obtain ⟨s1,rfl,hs3⟩:=hs1.up_inv;obtain ⟨_,⟨m2,X2,Y2,c2,c3⟩,_⟩:=hr s1 hs3;have:=(gQ (.inl rfl) H' c2).one_of hs2 (by decide) (by decide);injection this with _ _ e;injection e with _ e;injection e with e _;subst e;exact c3 H' u q hu he
  ·rcases p4 with p4|⟨n,ks,p4⟩
   ·obtain ⟨x,h1,h2⟩:=p4;exact .inl ⟨x,hs.trans h1,h2⟩
   ·exact .inr ⟨n,ks,.trans hs p4⟩
 | @sig D A A1 B1 n P1 P2 h1 h2 h3 h4 i3 i4=>
  intro H v v' hs ht hr r hp;obtain ⟨p1,⟨m,X,Y,p2,p3⟩,p4⟩:=hp;refine ⟨p1,⟨m,X,Y,p2,fun H'=>?_⟩,?_⟩
  ·have ht':=ht.up (H:=H');rw [List.append_assoc] at ht';obtain ⟨a1,a2,a3⟩:=p3 H';have hf:=aPe (xY H' hs);have hrf:∀s,ST (nR (D++(H++H'))) (Go.Proofs.YtjlaenhcemacdaaGreat.fs (up H' v)) s→P1 (H++H') (Go.Proofs.YtjlaenhcemacdaaGreat.fs (up H' v')) s:=fun s hss=>by
    obtain ⟨s0,m',X',Y',hs1,hs2,rfl⟩:=hss.fs_inv;rw [← List.append_assoc] at hs1;obtain ⟨s1,rfl,hs3⟩:=hs1.up_inv;obtain ⟨_,⟨m2,X2,Y2,c2,c3⟩,_⟩:=hr s1 hs3;have:=(gQ (.inr (.inr rfl)) H' c2).one_of hs2 (by decide) (by decide);injection this with _ _ e;injection e with e _;subst e;exact (c3 H').1
   have htf:=TK.fs hT ht';have b1:∀{s:Tm},P1 (H++H') (Go.Proofs.YtjlaenhcemacdaaGreat.fs (up H' v')) s→P1 (H++H') (Go.Proofs.YtjlaenhcemacdaaGreat.fs (up H' v)) s:=fun hp=>i3 hf htf hrf hp
   have b2:El T D P1 (H++H') (Go.Proofs.YtjlaenhcemacdaaGreat.fs (up H' v)):=⟨htf,fun s hss=>b1 (hrf s hss)⟩;have hmf:Mt (Go.Proofs.YtjlaenhcemacdaaGreat.fs (up H' v)) (Go.Proofs.YtjlaenhcemacdaaGreat.fs (up H' v')):=hf.ps.mt;have e2:P2 (H++H') (Go.Proofs.YtjlaenhcemacdaaGreat.fs (up H' v))=P2 (H++H') (Go.Proofs.YtjlaenhcemacdaaGreat.fs (up H' v')):=(h4 _ _ _ (b1 a1) b2).irr (h4 _ _ _ a1 a2) (hmf.sbu _);refine ⟨b1 a1,b2,fun w q hw hew hmw=>?_⟩;refine i4 (H++H') _ _ (b1 a1) b2 (aPw (xY H' hs)) ?_ (fun s hss=>?_) (by rw [e2];exact a3 w q hw hew (hmw.trans hmf))
   ·rw [List.append_nil];exact uM hT ht'
   ·rw [List.append_nil] at hss;obtain ⟨s0,m',X',Y',hs1,hs2,rfl⟩:=hss.sn_inv;rw [← List.append_assoc] at hs1;obtain ⟨s1,rfl,hs3⟩:=hs1.up_inv;obtain ⟨_,⟨m2,X2,Y2,c2,c3⟩,_⟩:=hr s1 hs3;have:=(gQ (.inr (.inr rfl)) H' c2).one_of hs2 (by decide) (by decide);injection this with _ _ e;injection e with _ e;injection e with e _;subst e;rw [e2];exact (c3 H').2.2 _ _ (b1 a1) b2 hmf
  ·rcases p4 with p4|⟨n,ks,p4⟩
   ·obtain ⟨x,h1,h2⟩:=p4;exact .inl ⟨x,hs.trans h1,h2⟩
   ·exact .inr ⟨n,ks,.trans hs p4⟩
 | idt h1 h2 h3 h4 h5 h6 h7 i3=>
  intro H v v' hs ht hr r hp;obtain ⟨p1,p2,p6⟩:=hp;refine ⟨p1,p2,?_⟩;rcases p6 with p6|⟨n,c,p6,p7⟩
  ·obtain ⟨x,h1,h2⟩:=p6;exact .inl ⟨x,hs.trans h1,h2⟩
  ·exact .inr ⟨n,c,.trans hs p6,p7⟩
end
theorem LR.exps {T:List Tm→Tm→Prop}{U:Nat→List Tm→Tm→Prop}{i:Nat}{D:List Tm}{A A':Tm}{P:Pd}(h:LR T U i D A' P)(hs:Hs A A')(ht:TK T D A):LR T U i D A P:=by
 cases h with
 | uni h1 h2 h3=>exact .uni ht (hs.trans h2) h3
 | nat h1 h2=>exact .nat ht (hs.trans h2)
 | ne h1 h2=>obtain ⟨u,h3,h4⟩:=h2;exact .ne ht ⟨u,hs.trans h3,h4⟩
 | pi h1 h2 h3 h4=>exact .pi ht (hs.trans h2) h3 h4
 | sig h1 h2 h3 h4=>exact .sig ht (hs.trans h2) h3 h4
 | idt h1 h2 h3 h4 h5 h6 h7=>exact .idt ht (hs.trans h2) h3 h4 h5 h6 h7
def UU (T:List Tm→Tm→Prop):Nat→Nat→List Tm→Tm→Prop
 | 0=>fun _ _ _=>False
 | i+1=>fun j D v=>if j=i then ∃P,LR T (UU T i) i D v P else UU T i j D v
variable {T:List Tm→Tm→Prop}
theorem yO:∀{i j:Nat} {D:List Tm} {v:Tm},j<i→(UU T i j D v↔∃P,LR T (UU T j) j D v P)
 | i+1,j,D,v,h=>by
  show (if j=i then ∃P,LR T (UU T i) i D v P else UU T i j D v)↔_
  by_cases hj:j=i
  ·rw [if_pos hj,hj]
  ·rw [if_neg hj];exact yO (by omega)
theorem tM:∀(i j:Nat) (D:List Tm) (v:Tm) (H:List Tm),UU T i j D v→UU T i j (D++H) (up H v)
 | i+1,j,D,v,H,h=>by
  show (if j=i then ∃P,LR T (UU T i) i (D++H) (up H v) P else UU T i j (D++H) (up H v))
  change (if j=i then ∃P,LR T (UU T i) i D v P else UU T i j D v) at h
  by_cases hj:j=i
  ·rw [if_pos hj] at h⊢;obtain ⟨P,h⟩:=h;exact ⟨_,h.mono (tM i) H⟩
  ·rw [if_neg hj] at h⊢;exact tM i j D v H h
theorem aTk (i j:Nat)(D:List Tm)(v:Tm)(hj:j<i)(hn:NeR v)(ht:TK T D v):UU T i j D v:=(yO hj).2 ⟨_,.ne ht hn⟩
theorem aPi:∀(i j:Nat) (D:List Tm) (v v':Tm),Hs v v'→TK T D v→UU T i j D v'→UU T i j D v
 | i+1,j,D,v,v',hs,ht,h=>by
  show (if j=i then ∃P,LR T (UU T i) i D v P else UU T i j D v)
  change (if j=i then ∃P,LR T (UU T i) i D v' P else UU T i j D v') at h
  by_cases hj:j=i
  ·rw [if_pos hj] at h⊢;obtain ⟨P,h⟩:=h;exact ⟨_,h.exps hs ht⟩
  ·rw [if_neg hj] at h⊢;exact aPi i j D v v' hs ht h
theorem LR.lift {i m:Nat}(hm:i≤m){D:List Tm}{A:Tm}{P:Pd}(h:LR T (UU T i) i D A P):LR T (UU T m) m D A P:=by
 induction h with
 | @uni D A j ks h1 h2 h3=>
  have e:UP T (UU T i) D j=UP T (UU T m) D j:=by
   funext H v r
   unfold UP
   rw [propext (yO (T:=T) (D:=D++H) (v:=v) h3),propext (yO (T:=T) (i:=m) (D:=D++H) (v:=v) (by omega))]
  rw [e];exact .uni h1 h2 (by omega)
 | nat h1 h2=>exact .nat h1 h2
 | ne h1 h2=>exact .ne h1 h2
 | pi h1 h2 h3 h4 i3 i4=>exact .pi h1 h2 i3 fun H u q hu he=>i4 H u q hu he
 | sig h1 h2 h3 h4 i3 i4=>exact .sig h1 h2 i3 fun H u q hu he=>i4 H u q hu he
 | idt h1 h2 h3 h4 h5 h6 h7 i3=>exact .idt h1 h2 i3 h4 h5 h6 h7
abbrev RT (T:List Tm→Tm→Prop)(D:List Tm)(A:Tm)(P:Pd):Prop:=LR T (UU T 4) 4 D A P
theorem RT.pmono {D:List Tm}{A:Tm}{P:Pd}(h:RT T D A P){H:List Tm}(H':List Tm){v r:Tm}(hp:P H v r):P (H++H') (up H' v) (up H' r):=LR.pmono (tM 4) h H' hp
theorem RT.emono {D:List Tm}{A:Tm}{P:Pd}(h:RT T D A P){H:List Tm}(H':List Tm){v:Tm}(hp:El T D P H v):El T D P (H++H') (up H' v):=LR.emono (tM 4) h H' hp
theorem RT.mono {D:List Tm}{A:Tm}{P:Pd}(h:RT T D A P)(H:List Tm):RT T (D++H) (up H A) (fun H'=>P (H++H')):=LR.mono (tM 4) h H
theorem RT.ann {D:List Tm}{A A':Tm}{P P':Pd}(h:RT T D A P)(h':RT T D A' P')(hM:Mt A A'){v r:Tm}(hp:P [] v r):P [] v A':=LR.ann (tM 4) h (H:=[]) (P':=P') (by rw [List.append_nil];exact h') (by rw [eW];exact hM) hp
theorem RT.ref (hT:TC T){D:List Tm}{A A' v:Tm}{P P':Pd}(h:RT T D A P)(h':RT T D A' P')(hM:Mt A A')(hv:RE T (UU T 4) 4 D A v):P [] v A':=LR.ref hT (tM 4) (aTk 4) h (H:=[]) (P':=P') (by rw [List.append_nil];exact h') (by rw [eW];exact hM) (by rw [List.append_nil,eW];exact hv)
theorem RT.hed (hT:TC T){D:List Tm}{A v v' r:Tm}{P:Pd}(h:RT T D A P)(hs:Hs v v')(ht:TK T D v)(hr:∀s,ST (nR D) v s→P [] v' s)(hp:P [] v' r):P [] v r:=LR.hed hT (tM 4) (aPi 4) h (H:=[]) hs (by rw [List.append_nil];exact ht) (by rw [List.append_nil];exact hr) hp
theorem RT.ty {D:List Tm}{A:Tm}{j:Int}{ks:List Tm}{P:Pd}{v r:Tm}(h:RT T D A P)(hs:Hs A (.mk 2 j ks))(hp:P [] v r):∃l:Nat,j=(l:Int)∧l<4∧∃Q,LR T (UU T l) l D v Q:=by
 obtain ⟨l,h1,h2,rfl⟩:=kC h hs;have:=(yO h2).1 hp.2.2;rw [List.append_nil] at this;exact ⟨l,h1,h2,this⟩
inductive SS (T:List Tm→Tm→Prop) (D:List Tm):List Tm→(Nat→Tm)→(Nat→Tm)→Prop
 | nil {s p:Nat→Tm}:SS T D [] s p
 | snoc {G:List Tm} {A:Tm} {s p:Nat→Tm} {P:Pd}:SS T D G (fun n=>s (n+1)) (fun n=>p (n+1))→RT T D (ins (fun n=>s (n+1)) A) P→P [] (s 0) (p 0)→El T D P [] (s 0)→cV A=true→SS T D (G++[A]) s p
theorem SS.push {D G:List Tm}{A v q:Tm}{s p:Nat→Tm}{P:Pd}(h:SS T D G s p)(hA:RT T D (ins s A) P)(hp:P [] v q)(he:El T D P [] v)(hw:cV A=true):SS T D (G++[A]) (sC v s) (sC q p):=.snoc h hA hp he hw
theorem gD (H:List Tm)(s:Nat→Tm){t:Tm}(hw:cV t=true):up H (ins s t)=ins (fun n=>up H (s n)) t:=(aFa (H.length:Int) (by omega)).1 t s 0 hw (by decide)
theorem SS.up {D G:List Tm}{s p:Nat→Tm}(h:SS T D G s p)(H:List Tm):SS T (D++H) G (fun n=>Go.Proofs.YtjlaenhcemacdaaGreat.up H (s n)) (fun n=>Go.Proofs.YtjlaenhcemacdaaGreat.up H (p n)):=by
 induction h with
 | nil=>exact .nil
 | @snoc G A s p P h1 h2 h3 h4 h5 ih=>
  have h6:=h2.mono H;rw [gD H _ h5] at h6;refine .snoc ih h6 ?_ ?_ h5
  ·have:=h2.pmono H h3;show P (H++[]) _ _
   rw [List.append_nil];exact this
  ·have:=h2.emono H h4;rw [aBh];exact this
theorem SS.real {D G:List Tm}{s p:Nat→Tm}(h:SS T D G s p):∀{p':Nat→Tm},(∀n,p' n=p n∨ST (nR D) (s n) (p' n))→SS T D G s p':=by
 induction h with
 | nil=>exact fun _=>.nil
 | @snoc G A s p P h1 h2 h3 h4 h5 ih=>
  intro p' hp;refine .snoc (ih fun n=>hp (n+1)) h2 ?_ h4 h5;rcases hp 0 with h|h
  ·rw [h];exact h3
  ·exact h4.2 _ (by rw [List.append_nil];exact h)
theorem wf_sh:(∀(t:Tm) (b c:Int),cV t=true→0≤b→cV (bT b c t)=true)∧∀(ts:List Tm) (b k c:Int) (i:Nat),oK ts=true→0≤b→oK (bN b k c i ts)=true:=by
 refine bA (fun k n ks ih b c hw hb=>?_) (fun b k c i hw hb=>rfl) (fun t ts h1 h2 b k c i hw hb=>?_)
 ·rw [bT];obtain ⟨h1,h2⟩:=wf_iff.1 hw;refine wf_iff.2 ⟨fun e=>?_,ih b k c 0 h2 hb⟩;obtain ⟨h3,rfl⟩:=h1 e;exact ⟨by split<;>omega,rfl⟩
 ·rw [oK,Bool.and_eq_true] at hw;rw [bN,oK,h1 _ _ hw.1 hb,h2 _ _ _ _ hw.2 hb];rfl
theorem SS.wf {D G:List Tm}{s p:Nat→Tm}(h:SS T D G s p):∀n,cV (nR G n)=true:=by
 induction h with
 | nil=>intro n;rw [nR,if_neg (by simp)];rfl
 | @snoc G A s p P h1 h2 h3 h4 h5 ih=>
  intro n;rw [mE];cases n with
  | zero=>exact wf_sh.1 _ _ _ h5 (by decide)
  | succ n=>exact wf_sh.1 _ _ _ (ih n) (by decide)
theorem SS.get {D G:List Tm}{s p:Nat→Tm}(h:SS T D G s p):∀n,n<G.length→∃P,RT T D (ins s (nR G n)) P∧P [] (s n) (p n)∧El T D P [] (s n):=by
 induction h with
 | nil=>exact fun n hn=>absurd hn (Nat.not_lt_zero _)
 | @snoc G A s p P h1 h2 h3 h4 h5 ih=>
  intro n hn;rw [mE];cases n with
  | zero=>
   refine ⟨P,?_,h3,h4⟩;have:=rZ 1 s h5;rw [lfa,show (1:Int)=((1:Nat):Int) from rfl,this];exact h2
  | succ n=>
   obtain ⟨Q,h6,h7,h8⟩:=ih n (by simpa using hn);refine ⟨Q,?_,h7,h8⟩;have:=rZ 1 s (h1.wf n);rw [lfa,show (1:Int)=((1:Nat):Int) from rfl,this];exact h6
theorem SS.lift (hT:TC T){D G:List Tm}{A:Tm}{s p:Nat→Tm}{P:Pd}(h:SS T D G s p)(hA:RT T D (ins s A) P)(hw:cV A=true):SS T (D++[ins s A]) (G++[A]) (lft s) (lfa (ins s A) p):=by
 have h1:=h.up [ins s A];have h2:=hA.mono [ins s A];have ht:TK T (D++[ins s A]) (.mk 1 0 []):=fun H=>by
  rw [Go.Proofs.YtjlaenhcemacdaaGreat.up,kO (by decide),bN];exact hT.node _ 1 _ [] rfl (by decide) fun i hi=>absurd hi (Nat.not_lt_zero _)
 have hs:∀u,ST (nR (D++[ins s A])) (.mk 1 0 []) u→u=Go.Proofs.YtjlaenhcemacdaaGreat.up [ins s A] (ins s A):=fun u hu=>by
  cases hu with
  | var _=>rw [mE];rfl
 have hre:RE T (UU T 4) 4 (D++[ins s A]) (Go.Proofs.YtjlaenhcemacdaaGreat.up [ins s A] (ins s A)) (.mk 1 0 []):=⟨⟨_,.refl _,.var _ _⟩,ht,fun u hu=>by
  rw [hs u hu];exact ⟨⟨_,h2⟩,.refl _⟩⟩
 have h3:=h2.ref hT h2 (.refl _) hre;rw [gD _ _ hw] at h2;refine .snoc h1 h2 h3 ⟨by rw [List.append_nil];exact ht,fun u hu=>?_⟩ hw;rw [List.append_nil] at hu;rw [hs u hu];exact h3
theorem ST.det {p:Nat→Tm}{t u:Tm}(h:ST p t u):∀{u':Tm},ST p t u'→u=u':=by
 induction h with
 | var _=>intro u' h';cases h' with
  | var _=>rfl
  | bnd hk=>rcases hk with hk|hk<;>cases hk
 | srt=>intro u' h';cases h' with
  | srt=>rfl
  | bnd hk=>rcases hk with hk|hk<;>cases hk
 | nat=>intro u' h';cases h' with
  | nat=>rfl
  | bnd hk=>rcases hk with hk|hk<;>cases hk
 | zer=>intro u' h';cases h' with
  | zer=>rfl
  | bnd hk=>rcases hk with hk|hk<;>cases hk
 | suc=>intro u' h';cases h' with
  | suc=>rfl
  | bnd hk=>rcases hk with hk|hk<;>cases hk
 | @bnd p k n i j A B a b ka kb hk h1 hs1 h2 hs2 i1 i2=>
  intro u' h';generalize ht:Tm.mk k n [A,B]=t at h'
  cases h' with
  | bnd hk' g1 gs1 g2 gs2=>
   injection ht with e1 e2 e3;injection e3 with e3 e4;injection e4 with e4 _;subst e1 e2 e3 e4;have x:=i1 g1;have y:=i2 g2;subst x y;have x:=hs1.one_of gs1 (.inl rfl) (.inl rfl);have y:=hs2.one_of gs2 (.inl rfl) (.inl rfl);injection x with _ x;injection y with _ y;subst x y;rfl
  | lam=>injection ht with e;subst e;rcases hk with hk|hk<;>cases hk
  | app=>injection ht with e;subst e;rcases hk with hk|hk<;>cases hk
  | _=>injection ht with e1 e2 e3;subst e1;rcases hk with hk|hk<;>cases hk
 | lam h1 i1=>
  intro u' h';cases h' with
  | lam g1=>rw [i1 g1]
  | bnd hk=>rcases hk with hk|hk<;>cases hk
 | app h1 hs1 i1=>
  intro u' h';cases h' with
  | app g1 gs1=>
   have x:=i1 g1;subst x;have x:=hs1.one_of gs1 (by decide) (by decide);injection x with _ _ x;injection x with _ x;injection x with x _;rw [x]
  | bnd hk=>rcases hk with hk|hk<;>cases hk
 | elm=>intro u' h';cases h' with
  | elm=>rfl
 | idt h1 hs1 i1=>
  intro u' h';cases h' with
  | idt g1 gs1=>
   have x:=i1 g1;subst x;have x:=hs1.one_of gs1 (.inl rfl) (.inl rfl);injection x with _ x;rw [x]
 | rfx h1 i1=>intro u' h';cases h' with
  | rfx g1=>rw [i1 g1]
 | mov h1 hs1 i1=>
  intro u' h';cases h' with
  | mov g1 gs1=>
   have x:=i1 g1;subst x;have x:=hs1.one_of gs1 (by decide) (by decide);injection x with _ _ x;injection x with _ x;injection x with _ x;injection x with x _;rw [x]
 | pai=>intro u' h';cases h' with
  | pai=>rfl
 | fst h1 hs1 i1=>
  intro u' h';cases h' with
  | fst g1 gs1=>
   have x:=i1 g1;subst x;have x:=hs1.one_of gs1 (by decide) (by decide);injection x with _ _ x;injection x with x _
 | snd h1 hs1 i1=>
  intro u' h';cases h' with
  | snd g1 gs1=>
   have x:=i1 g1;subst x;have x:=hs1.one_of gs1 (by decide) (by decide);injection x with _ _ x;injection x with _ x;injection x with x _;rw [x]
theorem Pr.ins {t u:Tm}(h:Pr t u):∀(s:Nat→Tm),cV t=true→Pr (Go.Proofs.YtjlaenhcemacdaaGreat.ins s t) (Go.Proofs.YtjlaenhcemacdaaGreat.ins s u)∧cV u=true:=by
 induction h with
 | @node k n ks ls hl hk ih=>
  intro s hw;have hw2:=wf_iff.1 hw;refine ⟨?_,wf_iff.2 ⟨fun e=>⟨(hw2.1 e).1,by have:=(hw2.1 e).2;subst this;exact List.length_eq_zero_iff.1 hl.symm⟩,wfL_iff.2 fun t ht=>?_⟩⟩
  ·by_cases h1:k=1
   ·subst h1;rw [eE,eE];exact .refl _
   ·rw [dH h1,dH h1];refine (PrL.of (by rw [eG,eG];exact hl) fun i hi=>?_).node k n;rw [eG] at hi;rw [kL,kL];exact (ih i hi _ (cN hw i)).1
  ·obtain ⟨i,hi,rfl⟩:=List.getElem_of_mem ht;have:=(ih i (by omega) s (cN hw i)).2;rwa [cK hi] at this
 | @red k n ks ls hr hl hk ih=>
  intro s hw;have hP:PrL ks ls:=PrL.of hl hk;have hk1:k≠1:=by have:=tP hr;omega
  have hr2:rdx k ls≠0:=by rw [hP.rdx hr];exact hr
  have hw2:cV (.mk k n ls)=true:=wf_iff.2 ⟨fun e=>absurd e hk1,wfL_iff.2 fun t ht=>by
   obtain ⟨i,hi,rfl⟩:=List.getElem_of_mem ht;have:=(ih i (by omega) s (cN hw i)).2;rwa [cK hi] at this⟩
  refine ⟨?_,aLc hw2 hr2⟩;rw [aFo hw2 hr2,dH hk1,dH hk1];refine (PrL.of (by rw [eG,eG];exact hl) fun i hi=>?_).red n (by rw [aAg hr];exact hr);rw [eG] at hi;rw [kL,kL];exact (ih i hi _ (cN hw i)).1
theorem Ps.ins {t u:Tm}(h:Ps t u)(s:Nat→Tm):cV t=true→Ps (Go.Proofs.YtjlaenhcemacdaaGreat.ins s t) (Go.Proofs.YtjlaenhcemacdaaGreat.ins s u):=by
 induction h with
 | refl t=>exact fun _=>.refl _
 | step h1 _ ih=>exact fun hw=>.step (h1.ins s hw).1 (ih (h1.ins s hw).2)
theorem Mt.ins {a b:Tm}(h:Mt a b)(s:Nat→Tm)(ha:cV a=true)(hb:cV b=true):Mt (Go.Proofs.YtjlaenhcemacdaaGreat.ins s a) (Go.Proofs.YtjlaenhcemacdaaGreat.ins s b):=by obtain ⟨c,h1,h2⟩:=h;exact ⟨_,h1.ins s ha,h2.ins s hb⟩
variable {T:List Tm→Tm→Prop}
def Sem (T:List Tm→Tm→Prop)(D:List Tm)(σ ρ:Nat→Tm)(t s:Tm):Prop:=∃P,RT T D (ins σ s) P∧(∃r,An σ ρ t r)∧(∀r,An σ ρ t r→P [] (ins σ t) r)∧T D (ins σ t)
def Val (T:List Tm→Tm→Prop)(G:List Tm)(t s:Tm):Prop:=∀D σ ρ,SS T D G σ ρ→Sem T D σ ρ t s
theorem aFw (q σ ρ:Nat→Tm):∃ρ':Nat→Tm,RealT q σ ρ'∧∀n,ρ' n=ρ n∨ST q (σ n) (ρ' n):=by
 have h:∀n,∃u,(∀v,ST q (σ n) v→v=u)∧(u=ρ n∨ST q (σ n) u):=fun n=>by
  by_cases h:∃u,ST q (σ n) u
  ·obtain ⟨u,hu⟩:=h;exact ⟨u,fun v hv=>hv.det hu,.inr hu⟩
  ·exact ⟨ρ n,fun v hv=>absurd ⟨v,hv⟩ h,.inl rfl⟩
 obtain ⟨f,hf⟩:=Classical.axiomOfChoice h;exact ⟨f,fun n u hu=>(hf n).1 u hu,fun n=>(hf n).2⟩
theorem Val.get {G:List Tm}{t s:Tm}(h:Val T G t s)(hw:cV t=true){D:List Tm}{σ ρ:Nat→Tm}(hS:SS T D G σ ρ) :
  ∃P,RT T D (ins σ s) P∧(∃r,An σ ρ t r∧P [] (ins σ t) r)∧(∀r,An σ ρ t r→P [] (ins σ t) r)∧El T D P [] (ins σ t)∧T D (ins σ t):=by
 obtain ⟨P,h1,⟨r,h2⟩,h3,h4⟩:=h D σ ρ hS;refine ⟨P,h1,⟨r,h2,h3 r h2⟩,h3,⟨fun H=>?_,fun u hu=>?_⟩,h4⟩
 ·rw [List.append_nil,gD H σ hw];obtain ⟨_,_,_,_,h5⟩:=h _ _ _ (hS.up H);exact h5
 ·rw [List.append_nil] at hu;obtain ⟨ρ',h5,h6⟩:=aFw (nR D) σ ρ;obtain ⟨Q,h7,_,h8,_⟩:=h _ _ _ (hS.real h6);rw [h1.irr h7 (.refl _)];exact h8 u (hu.an hw rfl h5)
theorem oT {σ:Nat→Tm}{a:Tm}{l:Int}{ka:List Tm}(h:Hs a (.mk 2 l ka))(hw:cV a=true):∃ka',Hs (ins σ a) (.mk 2 l ka'):=by
 have:=(h.ins σ hw).1;rw [dH (by decide)] at this;exact ⟨_,this⟩
theorem mW {σ:Nat→Tm}{a A B:Tm}{k m:Int}(hk:k=3∨k=13)(h:Hs a (.mk k m [A,B]))(hw:cV a=true):Hs (ins σ a) (.mk k m [ins σ A,ins (lft σ) B])∧cV A=true∧cV B=true:=by
 have h1:=h.ins σ hw;have h2:=h1.1;rw [dH (by omega)] at h2;have e:eD σ k 0 [A,B]=[ins σ A,ins (lft σ) B]:=by
  rcases hk with rfl|rfl
  ·simp only [eD];rw [if_pos (by decide),if_neg (by decide)]
  ·simp only [eD];rw [if_pos (by decide),if_neg (by decide)]
 rw [e] at h2;exact ⟨h2,wf2 h1.2⟩
theorem aIt {σ:Nat→Tm}{a A x y:Tm}{m:Int}(h:Hs a (.mk 10 m [A,x,y]))(hw:cV a=true):Hs (ins σ a) (.mk 10 m [ins σ A,ins σ x,ins σ y])∧cV A=true∧cV x=true∧cV y=true:=by
 have h1:=h.ins σ hw;have h2:=h1.1;rw [dH (by decide),iN (by rfl)] at h2;exact ⟨h2,cN h1.2 0,cN h1.2 1,cN h1.2 2⟩
theorem Val.ty {G:List Tm}{A a:Tm}{l:Int}{ka:List Tm}(h:Val T G A a)(ha:cV a=true)(hs:Hs a (.mk 2 l ka)){D:List Tm}{σ ρ:Nat→Tm}(hS:SS T D G σ ρ):∃j:Nat,l=(j:Int)∧j<4∧∃Q,LR T (UU T j) j D (ins σ A) Q:=by
 obtain ⟨P,h1,⟨r,h2⟩,h3,h4⟩:=h D σ ρ hS;obtain ⟨ka',h5⟩:=oT (σ:=σ) hs ha;exact h1.ty h5 (h3 r h2)
theorem Val.rt {G:List Tm}{A a:Tm}{l:Int}{ka:List Tm}(h:Val T G A a)(ha:cV a=true)(hs:Hs a (.mk 2 l ka)){D:List Tm}{σ ρ:Nat→Tm}(hS:SS T D G σ ρ):∃P,RT T D (ins σ A) P:=by
 obtain ⟨j,_,h1,Q,h2⟩:=h.ty ha hs hS;exact ⟨Q,h2.lift (by omega)⟩
theorem RT.pi_of {D:List Tm}{A X Y:Tm}{n:Int}{P:Pd}(h:RT T D A P)(hM:Mt A (.mk 3 n [X,Y])):∃A1 B1 P1 P2,Hs A (.mk 3 n [A1,B1])∧P=PiP T D P1 P2∧RT T D A1 P1∧(∀H u q,P1 H u q→El T D P1 H u→RT T (D++H) (bX u 0 0 (up1 H B1)) (P2 H u))∧Mt A1 X∧Mt B1 Y:=by
 have hx:Hs (Tm.mk 3 n [X,Y]) (.mk 3 n [X,Y]):=.refl _;cases h with
 | uni h1 h2 h3=>exact absurd (aR h2 (.inl rfl) hx (by decide) hM).1 (by decide)
 | nat h1 h2=>exact absurd (aR h2 (by decide) hx (by decide) hM).1 (by decide)
 | ne h1 h2=>exact (dS hx (by decide) h2 hM.symm).elim
 | pi h1 h2 h3 h4=>
  have hk:=aR h2 (by decide) hx (by decide) hM;obtain rfl:=hk.2.1;exact ⟨_,_,_,_,h2,rfl,h3,h4,hk.2.2 0,hk.2.2 1⟩
 | sig h1 h2 h3 h4=>exact absurd (aR h2 (by decide) hx (by decide) hM).1 (by decide)
 | idt h1 h2 h3 h4 h5 h6 h7=>exact absurd (aR h2 (by decide) hx (by decide) hM).1 (by decide)
theorem PiP.app {D:List Tm}{P1:Pd}{P2:List Tm→Tm→Pd}{f r u q A B:Tm}{m:Int}(h:PiP T D P1 P2 [] f r)(hr:Hs r (.mk 3 m [A,B]))(hu:P1 [] u q)(he:El T D P1 [] u):P2 [] u [] (dZ f u) (bX u 0 0 B):=by
 obtain ⟨_,⟨n,A',B',h2,h3⟩,_⟩:=h;have:=h2.one_of hr (by decide) (by decide);injection this with _ _ e;injection e with _ e;injection e with e _;subst e;have:=h3 [] u q hu he;rwa [eW,kD] at this
theorem PiP.hs {D:List Tm}{P1:Pd}{P2:List Tm→Tm→Pd}{f r:Tm}(h:PiP T D P1 P2 [] f r):∃m A B,Hs r (.mk 3 m [A,B]):=by
 obtain ⟨_,⟨n,A',B',h2,_⟩,_⟩:=h;exact ⟨n,A',B',h2⟩
theorem dN {σ:Nat→Tm}{k n:Int}{ks:List Tm}(h:k≠1)(hb:binds k=false):ins σ (.mk k n ks) = .mk k n (ks.map (ins σ)):=by rw [dH h,iN hb]
theorem wE {σ:Nat→Tm}{k n:Int}{a b:Tm}(h:k=3∨k=4∨k=13):ins σ (.mk k n [a,b]) = .mk k n [ins σ a,ins (lft σ) b]:=by
 rw [dH (by omega)];simp only [eD]
 have:=rG h;rw [this.1,this.2,if_pos rfl,if_neg (by decide)]
theorem aJr {a b:Tm}(h:wR a b = .ok ()):Mt a b∧aE a=true∧aE b=true:=by
 unfold wR at h
 split at h
 ·rename_i hv
  split at h
  ·rename_i hc;exact ⟨aJa hv.1 hv.2 hc,hv.1,hv.2⟩
  ·split at h<;>cases h
 ·cases h
theorem gE {N:Nat}{G:List Tm}{t w:Tm}(h:jU (bH N) G t w=some (.ok ())):∃s,bH N G t=some (.ok s)∧Mt s w∧aE w=true:=by
 obtain ⟨s,h1,h2⟩:=bM h;have:=aJr (Option.some.inj h2);exact ⟨s,h1,this.1,this.2.2⟩
variable {T:List Tm→Tm→Prop}
theorem El.tk {D:List Tm}{P:Pd}{v:Tm}(h:El T D P [] v):TK T D v:=by have:=h.1;rwa [List.append_nil] at this
theorem El.st {D:List Tm}{P:Pd}{v s:Tm}(h:El T D P [] v)(hs:ST (nR D) v s):P [] v s:=h.2 s (by rw [List.append_nil];exact hs)
theorem El.mk {D:List Tm}{P:Pd}{v:Tm}(h:TK T D v)(hs:∀s,ST (nR D) v s→P [] v s):El T D P [] v:=⟨by rw [List.append_nil];exact h,fun s h1=>hs s (by rw [List.append_nil] at h1;exact h1)⟩
theorem nS (hT:TC T)(D:List Tm)(n:Int):TK T D (.mk 2 n []):=sK hT (by rfl) (by decide)
theorem tE (hT:TC T)(D:List Tm)(n:Int):TK T D (.mk 6 n []):=sK hT (by rfl) (by decide)
theorem vJ (hT:TC T)(D:List Tm):RT T D (.mk 6 0 []) (NP T D):=.nat (tE hT D 0) (.refl _)
theorem aRb (hT:TC T)(D:List Tm)(i:Nat):LR T (UU T i) i D (.mk 6 0 []) (NP T D):=.nat (tE hT D 0) (.refl _)
theorem aGf (hT:TC T){D:List Tm}{j:Nat}(hj:j<4){v r:Tm}{ks:List Tm}(hr:TK T D r)(hs:Hs r (.mk 2 (j:Int) ks)){Q:Pd}(hq:LR T (UU T j) j D v Q):UP T (UU T 4) D j [] v r:=by
 refine ⟨by rw [List.append_nil];exact hr,⟨ks,hs⟩,?_⟩;rw [List.append_nil];exact (yO hj).2 ⟨Q,hq⟩
theorem tY (hT:TC T)(D:List Tm){j:Nat}(hj:j<4):RT T D (.mk 2 (j:Int) []) (UP T (UU T 4) D j):=.uni (nS hT D j) (.refl _) hj
theorem aQv {G:List Tm}{n:Int}{ks:List Tm}(h0:0≤n)(hn:n<(G.length:Int)):Val T G (.mk 1 n ks) (nR G n.toNat):=fun D σ ρ hS=>by
 obtain ⟨P,h1,h2,h3⟩:=hS.get n.toNat (by omega);refine ⟨P,h1,⟨_,.var⟩,fun r hr=>?_,?_⟩
 ·rw [eE];cases hr with
  | var=>exact h2
  | bnd hk=>rcases hk with hk|hk<;>cases hk
 ·rw [eE];exact h3.tk.at
theorem aNt (hT:TC T){G:List Tm}{n:Int}(h0:0≤n)(hn:n<3):Val T G (.mk 2 n []) (.mk 2 (n+1) []):=fun D σ ρ hS=>by
 obtain ⟨j,rfl⟩:=Int.eq_ofNat_of_zero_le h0;have e:∀m:Int,ins σ (.mk 2 m []) = .mk 2 m []:=fun m=>by rw [dN (by decide) (by rfl)];rfl
 have h1:=tY hT D (j:=j+1) (by omega);refine ⟨_,by rw [e];exact h1,⟨_,.srt⟩,fun r hr=>?_,by rw [e];exact (nS hT D _).at⟩;cases hr with
 | srt=>
  rw [e];exact aGf hT (by omega) (nS hT D _) (.refl _) (Q:=UP T (UU T (j+1)) D j) (.uni (nS hT D _) (.refl _) (by omega))
theorem aRt (hT:TC T){G:List Tm}:Val T G (.mk 6 0 []) (.mk 2 0 []):=fun D σ ρ hS=>by
 have h1:=tY hT D (j:=0) (by omega);refine ⟨_,by rw [dN (by decide) (by rfl)];exact h1,⟨_,.nat⟩,fun r hr=>?_,by rw [dN (by decide) (by rfl)];exact (tE hT D _).at⟩;cases hr with
 | nat=>
  rw [dN (by decide) (by rfl)];exact aGf hT (by omega) (nS hT D _) (.refl _) (aRb hT D 0)
theorem aFu {D:List Tm}{v r:Tm}{n:Int}{ks:List Tm}(h1:TK T D r)(h2:Hs r (.mk 6 n ks))(h3:Nt T D v):NP T D [] v r:=by
 refine ⟨by rw [List.append_nil];exact h1,⟨n,ks,h2⟩,by rw [List.append_nil];exact h3⟩
theorem aEd {D:List Tm}{v r:Tm}(h:NP T D [] v r):TK T D r∧(∃n ks,Hs r (.mk 6 n ks))∧Nt T D v:=by
 obtain ⟨h1,h2,h3⟩:=h;rw [List.append_nil] at h1 h3;exact ⟨h1,h2,h3⟩
theorem aNl (hT:TC T){G:List Tm}:Val T G (.mk 7 0 []) (.mk 6 0 []):=fun D σ ρ hS=>by
 have e:∀m:Int,ins σ (.mk m 0 [])=ins σ (.mk m 0 []):=fun _=>rfl
 refine ⟨NP T D,by rw [dN (by decide) (by rfl)];exact vJ hT D,⟨_,.zer⟩,fun r hr=>?_,?_⟩
 ·cases hr with
  | zer=>rw [dN (by decide) (by rfl)];exact aFu (tE hT D 0) (.refl _) (.zer (.refl _))
 ·rw [dN (by decide) (by rfl)];exact (sK (T:=T) (D:=D) (k:=7) (n:=0) hT (by rfl) (by decide)).at
theorem aAi (σ:Nat→Tm):ins σ nT=nT:=by rw [nT,dN (by decide) (by rfl)];rfl
theorem aKi:cV nT=true:=rfl
theorem Val.num (hT:TC T){G:List Tm}{m sm:Tm}(h:Val T G m sm)(hw:cV m=true)(hws:cV sm=true)(hM:Mt sm nT){D:List Tm}{σ ρ:Nat→Tm}(hS:SS T D G σ ρ) :
  (∃ r, An σ ρ m r ∧ NP T D [] (ins σ m) r) ∧ El T D (NP T D) [] (ins σ m) ∧ T D (ins σ m) := by
 obtain ⟨P,h1,h2,h3,h4,h5⟩:=h.get hw hS;have hm:=hM.ins σ hws aKi;rw [aAi] at hm;obtain rfl:=h1.irr (vJ hT D) hm;exact ⟨h2,h4,h5⟩
theorem aQf (hT:TC T){G:List Tm}{m sm:Tm}(h:Val T G m sm)(hw:cV m=true)(hws:cV sm=true)(hM:Mt sm nT):Val T G (.mk 8 0 [m]) nT:=fun D σ ρ hS=>by
 obtain ⟨⟨r,h1,h2⟩,h3,h4⟩:=h.num hT hw hws hM hS;have e:ins σ (.mk 8 0 [m]) = .mk 8 0 [ins σ m]:=by rw [dN (by decide) (by rfl)];rfl
 refine ⟨NP T D,by rw [aAi];exact vJ hT D,⟨_,.suc⟩,fun r hr=>?_,?_⟩
 ·cases hr with
  | suc=>
   rw [e];refine aFu (tE hT D 0) (.refl _) (.suc (.refl _) h3.tk (fun s hs=>?_) (aEd h2).2.2);have:=aEd (h3.st hs);exact ⟨this.1,this.2.1⟩
 ·rw [e];exact (TK.one hT (by rfl) (by decide) h3.tk).at
theorem qZ (H:List Tm)(σ:Nat→Tm){t:Tm}(hw:cV t=true):up1 H (ins (lft σ) t)=ins (lft fun n=>up H (σ n)) t:=by
 have hf:=aDr (b:=(H.length:Int)) (c:=0) (by omega) (by decide);have h1:=hf.ins 1 t (lft σ) hw;have h2:=hf.lft 0 σ;simp only [Int.zero_add,Int.natCast_zero] at h1 h2
 rw [h2] at h1;exact h1
theorem rW (H:List Tm)(u:Tm)(σ:Nat→Tm){t:Tm}(hw:cV t=true):bX u 0 0 (up1 H (ins (lft σ) t))=ins (sC u fun n=>up H (σ n)) t:=by rw [qZ H σ hw,aAm _ _ hw]
theorem aEa (hT:TC T){D:List Tm}{k n:Int}{A B:Tm}(hk:k=3∨k=13)(hA:TK T D A)(hB:∀H,T (D++H++[up H A]) (up1 H B)):TK T D (.mk k n [A,B]):=fun H=>by
 rw [aCp (by omega)];exact hT.bnd _ _ _ _ _ hk (hA H) (hB H)
theorem aAe {D G:List Tm}{A:Tm}{σ ρ:Nat→Tm}{P:Pd}(hS:SS T D G σ ρ)(hA:RT T D (ins σ A) P)(hw:cV A=true){H:List Tm}{u q:Tm}(hu:P H u q)(he:El T D P H u):SS T (D++H) (G++[A]) (sC u fun n=>up H (σ n)) (sC q fun n=>up H (ρ n)):=by
 have h1:=hA.mono H;rw [gD H σ hw] at h1;exact (hS.up H).push h1 ((qY _ _ _ _).2 hu) ((aBh _ _ _ _).2 he) hw
theorem aJt {R:List Tm→Tm→Pd→Prop}(P1:List Tm→Tm→Prop)(h:∀H u,P1 H u→∃Q,R H u Q):∃P2:List Tm→Tm→Pd,∀H u,P1 H u→R H u (P2 H u):=by
 have h2:∀x:List Tm × Tm,∃Q:Pd,P1 x.1 x.2→R x.1 x.2 Q:=fun x=>by
  by_cases hx:P1 x.1 x.2
  ·obtain ⟨Q,hq⟩:=h _ _ hx;exact ⟨Q,fun _=>hq⟩
  ·exact ⟨fun _ _ _=>False,fun h=>absurd h hx⟩
 obtain ⟨f,hf⟩:=Classical.axiomOfChoice h2;exact ⟨fun H u=>f (H,u),fun H u hx=>hf (H,u) hx⟩
theorem An.bnd_inv {σ ρ:Nat→Tm}{k n:Int}{A B r:Tm}(hk:k=3∨k=13)(h:An σ ρ (.mk k n [A,B]) r):∃i j a b ka kb,An σ ρ A a∧Hs a (.mk 2 i ka)∧An (lft σ) (lfa (ins σ A) ρ) B b∧Hs b (.mk 2 j kb)∧r = .mk 2 (if j<i then i else j) []:=by
 rcases hk with rfl|rfl
 ·cases h with
  | bnd _ c1 c2 c3 c4=>exact ⟨_,_,_,_,_,_,c1,c2,c3,c4,rfl⟩
 ·cases h with
  | bnd _ c1 c2 c3 c4=>exact ⟨_,_,_,_,_,_,c1,c2,c3,c4,rfl⟩
theorem aRc (hT:TC T){G:List Tm}{k n i j:Int}{A B a b:Tm}{ka kb:List Tm}(hk:k=3∨k=13)(hA:Val T G A a)(ha:Hs a (.mk 2 i ka))(hB:Val T (G++[A]) B b)(hb:Hs b (.mk 2 j kb))(wA:cV A=true)(wB:cV B=true)(wa:cV a=true)(wb:cV b=true):Val T G (.mk k n [A,B]) (.mk 2 (if j<i then i else j) []):=fun D σ ρ hS=>by
 obtain ⟨i',rfl,hi,Q1,hQ1⟩:=hA.ty wa ha hS;have hR1:RT T D (ins σ A) Q1:=hQ1.lift (by omega);have hj:∀{D':List Tm} {σ' ρ':Nat→Tm},SS T D' (G++[A]) σ' ρ'→∃j':Nat,j=(j':Int)∧j'<4∧∃Q,LR T (UU T j') j' D' (ins σ' B) Q:=fun h=>hB.ty wb hb h
 have hl:=hS.lift hT hR1 wA;obtain ⟨j',rfl,hj4,_⟩:=hj hl;obtain ⟨P2,hP2⟩:=aJt (R:=fun H u Q=>LR T (UU T j') j' (D++H) (bX u 0 0 (up1 H (ins (lft σ) B))) Q) (fun H u=>(∃q,Q1 H u q)∧El T D Q1 H u) fun H u ⟨⟨q,hq⟩,he⟩=>by
  obtain ⟨j2,e,_,Q,hQ⟩:=hj (aAe hS hR1 wA hq he);obtain rfl:=Int.ofNat_inj.1 e;rw [rW H u σ wB];exact ⟨Q,hQ⟩
 obtain ⟨PA,h1,⟨ra,h2,h3⟩,h4,h5,h6⟩:=hA.get wA hS;obtain ⟨PB,g1,⟨rb,g2,g3⟩,g4,g5,g6⟩:=hB.get wB hl;have e:ins σ (.mk k n [A,B]) = .mk k n [ins σ A,ins (lft σ) B]:=wE (by omega);have htk:TK T D (.mk k n [ins σ A,ins (lft σ) B]):=aEa hT hk h5.tk fun H=>by
  have h7:=hR1.mono H;rw [gD H σ wA] at h7⊢;rw [qZ H σ wB];obtain ⟨_,_,_,_,h8⟩:=hB _ _ _ ((hS.up H).lift hT h7 wA);exact h8
 obtain ⟨m,hm⟩:∃m:Nat,(if (j':Int)<(i':Int) then (i':Int) else (j':Int))=(m:Int)∧m<4∧i'≤m∧j'≤m:=by
  by_cases h:(j':Int)<i'
  ·rw [if_pos h];exact ⟨i',rfl,hi,oL _,by omega⟩
  ·rw [if_neg h];exact ⟨j',rfl,hj4,by omega,oL _⟩
 have hsA:∀{r:Tm},An σ ρ A r→∃ks,Hs r (.mk 2 (i':Int) ks):=fun hr=>by
  obtain ⟨ka',h7⟩:=oT (σ:=σ) ha wa;obtain ⟨l,h8,h9,rfl⟩:=kC h1 h7;rw [h8];exact (h4 _ hr).2.1
 have hsB:∀{r:Tm},An (lft σ) (lfa (ins σ A) ρ) B r→∃ks,Hs r (.mk 2 (j':Int) ks):=fun hr=>by
  obtain ⟨kb',h7⟩:=oT (σ:=lft σ) hb wb;obtain ⟨l,h8,h9,rfl⟩:=kC g1 h7;rw [h8];exact (g4 _ hr).2.1
 have hel:∃Q,LR T (UU T m) m D (.mk k n [ins σ A,ins (lft σ) B]) Q:=by
  rcases hk with rfl|rfl
  ·exact ⟨_,.pi htk (.refl _) (hQ1.lift hm.2.2.1) fun H u q hq he=>(hP2 H u ⟨⟨q,hq⟩,he⟩).lift hm.2.2.2⟩
  ·exact ⟨_,.sig htk (.refl _) (hQ1.lift hm.2.2.1) fun H u q hq he=>(hP2 H u ⟨⟨q,hq⟩,he⟩).lift hm.2.2.2⟩
 obtain ⟨Q,hQ⟩:=hel;rw [hm.1];refine ⟨_,by rw [dN (by decide) (by rfl)];exact tY hT D hm.2.1,?_,fun r hr=>?_,by rw [e];exact htk.at⟩
 ·obtain ⟨k1,h7⟩:=hsA h2;obtain ⟨k2,h8⟩:=hsB g2;exact ⟨_,.bnd hk h2 h7 g2 h8⟩
 ·rw [e];obtain ⟨i2,j2,a2,b2,k3,k4,c1,c2,c3,c4,rfl⟩:=hr.bnd_inv hk;obtain ⟨k1,h7⟩:=hsA c1;obtain ⟨k2,h8⟩:=hsB c3;have x:=c2.one_of h7 (.inl rfl) (.inl rfl);have y:=c4.one_of h8 (.inl rfl) (.inl rfl);injection x with _ x;injection y with _ y;subst x y;rw [hm.1];exact aGf hT hm.2.1 (nS hT D _) (.refl _) hQ
variable {T:List Tm→Tm→Prop}
theorem An.app_inv {σ ρ:Nat→Tm}{n:Int}{f u r:Tm}(h:An σ ρ (.mk 5 n [f,u]) r):∃rf m A B,An σ ρ f rf∧Hs rf (.mk 3 m [A,B])∧r=bX (ins σ u) 0 0 B:=by
 cases h with
 | app h1 h2=>exact ⟨_,_,_,_,h1,h2,rfl⟩
 | bnd hk=>rcases hk with hk|hk<;>cases hk
theorem An.lam_inv {σ ρ:Nat→Tm}{n:Int}{A b r:Tm}(h:An σ ρ (.mk 4 n [A,b]) r):∃u,An (lft σ) (lfa (ins σ A) ρ) b u∧r = .mk 3 0 [ins σ A,u]:=by
 cases h with
 | lam h1=>exact ⟨_,h1,rfl⟩
 | bnd hk=>rcases hk with hk|hk<;>cases hk
theorem ST.lam_inv {p:Nat→Tm}{n:Int}{A b r:Tm}(h:ST p (.mk 4 n [A,b]) r):∃u,ST (lfa A p) b u∧r = .mk 3 0 [A,u]:=by
 cases h with
 | lam h1=>exact ⟨_,h1,rfl⟩
 | bnd hk=>rcases hk with hk|hk<;>cases hk
theorem aRa (hT:TC T){G:List Tm}{m:Int}{f u sf su A B:Tm}(hf:Val T G f sf)(hh:Hs sf (.mk 3 m [A,B]))(hu:Val T G u su)(hM:Mt su A)(wf:cV f=true)(wu:cV u=true)(wsf:cV sf=true)(wsu:cV su=true):Val T G (.mk 5 0 [f,u]) (bX u 0 0 B):=fun D σ ρ hS=>by
 obtain ⟨PF,h1,⟨rf,h2,h3⟩,h4,h5,h6⟩:=hf.get wf hS;obtain ⟨hs,wA,wB⟩:=mW (σ:=σ) (.inl rfl) hh wsf;obtain ⟨P1,P2,rfl,q1,q2⟩:=h1.pi_inv hs;obtain ⟨PU,g1,⟨ru,g2,g3⟩,g4,g5,g6⟩:=hu.get wu hS;obtain rfl:=g1.irr q1 (hM.ins σ wsu wA);have q3:=q2 [] _ _ g3 g5;rw [List.append_nil,kD] at q3;have e:ins σ (.mk 5 0 [f,u])=dZ (ins σ f) (ins σ u):=by rw [dN (by decide) (by rfl)];rfl
 obtain ⟨m',X,Y,h7⟩:=h3.hs;refine ⟨P2 [] (ins σ u),by rw [uL σ wu wB];exact q3,⟨_,.app h2 h7⟩,fun r hr=>?_,by rw [e];exact (TK.ap hT h5.tk g5.tk).at⟩;obtain ⟨rf',m2,X2,Y2,c1,c2,rfl⟩:=hr.app_inv;rw [e];exact (h4 _ c1).app c2 g3 g5
theorem aRy (hT:TC T){G:List Tm}{l:Int}{A a b ub:Tm}{ka:List Tm}(hA:Val T G A a)(ha:Hs a (.mk 2 l ka))(hb:Val T (G++[A]) b ub)(wA:cV A=true)(wa:cV a=true)(wb:cV b=true)(wu:cV ub=true):Val T G (.mk 4 0 [A,b]) (.mk 3 0 [A,ub]):=fun D σ ρ hS=>by
 obtain ⟨P1,hR1⟩:=hA.rt wa ha hS;obtain ⟨PA,hA1,_,_,hA5,_⟩:=hA.get wA hS;have hl:=hS.lift hT hR1 wA;obtain ⟨P2,hP2⟩:=aJt (R:=fun H u Q=>RT T (D++H) (bX u 0 0 (up1 H (ins (lft σ) ub))) Q) (fun H u=>(∃q,P1 H u q)∧El T D P1 H u) fun H u ⟨⟨q,hq⟩,he⟩=>by
  obtain ⟨Q,hQ,_⟩:=hb _ _ _ (aAe hS hR1 wA hq he);rw [rW H u σ wu];exact ⟨Q,hQ⟩
 have e1:ins σ (.mk 4 0 [A,b]) = .mk 4 0 [ins σ A,ins (lft σ) b]:=wE (by decide);have e2:ins σ (.mk 3 0 [A,ub]) = .mk 3 0 [ins σ A,ins (lft σ) ub]:=wE (by decide)
 -- bodies in longer contexts
 have hbH:∀H,∃Q,RT T (D++H++[ins (fun n=>up H (σ n)) A]) (ins (lft fun n=>up H (σ n)) ub) Q∧(∃r,An (lft fun n=>up H (σ n)) (lfa (ins (fun n=>up H (σ n)) A) fun n=>up H (ρ n)) b r∧Q [] (ins (lft fun n=>up H (σ n)) b) r)∧
   (∀r,An (lft fun n=>up H (σ n)) (lfa (ins (fun n=>up H (σ n)) A) fun n=>up H (ρ n)) b r→Q [] (ins (lft fun n=>up H (σ n)) b) r)∧El T (D++H++[ins (fun n=>up H (σ n)) A]) Q [] (ins (lft fun n=>up H (σ n)) b)∧T (D++H++[ins (fun n=>up H (σ n)) A]) (ins (lft fun n=>up H (σ n)) b):=fun H=>by
  have h7:=hR1.mono H;rw [gD H σ wA] at h7;exact hb.get wb ((hS.up H).lift hT h7 wA)
 have htk:TK T D (.mk 3 0 [ins σ A,ins (lft σ) ub]):=aEa hT (.inl rfl) hA5.tk fun H=>by
  rw [gD H σ wA,qZ H σ wu];obtain ⟨Q,h8,_⟩:=hbH H;exact h8.tk.at
 have hR:RT T D (.mk 3 0 [ins σ A,ins (lft σ) ub]) (PiP T D P1 P2):=.pi htk (.refl _) hR1 fun H u q hq he=>hP2 H u ⟨⟨q,hq⟩,he⟩
 have hlam:TK T D (.mk 4 0 [ins σ A,ins (lft σ) b]):=fun H=>by
  rw [aCp (by decide),gD H σ wA,qZ H σ wb];obtain ⟨Q,h8,_,_,h9,h10⟩:=hbH H;refine hT.lam _ _ _ _ ?_ h10 fun u hu=>?_
  ·rw [← gD H σ wA];exact hA5.tk H
  ·have:=h8.ptk (h9.st hu);rw [List.append_nil] at this;exact this.at
 have hmain:∀u1,An (lft σ) (lfa (ins σ A) ρ) b u1→PiP T D P1 P2 [] (.mk 4 0 [ins σ A,ins (lft σ) b]) (.mk 3 0 [ins σ A,u1]):=fun u1 hu1=>by
  have htk1:TK T D (.mk 3 0 [ins σ A,u1]):=aEa hT (.inl rfl) hA5.tk fun H=>by
   obtain ⟨Q,h8,_,h9,_⟩:=hbH H;have h10:=hu1.shb wb (m:=(H.length:Int)) (by omega);have e3:bT (H.length:Int) 0 (ins σ A)=ins (fun n=>up H (σ n)) A:=gD H σ wA;rw [e3] at h10;have:=h8.ptk (h9 _ h10);rw [List.append_nil] at this;rw [gD H σ wA];exact this.at
  refine ⟨by rw [List.append_nil];exact htk1,⟨0,_,_,.refl _,fun H' u q hu he=>?_⟩,.inr ⟨_,_,.refl _⟩⟩;rw [List.nil_append] at hu he⊢
  -- the argument with the domain as its type
  have h7:=hR1.mono H';have hu0:=hu;have hua:P1 H' u (up H' (ins σ A)):=by
   have:=h7.ann h7 (.refl _) ((qY _ _ _ _).2 hu);rwa [List.append_nil] at this
  have hSb:=aAe hS hR1 wA hua he;obtain ⟨Q,c1,_,c3,c4⟩:=hb _ _ _ hSb;have hPQ:Q=P2 H' u:=by
   have:=hP2 H' u ⟨⟨q,hu⟩,he⟩;rw [rW H' u σ wu] at this;exact c1.irr this (.refl _)
  subst hPQ;have e3:bT (H'.length:Int) 0 (ins σ A)=ins (fun n=>up H' (σ n)) A:=gD H' σ wA
  -- the reduct
  have hst:cD (dZ (up H' (.mk 4 0 [ins σ A,ins (lft σ) b])) u)=some (ins (sC u fun n=>up H' (σ n)) b):=by
   rw [aCp (by decide),← rW H' u σ wb];exact fN (k:=5) (ks:=[.mk 4 0 [up H' (ins σ A),up1 H' (ins (lft σ) b)],u]) (show (1:Int)≠0 by decide)
  have hred:P2 H' u [] (ins (sC u fun n=>up H' (σ n)) b) (bX u 0 0 (up1 H' u1)):=by
   have h10:=hu1.shb wb (m:=(H'.length:Int)) (by omega);rw [e3] at h10;have h11:=h10.sub wb u;rw [← gD H' σ wA] at h11;exact c3 _ h11
  refine c1.hed hT (.one hst) (TK.ap hT (hlam.up) he.1) (fun s hs=>?_) hred;obtain ⟨r,m,X,Y,d1,d2,rfl⟩:=hs.ap_inv;rw [aCp (by decide)] at d1;obtain ⟨u2,d3,rfl⟩:=d1.lam_inv;have:=(Hs.refl (Tm.mk 3 0 [up H' (ins σ A),u2])).one_of d2 (by decide) (by decide);injection this with _ _ x;injection x with _ x;injection x with x _;subst x;rw [qZ H' σ wb,gD H' σ wA] at d3;obtain ⟨ρ',r1,r2⟩:=aFw (nR (D++H')) (fun n=>up H' (σ n)) (fun n=>up H' (ρ n));have d4:=(d3.an wb rfl (r1.lft _)).sub wb u;have h8:=hR1.mono H';rw [gD H' σ wA] at h8;rw [gD H' σ wA] at hua;have hS3:=((hS.up H').real r2).push h8 ((qY _ _ _ _).2 hua) ((aBh _ _ _ _).2 he) wA;obtain ⟨Q3,c5,_,c6,_⟩:=hb _ _ _ hS3;rw [c1.irr c5 (.refl _)];exact c6 _ d4
 refine ⟨PiP T D P1 P2,by rw [e2];exact hR,?_,fun r hr=>?_,by rw [e1];exact hlam.at⟩
 ·obtain ⟨Q,h8,⟨r,h9,_⟩,_⟩:=hb.get wb hl;exact ⟨_,.lam h9⟩
 ·obtain ⟨u1,h8,rfl⟩:=hr.lam_inv;rw [e1];exact hmain u1 h8
variable {T:List Tm→Tm→Prop}
theorem An.idt_inv {σ ρ:Nat→Tm}{n:Int}{A x y r:Tm}(h:An σ ρ (.mk 10 n [A,x,y]) r):∃a i ka,An σ ρ A a∧Hs a (.mk 2 i ka)∧r = .mk 2 i []:=by
 cases h with
 | idt h1 h2=>exact ⟨_,_,_,h1,h2,rfl⟩
theorem An.rfx_inv {σ ρ:Nat→Tm}{n:Int}{b r:Tm}(h:An σ ρ (.mk 11 n [b]) r):∃rb,An σ ρ b rb∧r = .mk 10 0 [rb,ins σ b,ins σ b]:=by
 cases h with
 | rfx h1=>exact ⟨_,h1,rfl⟩
theorem An.elm_inv {σ ρ:Nat→Tm}{n:Int}{P z q m r:Tm}(h:An σ ρ (.mk 9 n [P,z,q,m]) r):r=dZ (ins σ P) (ins σ m):=by
 cases h with
 | elm=>rfl
theorem An.mov_inv {σ ρ:Nat→Tm}{n:Int}{P e y r:Tm}(h:An σ ρ (.mk 12 n [P,e,y]) r):∃re m A x x',An σ ρ e re∧Hs re (.mk 10 m [A,x,x'])∧r=dZ (ins σ P) x':=by
 cases h with
 | mov h1 h2=>exact ⟨_,_,_,_,_,h1,h2,rfl⟩
theorem ST.elm_inv {p:Nat→Tm}{n:Int}{P z q m r:Tm}(h:ST p (.mk 9 n [P,z,q,m]) r):r=dZ P m:=by
 cases h with
 | elm=>rfl
theorem ST.mov_inv {p:Nat→Tm}{n:Int}{P e y r:Tm}(h:ST p (.mk 12 n [P,e,y]) r):∃re m A x x',ST p e re∧Hs re (.mk 10 m [A,x,x'])∧r=dZ P x':=by
 cases h with
 | mov h1 h2=>exact ⟨_,_,_,_,_,h1,h2,rfl⟩
theorem tk3 (hT:TC T){D:List Tm}{k n:Int}{a b c:Tm}(hb:binds k=false)(hk:k≠11)(h1:TK T D a)(h2:TK T D b)(h3:TK T D c):TK T D (.mk k n [a,b,c]):=TK.node hT hb hk fun i hi=>by
 have:i=0∨i=1∨i=2:=by have:i<3:=hi;omega
 rcases this with rfl|rfl|rfl
 ·exact h1
 ·exact h2
 ·exact h3
theorem tk4 (hT:TC T){D:List Tm}{k n:Int}{a b c d:Tm}(hb:binds k=false)(hk:k≠11)(h1:TK T D a)(h2:TK T D b)(h3:TK T D c)(h4:TK T D d):TK T D (.mk k n [a,b,c,d]):=TK.node hT hb hk fun i hi=>by
 have:i=0∨i=1∨i=2∨i=3:=by have:i<4:=hi;omega
 rcases this with rfl|rfl|rfl|rfl
 ·exact h1
 ·exact h2
 ·exact h3
 ·exact h4
theorem Mt.ap {a a' b b':Tm}(h1:Mt a a')(h2:Mt b b'):Mt (dZ a b) (dZ a' b'):=Mt.kids rfl fun i hi=>by
 have:i=0∨i=1:=by have:i<2:=hi;omega
 rcases this with rfl|rfl
 ·exact h1
 ·exact h2
theorem aQs (hT:TC T){G:List Tm}{i:Int}{A a x sx y sy:Tm}{ka:List Tm}(hA:Val T G A a)(ha:Hs a (.mk 2 i ka))(hx:Val T G x sx)(mx:Mt sx A)(hy:Val T G y sy)(my:Mt sy A)(wA:cV A=true)(wa:cV a=true)(wx:cV x=true)(wy:cV y=true)(wsx:cV sx=true)(wsy:cV sy=true):Val T G (.mk 10 0 [A,x,y]) (.mk 2 i []):=fun D σ ρ hS=>by
 obtain ⟨i',rfl,hi,Q1,hQ1⟩:=hA.ty wa ha hS;have hR1:RT T D (ins σ A) Q1:=hQ1.lift (by omega);obtain ⟨PA,h1,⟨ra,h2,h3⟩,h4,h5,h6⟩:=hA.get wA hS;obtain ⟨PX,x1,⟨rx,x2,x3⟩,x4,x5,x6⟩:=hx.get wx hS;obtain ⟨PY,y1,⟨ry,y2,y3⟩,y4,y5,y6⟩:=hy.get wy hS;obtain rfl:=x1.irr hR1 (mx.ins σ wsx wA);obtain rfl:=y1.irr hR1 (my.ins σ wsy wA);have hsA:∀{r:Tm},An σ ρ A r→∃ks,Hs r (.mk 2 (i':Int) ks):=fun hr=>by
  obtain ⟨ka',h7⟩:=oT (σ:=σ) ha wa;obtain ⟨l,h8,h9,rfl⟩:=kC h1 h7;rw [h8];exact (h4 _ hr).2.1
 have e:ins σ (.mk 10 0 [A,x,y]) = .mk 10 0 [ins σ A,ins σ x,ins σ y]:=by rw [dN (by decide) (by rfl)];rfl
 have htk:TK T D (.mk 10 0 [ins σ A,ins σ x,ins σ y]):=tk3 hT (by rfl) (by decide) h5.tk x5.tk y5.tk;refine ⟨_,by rw [dN (by decide) (by rfl)];exact tY hT D hi,?_,fun r hr=>?_,by rw [e];exact htk.at⟩
 ·obtain ⟨k1,h7⟩:=hsA h2;exact ⟨_,.idt h2 h7⟩
 ·obtain ⟨a2,i2,k2,c1,c2,rfl⟩:=hr.idt_inv;obtain ⟨k1,h7⟩:=hsA c1;have:=c2.one_of h7 (.inl rfl) (.inl rfl);injection this with _ this;subst this;rw [e];exact aGf hT hi (nS hT D _) (.refl _) (.idt htk (.refl _) hQ1 x3 x5 y3 y5)
theorem aRe (hT:TC T){G:List Tm}{b sb:Tm}(hb:Val T G b sb)(wb:cV b=true):Val T G (.mk 11 0 [b]) (.mk 10 0 [sb,b,b]):=fun D σ ρ hS=>by
 obtain ⟨P,h1,⟨rb,h2,h3⟩,h4,h5,h6⟩:=hb.get wb hS;have e1:ins σ (.mk 11 0 [b]) = .mk 11 0 [ins σ b]:=by rw [dN (by decide) (by rfl)];rfl
 have e2:ins σ (.mk 10 0 [sb,b,b]) = .mk 10 0 [ins σ sb,ins σ b,ins σ b]:=by rw [dN (by decide) (by rfl)];rfl
 have htk:∀{r:Tm},TK T D r→TK T D (.mk 10 0 [r,ins σ b,ins σ b]):=fun h=>tk3 hT (by rfl) (by decide) h h5.tk h5.tk
 refine ⟨_,by rw [e2];exact .idt (htk h1.tk) (.refl _) h1 h3 h5 h3 h5,⟨_,.rfx h2⟩,fun r hr=>?_,?_⟩
 ·obtain ⟨rb',c1,rfl⟩:=hr.rfx_inv;rw [e1];have c2:=h1.ptk (h4 _ c1);rw [List.append_nil] at c2;refine ⟨by rw [List.append_nil];exact htk c2,⟨0,_,_,_,.refl _,by rw [eW];exact .refl _,by rw [eW];exact .refl _,fun H'=>⟨⟨_,h1.pmono H' h3⟩,h1.emono H' h5⟩⟩,.inr ⟨0,_,.refl _,by rw [eW];exact .refl _,by rw [eW];exact .refl _⟩⟩
 ·rw [e1];refine hT.rfx _ _ _ h6 fun s hs=>?_
  have:=h1.ptk (h5.st hs);rw [List.append_nil] at this;exact this.at
theorem Val.fam (hT:TC T){G:List Tm}{P sP A B:Tm}{m j:Int}{kb:List Tm}(hP:Val T G P sP)(hh:Hs sP (.mk 3 m [A,B]))(hB:Hs B (.mk 2 j kb))(wP:cV P=true)(wsP:cV sP=true){D:List Tm}{σ ρ:Nat→Tm}(hS:SS T D G σ ρ) :
  ∃P1,RT T D (ins σ A) P1∧TK T D (ins σ P)∧∀v q,P1 [] v q→El T D P1 [] v→∃Q,RT T D (dZ (ins σ P) v) Q:=by
 obtain ⟨PF,h1,⟨rf,h2,h3⟩,h4,h5,h6⟩:=hP.get wP hS;obtain ⟨hs,wA,wB⟩:=mW (σ:=σ) (.inl rfl) hh wsP;obtain ⟨P1,P2,rfl,q1,q2⟩:=h1.pi_inv hs;refine ⟨P1,q1,h5.tk,fun v q hv he=>?_⟩;have q3:=q2 [] _ _ hv he;rw [List.append_nil,kD] at q3;obtain ⟨kb',h7⟩:=oT (σ:=lft σ) hB wB;have h8:=(aLw v (x:=0) (d:=0) (by decide) (by decide)).hss 0 h7;simp only [Int.natCast_zero,Int.add_zero] at h8
 rw [lS (by decide)] at h8;obtain ⟨m',X,Y,h9⟩:=h3.hs;obtain ⟨l,_,hl,Q,hQ⟩:=RT.ty q3 h8 (h3.app h9 hv he);exact ⟨Q,hQ.lift (by omega)⟩
theorem aLk {a b:Tm}(ha:cV a=true)(hb:cV b=true):cV (dZ a b)=true:=by rw [dZ];simp [cV,oK,ha,hb]
theorem aPk:cV (.mk 8 0 [.mk 1 1 []])=true:=rfl
theorem aRz (hT:TC T){G:List Tm}{P sP A B z sz q sq m sm:Tm}{mm j:Int}{kb:List Tm}(hP:Val T G P sP)(hh:Hs sP (.mk 3 mm [A,B]))(hA:Mt A nT)(hB:Hs B (.mk 2 j kb))
  (hz : Val T G z sz) (mz : Mt sz (dZ P (.mk 7 0 []))) (hq : Val T G q sq) (mq : Mt sq (mH P)) (hm : Val T G m sm) (mm2 : Mt sm nT)
  (wP : cV P = true) (wsP : cV sP = true) (wz : cV z = true) (wsz : cV sz = true) (wq : cV q = true) (wsq : cV sq = true) (wm : cV m = true) (wsm : cV sm = true) : Val T G (.mk 9 0 [P, z, q, m]) (dZ P m) := fun D σ ρ hS => by
 obtain ⟨P1,f1,f2,f3⟩:=hP.fam hT hh hB wP wsP hS;obtain ⟨hs,wA,wB⟩:=mW (σ:=σ) (.inl rfl) hh wsP;have hAm:=hA.ins σ wA aKi;rw [aAi] at hAm;obtain rfl:=f1.irr (vJ hT D) hAm;obtain ⟨PZ,z1,⟨rz,z2,z3⟩,z4,z5,z6⟩:=hz.get wz hS;obtain ⟨PQ,q1,⟨rq,q2,q3⟩,q4,q5,q6⟩:=hq.get wq hS;obtain ⟨⟨rm,m1,m2⟩,m3,m4⟩:=hm.num hT wm wsm mm2 hS;have eAp:∀t,ins σ (dZ P t)=dZ (ins σ P) (ins σ t):=fun t=>by rw [dZ,dN (by decide) (by rfl)];rfl
 have hzM:=mz.ins σ wsz (wf_iff.2 ⟨fun e=>absurd e (by decide),by simp [oK,wP,cV]⟩);rw [eAp] at hzM;have e0:ins σ (.mk 7 0 []) = .mk 7 0 []:=by rw [dN (by decide) (by rfl)];rfl
 rw [e0] at hzM;have wst:cV (.mk 3 0 [dZ (bT 1 0 P) (.mk 1 0 []),dZ (bT 2 0 P) (.mk 8 0 [.mk 1 1 []])])=true:=by
  have a1:=wf_sh.1 P 1 0 wP (by decide);have a2:=wf_sh.1 P 2 0 wP (by decide);have a3:=aLk a1 (show cV (.mk 1 0 [])=true from rfl);have a4:=aLk a2 aPk;exact wf_iff.2 ⟨fun e=>absurd e (by decide),by rw [oK,a3,oK,a4];rfl⟩
 have wS:cV (mH P)=true:=wf_iff.2 ⟨fun e=>absurd e (by decide),by rw [oK,aKi,oK,wst];rfl⟩;have hqM:=mq.ins σ wsq wS;have eS:ins σ (mH P) = .mk 3 0 [nT,ins (lft σ) (.mk 3 0 [dZ (bT 1 0 P) (.mk 1 0 []),dZ (bT 2 0 P) (.mk 8 0 [.mk 1 1 []])])]:=by
  rw [mH,wE (by decide),aAi]
 rw [eS] at hqM
 -- the elimination of any number
 have htk:∀{v:Tm},TK T D v→TK T D (.mk 9 0 [ins σ P,ins σ z,ins σ q,v]):=fun h=>tk4 hT (by rfl) (by decide) f2 z5.tk q5.tk h
 have hsE:∀{v v':Tm},Hs v v'→Hs (.mk 9 0 [ins σ P,ins σ z,ins σ q,v]) (.mk 9 0 [ins σ P,ins σ z,ins σ q,v']):=fun h=>Hs.at (k:=9) (n:=0) (by decide) h (ks:=[ins σ P,ins σ z,ins σ q,_]) (oH _) rfl
 have key:∀v,Nt T D v→TK T D v→(∀s,ST (nR D) v s→NP T D [] v s)→∀Q,RT T D (dZ (ins σ P) v) Q→Q [] (.mk 9 0 [ins σ P,ins σ z,ins σ q,v]) (dZ (ins σ P) v):=by
  intro v hv;induction hv with
  | @zer v h=>
   intro tv _ Q hQ;have hM:Mt (dZ (ins σ P) v) (dZ (ins σ P) (.mk 7 0 [])):=Mt.ap (.refl _) h.ps.mt;have e2:PZ=Q:=z1.irr hQ (hzM.trans hM.symm);subst e2;have hgo:PZ [] (ins σ z) (dZ (ins σ P) v):=z1.ann hQ (hzM.trans hM.symm) z3;refine hQ.hed hT ((hsE h).trans (.one (fN (k:=9) (ks:=[ins σ P,ins σ z,ins σ q,.mk 7 0 []]) (show (2:Int)≠0 by decide)))) (htk tv) (fun s hs=>?_) hgo;rw [hs.elm_inv];exact hgo
  | @suc v m' h1 h2 h3 h4 ih=>
   intro tv _ Q hQ;have hNm:NP T D [] m' nT:=aFu (tE hT D 0) (.refl _) h4;have hEm:El T D (NP T D) [] m':=.mk h2 fun s hs=>by
    obtain ⟨a1,n',ks',a2⟩:=h3 s hs;exact aFu a1 a2 h4
   obtain ⟨Qm,hQm⟩:=f3 m' _ hNm hEm;have hrec:=ih h2 (fun s hs=>hEm.st hs) Qm hQm;have hErec:El T D Qm [] (.mk 9 0 [ins σ P,ins σ z,ins σ q,m']):=.mk (htk h2) fun s hs=>by rw [hs.elm_inv];exact hrec
   obtain ⟨A1,B1,R1,R2,a1,rfl,a2,a3,a4,a5⟩:=q1.pi_of hqM;obtain rfl:=a2.irr (vJ hT D) a4;have b1:=a3 [] m' _ hNm hEm;rw [List.append_nil,kD] at b1;have eY:bX m' 0 0 (ins (lft σ) (.mk 3 0 [dZ (bT 1 0 P) (.mk 1 0 []),dZ (bT 2 0 P) (.mk 8 0 [.mk 1 1 []])])) = .mk 3 0 [dZ (ins σ P) m',ins (lft (sC m' σ)) (dZ (bT 2 0 P) (.mk 8 0 [.mk 1 1 []]))]:=by
    rw [aAm _ _ wst,wE (by decide)];congr 2
    rw [dZ,dN (by decide) (by rfl)];simp only [List.map_cons,List.map_nil,eE]
    have:=rZ 1 (sC m' σ) wP;rw [show ((1:Nat):Int)=1 from rfl] at this;rw [this];rfl
   have b2:Mt (bX m' 0 0 B1) (.mk 3 0 [dZ (ins σ P) m',ins (lft (sC m' σ)) (dZ (bT 2 0 P) (.mk 8 0 [.mk 1 1 []]))]):=by
    rw [← eY];exact a5.sb m'
   obtain ⟨A2,B2,S1,S2,c1,c2,c3,c4,c5,c6⟩:=RT.pi_of b1 b2;obtain rfl:=c3.irr hQm c5;obtain ⟨k1,X1,Y1,d1⟩:=q3.hs;have d2:=q3.app d1 hNm hEm;rw [c2] at d2;obtain ⟨k2,X2,Y2,d3⟩:=d2.hs;have d4:=d2.app d3 hrec hErec;have g1:=c4 [] _ _ hrec hErec;rw [List.append_nil,kD] at g1;have wz2:cV (dZ (bT 2 0 P) (.mk 8 0 [.mk 1 1 []]))=true:=by
    exact aLk (wf_sh.1 P 2 0 wP (by decide)) aPk
   have eZ:bX (.mk 9 0 [ins σ P,ins σ z,ins σ q,m']) 0 0 (ins (lft (sC m' σ)) (dZ (bT 2 0 P) (.mk 8 0 [.mk 1 1 []])))=dZ (ins σ P) (.mk 8 0 [m']):=by
    rw [aAm _ _ wz2,dZ,dN (by decide) (by rfl)];simp only [List.map_cons,List.map_nil]
    have:=rZ 2 (sC (.mk 9 0 [ins σ P,ins σ z,ins σ q,m']) (sC m' σ)) wP;rw [show ((2:Nat):Int)=2 from rfl] at this;rw [this,dN (k:=8) (by decide) (by rfl)];simp only [List.map_cons,List.map_nil,eE]
    rfl
   have g2:Mt (bX (.mk 9 0 [ins σ P,ins σ z,ins σ q,m']) 0 0 B2) (dZ (ins σ P) v):=by
    have:=c6.sb (.mk 9 0 [ins σ P,ins σ z,ins σ q,m']);rw [eZ] at this;exact this.trans (Mt.ap (.refl _) h1.ps.mt.symm)
   have e2:S2 [] (.mk 9 0 [ins σ P,ins σ z,ins σ q,m'])=Q:=LR.irr g1 hQ g2;rw [e2] at d4;have hgo:Q [] (dZ (dZ (ins σ q) m') (.mk 9 0 [ins σ P,ins σ z,ins σ q,m'])) (dZ (ins σ P) v):=hQ.ann hQ (.refl _) d4;refine hQ.hed hT ((hsE h1).trans (.one (fN (k:=9) (ks:=[ins σ P,ins σ z,ins σ q,.mk 8 0 [m']]) (show (3:Int)≠0 by decide)))) (htk tv) (fun s hs=>?_) hgo;rw [hs.elm_inv];exact hgo
  | @ne v h=>
   intro tv _ Q hQ;obtain ⟨v0,n1,n2⟩:=h;refine hQ.ref hT hQ (.refl _) ⟨⟨_,hsE n1,.node (k:=9) (by decide) (oH _) n2⟩,htk tv,fun s hs=>?_⟩;rw [hs.elm_inv];exact ⟨⟨Q,hQ⟩,.refl _⟩
 obtain ⟨Q,hQ⟩:=f3 _ _ m2 m3;have e:ins σ (.mk 9 0 [P,z,q,m]) = .mk 9 0 [ins σ P,ins σ z,ins σ q,ins σ m]:=by rw [dN (by decide) (by rfl)];rfl
 refine ⟨Q,by rw [eAp];exact hQ,⟨_,.elm⟩,fun r hr=>?_,by rw [e];exact (htk m3.tk).at⟩;rw [hr.elm_inv,e];exact key _ (aEd m2).2.2 m3.tk (fun s hs=>m3.st hs) Q hQ
theorem aQj (hT:TC T){G:List Tm}{P sP A2 B z sz e se A x y:Tm}{mm j me:Int}{kb:List Tm}(he:Val T G e se)(hhe:Hs se (.mk 10 me [A,x,y]))(hP:Val T G P sP)(hh:Hs sP (.mk 3 mm [A2,B]))(hA:Mt A2 A)(hB:Hs B (.mk 2 j kb))
  (hz : Val T G z sz) (mz : Mt sz (dZ P x)) (wP : cV P = true) (wsP : cV sP = true) (wz : cV z = true) (wsz : cV sz = true) (we : cV e = true) (wse : cV se = true) : Val T G (.mk 12 0 [P, e, z]) (dZ P y) := fun D σ ρ hS => by
 obtain ⟨P1,f1,f2,f3⟩:=hP.fam hT hh hB wP wsP hS;obtain ⟨hs,wA2,wB⟩:=mW (σ:=σ) (.inl rfl) hh wsP;obtain ⟨hse,wA,wx,wy⟩:=aIt (σ:=σ) hhe wse;obtain ⟨PE,e1,⟨re,e2,e3⟩,e4,e5,e6⟩:=he.get we hS;obtain ⟨P1',rfl,i1,⟨qa,i2⟩,i3,⟨qb,i4⟩,i5⟩:=e1.id_inv hse;obtain rfl:=f1.irr i1 (hA.ins σ wA2 wA);obtain ⟨PZ,z1,⟨rz,z2,z3⟩,z4,z5,z6⟩:=hz.get wz hS;have eAp:∀t,ins σ (dZ P t)=dZ (ins σ P) (ins σ t):=fun t=>by rw [dZ,dN (by decide) (by rfl)];rfl
 have hzM:=mz.ins σ wsz (wf_iff.2 ⟨fun e=>absurd e (by decide),by simp [oK,wP,wx]⟩);rw [eAp] at hzM;obtain ⟨Q,hQ⟩:=f3 _ _ i4 i5;have e0:ins σ (.mk 12 0 [P,e,z]) = .mk 12 0 [ins σ P,ins σ e,ins σ z]:=by rw [dN (by decide) (by rfl)];rfl
 have htk:TK T D (.mk 12 0 [ins σ P,ins σ e,ins σ z]):=tk3 hT (by rfl) (by decide) f2 e5.tk z5.tk
 -- types that may be given
 have hty:∀{r:Tm} {m:Int} {X u u':Tm},IdP T D P1 (ins σ x) (ins σ y) [] (ins σ e) r→Hs r (.mk 10 m [X,u,u'])→∃Q',RT T D (dZ (ins σ P) u') Q'∧Mt (dZ (ins σ P) (ins σ y)) (dZ (ins σ P) u'):=fun hp hr=>by
  obtain ⟨_,⟨n1,X1,u1,u1',a1,a2,a3,a4⟩,_⟩:=hp;have:=a1.one_of hr (by decide) (by decide);injection this with _ _ w;injection w with _ w;injection w with _ w;injection w with w _;subst w;obtain ⟨⟨q',a5⟩,a6⟩:=a4 [];rw [List.append_nil,eW] at a5 a6;obtain ⟨Q',hQ'⟩:=f3 _ _ a5 a6;rw [eW] at a3;exact ⟨Q',hQ',Mt.ap (.refl _) a3.symm⟩
 have hgood:∀{r:Tm} {m:Int} {X u u':Tm},IdP T D P1 (ins σ x) (ins σ y) [] (ins σ e) r→Hs r (.mk 10 m [X,u,u'])→Q [] (.mk 12 0 [ins σ P,ins σ e,ins σ z]) (dZ (ins σ P) u'):=fun hp hr=>by
  obtain ⟨Q',hQ',hM'⟩:=hty hp hr;rcases e3.2.2 with ⟨v0,n1,n2⟩|⟨n0,c,n1,n2,n3⟩
  ·refine hQ.ref hT hQ' hM' ⟨⟨_,Hs.at (k:=12) (n:=0) (by decide) n1 (ks:=[ins σ P,ins σ e,ins σ z]) (by show 1<3;omega) rfl,.node (k:=12) (by decide) (by show 1<3;omega) n2⟩,htk,fun s hs=>?_⟩;obtain ⟨r2,m2,X2,u2,u2',b1,b2,rfl⟩:=hs.mov_inv;obtain ⟨Q2,hQ2,hM2⟩:=hty (e5.st b1) b2;exact ⟨⟨Q2,hQ2⟩,hM2.symm⟩
  ·rw [eW] at n2 n3;have hxy:Mt (dZ (ins σ P) (ins σ x)) (dZ (ins σ P) (ins σ y)):=Mt.ap (.refl _) (n2.symm.trans n3);have e7:PZ=Q:=z1.irr hQ (hzM.trans hxy);subst e7;have hh2:Hs (.mk 12 0 [ins σ P,ins σ e,ins σ z]) (ins σ z):=(Hs.at (k:=12) (n:=0) (by decide) n1 (ks:=[ins σ P,ins σ e,ins σ z]) (by show 1<3;omega) rfl).trans (.one (fN (k:=12) (ks:=[ins σ P,.mk 11 n0 [c],ins σ z]) (show (4:Int)≠0 by decide)));refine hQ.hed hT hh2 htk (fun s hs=>?_) (hQ.ann hQ' hM' z3);obtain ⟨r2,m2,X2,u2,u2',b1,b2,rfl⟩:=hs.mov_inv;obtain ⟨Q2,hQ2,hM2⟩:=hty (e5.st b1) b2;exact hQ.ann hQ2 hM2 z3
 refine ⟨Q,by rw [eAp];exact hQ,?_,fun r hr=>?_,by rw [e0];exact htk.at⟩
 ·obtain ⟨_,⟨n1,X1,u1,u1',a1,_⟩,_⟩:=e3;exact ⟨_,.mov e2 a1⟩
 ·obtain ⟨r2,m2,X2,u2,u2',b1,b2,rfl⟩:=hr.mov_inv;rw [e0];exact hgood (e4 _ b1) b2
variable {T:List Tm→Tm→Prop}
theorem An.pai_inv {σ ρ:Nat→Tm}{n:Int}{S a b r:Tm}(h:An σ ρ (.mk 14 n [S,a,b]) r):r=ins σ S:=by
 cases h with
 | pai=>rfl
theorem ST.pai_inv {p:Nat→Tm}{n:Int}{S a b r:Tm}(h:ST p (.mk 14 n [S,a,b]) r):r=S:=by
 cases h with
 | pai=>rfl
theorem An.fst_inv {σ ρ:Nat→Tm}{n:Int}{q r:Tm}(h:An σ ρ (.mk 15 n [q]) r):∃rq m A B,An σ ρ q rq∧Hs rq (.mk 13 m [A,B])∧r=A:=by
 cases h with
 | fst h1 h2=>exact ⟨_,_,_,_,h1,h2,rfl⟩
theorem An.snd_inv {σ ρ:Nat→Tm}{n:Int}{q r:Tm}(h:An σ ρ (.mk 16 n [q]) r):∃rq m A B,An σ ρ q rq∧Hs rq (.mk 13 m [A,B])∧r=bX (.mk 15 0 [ins σ q]) 0 0 B:=by
 cases h with
 | snd h1 h2=>exact ⟨_,_,_,_,h1,h2,rfl⟩
theorem SgP.hs {D:List Tm}{P1:Pd}{P2:List Tm→Tm→Pd}{f r:Tm}(h:SgP T D P1 P2 [] f r):∃m A B,Hs r (.mk 13 m [A,B]):=by
 obtain ⟨_,⟨n,A',B',h2,_⟩,_⟩:=h;exact ⟨n,A',B',h2⟩
theorem SgP.parts {D:List Tm}{P1:Pd}{P2:List Tm→Tm→Pd}{v r A B:Tm}{m:Int}(h:SgP T D P1 P2 [] v r)(hr:Hs r (.mk 13 m [A,B])):P1 [] (fs v) A∧El T D P1 [] (fs v)∧P2 [] (fs v) [] (sn v) (bX (fs v) 0 0 B):=by
 obtain ⟨_,⟨n,A',B',h2,h3⟩,_⟩:=h;have:=h2.one_of hr (by decide) (by decide);injection this with _ _ e;injection e with e0 e;injection e with e _;subst e e0;obtain ⟨a1,a2,a3⟩:=h3 [];rw [List.append_nil,eW,eW,kD] at *;exact ⟨a1,a2,a3 _ _ a1 a2 (.refl _)⟩
theorem aRp (hT:TC T){G:List Tm}{m:Int}{p sp A B:Tm}(hp:Val T G p sp)(hh:Hs sp (.mk 13 m [A,B]))(wp:cV p=true)(wsp:cV sp=true):Val T G (.mk 15 0 [p]) A:=fun D σ ρ hS=>by
 obtain ⟨P,h1,⟨rp,h2,h3⟩,h4,h5,h6⟩:=hp.get wp hS;obtain ⟨hs,wA,wB⟩:=mW (σ:=σ) (.inr rfl) hh wsp;obtain ⟨P1,P2,rfl,q1,q2⟩:=h1.sig_inv hs;have e:ins σ (.mk 15 0 [p])=fs (ins σ p):=by rw [dN (by decide) (by rfl)];rfl
 obtain ⟨m',X,Y,h7⟩:=h3.hs;refine ⟨P1,q1,⟨_,.fst h2 h7⟩,fun r hr=>?_,by rw [e];exact (TK.fs hT h5.tk).at⟩;obtain ⟨rq,m2,X2,Y2,c1,c2,rfl⟩:=hr.fst_inv;rw [e];exact ((h4 _ c1).parts c2).1
theorem aRm (hT:TC T){G:List Tm}{m:Int}{p sp A B:Tm}(hp:Val T G p sp)(hh:Hs sp (.mk 13 m [A,B]))(wp:cV p=true)(wsp:cV sp=true):Val T G (.mk 16 0 [p]) (bX (.mk 15 0 [p]) 0 0 B):=fun D σ ρ hS=>by
 obtain ⟨P,h1,⟨rp,h2,h3⟩,h4,h5,h6⟩:=hp.get wp hS;obtain ⟨hs,wA,wB⟩:=mW (σ:=σ) (.inr rfl) hh wsp;obtain ⟨P1,P2,rfl,q1,q2⟩:=h1.sig_inv hs;have e:ins σ (.mk 16 0 [p])=sn (ins σ p):=by rw [dN (by decide) (by rfl)];rfl
 have e1:ins σ (.mk 15 0 [p])=fs (ins σ p):=by rw [dN (by decide) (by rfl)];rfl
 obtain ⟨m',X,Y,h7⟩:=h3.hs;obtain ⟨a1,a2,a3⟩:=h3.parts h7;have q3:=q2 [] _ _ a1 a2;rw [List.append_nil,kD] at q3;have w15:cV (.mk 15 0 [p])=true:=wf_iff.2 ⟨fun e=>absurd e (by decide),by rw [oK,wp];rfl⟩;refine ⟨P2 [] (fs (ins σ p)),by rw [uL σ w15 wB,e1];exact q3,⟨_,.snd h2 h7⟩,fun r hr=>?_,by rw [e];exact (uM hT h5.tk).at⟩;obtain ⟨rq,m2,X2,Y2,c1,c2,rfl⟩:=hr.snd_inv;rw [e];exact ((h4 _ c1).parts c2).2.2
theorem aQy (hT:TC T){G:List Tm}{m l:Int}{S s0 a sa b sb A B:Tm}{ka:List Tm}(hS0:Val T G S s0)(hs0:Hs s0 (.mk 2 l ka))(hh:Hs S (.mk 13 m [A,B]))(ha:Val T G a sa)(ma:Mt sa A)(hb:Val T G b sb)(mb:Mt sb (bX a 0 0 B))
  (wS : cV S = true) (ws0 : cV s0 = true) (wa : cV a = true) (wsa : cV sa = true) (wb : cV b = true) (wsb : cV sb = true) : Val T G (.mk 14 0 [S, a, b]) S := fun D σ ρ hS => by
 obtain ⟨P,hR⟩:=hS0.rt ws0 hs0 hS;obtain ⟨PS,_,_,_,hS5,_⟩:=hS0.get wS hS;obtain ⟨hs,wA,wB⟩:=mW (σ:=σ) (.inr rfl) hh wS;obtain ⟨P1,P2,rfl,q1,q2⟩:=hR.sig_inv hs;obtain ⟨PA,a1,⟨ra,a2,a3⟩,a4,a5,a6⟩:=ha.get wa hS;obtain rfl:=a1.irr q1 (ma.ins σ wsa wA);obtain ⟨PB,b1,⟨rb,b2,b3⟩,b4,b5,b6⟩:=hb.get wb hS;have mb2:=mb.ins σ wsb (wf_sb.1 _ _ 0 0 wB wa (by decide) (by decide));rw [uL σ wa wB] at mb2;have e:ins σ (.mk 14 0 [S,a,b]) = .mk 14 0 [ins σ S,ins σ a,ins σ b]:=by rw [dN (by decide) (by rfl)];rfl
 have htk:TK T D (.mk 14 0 [ins σ S,ins σ a,ins σ b]):=tk3 hT (by rfl) (by decide) hS5.tk a5.tk b5.tk;refine ⟨_,hR,⟨_,.pai⟩,fun r hr=>?_,by rw [e];exact htk.at⟩;rw [hr.pai_inv,e];refine ⟨by rw [List.append_nil];exact hR.tk,⟨m,_,_,hs,fun H'=>?_⟩,.inr ⟨_,_,.refl _⟩⟩;rw [List.nil_append];have hu:up H' (.mk 14 0 [ins σ S,ins σ a,ins σ b]) = .mk 14 0 [up H' (ins σ S),up H' (ins σ a),up H' (ins σ b)]:=aPy (by decide) (by rfl);have htk':=htk.up (H:=H');rw [hu] at htk'⊢;have hsS:=gQ (.inr (.inr rfl)) H' hs;have q1':=RT.mono q1 H'
 -- the first part
 have hf:Hs (fs (.mk 14 0 [up H' (ins σ S),up H' (ins σ a),up H' (ins σ b)])) (up H' (ins σ a)):=.one (fN (k:=15) (ks:=[.mk 14 0 [up H' (ins σ S),up H' (ins σ a),up H' (ins σ b)]]) (show (5:Int)≠0 by decide));have ha0:PA H' (up H' (ins σ a)) (up H' (ins σ A)):=by
  have h7:=a1.pmono H' a3;rw [List.nil_append] at h7;have h8:=RT.ann q1' q1' (.refl _) ((qY PA H' _ _).2 h7);rwa [List.append_nil] at h8
 have hsf:∀s,ST (nR (D++H')) (fs (.mk 14 0 [up H' (ins σ S),up H' (ins σ a),up H' (ins σ b)])) s→s=up H' (ins σ A):=fun s hs=>by
  obtain ⟨r,m2,X,Y,d1,d2,rfl⟩:=hs.fs_inv;rw [d1.pai_inv] at d2;have:=hsS.one_of d2 (by decide) (by decide);injection this with _ _ w;injection w with w _;exact w.symm
 have hp1:PA H' (fs (.mk 14 0 [up H' (ins σ S),up H' (ins σ a),up H' (ins σ b)])) (up H' (ins σ A)):=by
  have:=RT.hed (h:=q1') hT hf (TK.fs hT htk') (fun s hs=>by rw [hsf s hs];exact (qY PA H' _ _).2 ha0) ((qY PA H' _ _).2 ha0);rwa [List.append_nil] at this
 have he1:El T D PA H' (fs (.mk 14 0 [up H' (ins σ S),up H' (ins σ a),up H' (ins σ b)])):=⟨TK.fs hT htk',fun s hs=>by rw [hsf s hs];exact hp1⟩;refine ⟨hp1,he1,fun w q hw hew hmw=>?_⟩;have g1:=q2 H' _ _ hp1 he1;have g2:=q2 H' w q hw hew;have hmf:Mt (fs (.mk 14 0 [up H' (ins σ S),up H' (ins σ a),up H' (ins σ b)])) (up H' (ins σ a)):=hf.ps.mt;have b1':=b1.mono H';have hmB:Mt (up H' (ins σ sb)) (bX (fs (.mk 14 0 [up H' (ins σ S),up H' (ins σ a),up H' (ins σ b)])) 0 0 (up1 H' (ins (lft σ) B))):=by
  have:=mb2.up H';rw [aTg] at this;exact this.trans (hmf.symm.sbu _)
 have e2:(fun H=>PB (H'++H))=P2 H' (fs (.mk 14 0 [up H' (ins σ S),up H' (ins σ a),up H' (ins σ b)])):=b1'.irr g1 hmB;have hb0:∀{w:Tm} {Q:Pd},RT T (D++H') (bX w 0 0 (up1 H' (ins (lft σ) B))) Q→Mt w (fs (.mk 14 0 [up H' (ins σ S),up H' (ins σ a),up H' (ins σ b)]))→P2 H' (fs (.mk 14 0 [up H' (ins σ S),up H' (ins σ a),up H' (ins σ b)])) [] (up H' (ins σ b)) (bX w 0 0 (up1 H' (ins (lft σ) B))):=fun {w Q} hQ hm=>by
  rw [← e2];have h7:=b1.pmono H' b3;rw [List.nil_append] at h7;exact b1'.ann hQ (hmB.trans (hm.symm.sbu _)) ((qY PB H' _ _).2 h7)
 have hs2:Hs (sn (.mk 14 0 [up H' (ins σ S),up H' (ins σ a),up H' (ins σ b)])) (up H' (ins σ b)):=.one (fN (k:=16) (ks:=[.mk 14 0 [up H' (ins σ S),up H' (ins σ a),up H' (ins σ b)]]) (show (6:Int)≠0 by decide));refine RT.hed hT g1 hs2 (uM hT htk') (fun s hs=>?_) (hb0 g2 hmw);obtain ⟨r,m2,X,Y,d1,d2,rfl⟩:=hs.sn_inv;rw [d1.pai_inv] at d2;have:=hsS.one_of d2 (by decide) (by decide);injection this with _ _ w;injection w with _ w;injection w with w _;subst w;exact hb0 g1 (.refl _)
theorem bJ {N:Nat}{G:List Tm}{t s:Tm}(h:bH N G t=some (.ok s)):cV t=true∧cV s=true:=by
 obtain ⟨M,_,hv,_,hvs⟩:=rD h;exact ⟨aDa hv,aDa hvs⟩
theorem pG {N:Nat}{G:List Tm}{t:Tm}{l:Int}(h:jA (bH N) G t=some (.ok l)):∃a ka,bH N G t=some (.ok a)∧Hs a (.mk 2 l ka):=by
 obtain ⟨a,ka,h1,h2,_⟩:=rK h;exact ⟨a,ka,h1,h2⟩
theorem aCs {N:Nat}{G:List Tm}{P from_:Tm}(h:aBg (bH N) G P from_=some (.ok ())):∃sP m A B j kb,bH N G P=some (.ok sP)∧Hs sP (.mk 3 m [A,B])∧Mt A from_∧Hs B (.mk 2 j kb):=by
 obtain ⟨f,h1,h2⟩:=bM h;obtain ⟨_,h3,h4⟩:=bM h2;obtain ⟨o,h5,h6⟩:=bM h4;obtain ⟨sP,h7,h8,h9⟩:=mO h1;obtain ⟨m,hm⟩:=sZ h8 h9 rfl;have hh:=lO h8;rw [hm] at hh;unfold aHj at h6
 split at h6
 ·rename_i hk
  obtain ⟨k,j,kb⟩:=o;have hk2:k=2:=hk;subst hk2;exact ⟨sP,m,_,_,j,kb,h7,hh,(aJr (Option.some.inj h3)).1,lO (Option.some.inj h5)⟩
 ·cases h6
theorem aQk (hT:TC T):∀(N:Nat) (G:List Tm) (t s:Tm),bH N G t=some (.ok s)→Val T G t s
 | 0,G,t,s,h=>by cases h
 | N+1,G,.mk k n ks,s,h=>by
  obtain ⟨M,hM,hv,hk,hvs⟩:=rD h;obtain rfl:N=M:=Nat.succ.inj hM;have ih:=aQk hT N;have h0:0≤n:=(bG hv).2.1;have hn:=(bG hv).2.2;rw [dQ] at hk;by_cases h3:k=3∨k=13
  ·rw [if_pos h3] at hk;obtain ⟨a,b,rfl⟩:=jY (fC hv (m:=2) (by rcases h3 with rfl|rfl<;>rfl));obtain ⟨i,h1,hk⟩:=bM hk;obtain ⟨j,h2,hk⟩:=bM hk;obtain ⟨x,kx,h5,h6⟩:=pG h1;obtain ⟨y,ky,h7,h8⟩:=pG h2;obtain rfl:=bR hk;exact aRc hT h3 (ih _ _ _ h5) h6 (ih _ _ _ h7) h8 (bJ h5).1 (bJ h7).1 (bJ h5).2 (bJ h7).2
  rw [if_neg h3] at hk;by_cases h4:k=4
  ·rw [if_pos h4] at hk;subst h4;obtain rfl:n=0:=by have:dG 4=0:=rfl;omega
   obtain ⟨a,b,rfl⟩:=jY (fC hv (m:=2) rfl);obtain ⟨i,h1,hk⟩:=bM hk;obtain ⟨u,h2,hk⟩:=bM hk;obtain ⟨_,_,hk⟩:=bM hk;obtain rfl:=bR hk;obtain ⟨x,kx,h5,h6⟩:=pG h1;exact aRy hT (ih _ _ _ h5) h6 (ih _ _ _ h2) (bJ h5).1 (bJ h5).2 (bJ h2).1 (bJ h2).2
  rw [if_neg h4] at hk;by_cases h5:k=5
  ·rw [if_pos h5] at hk;subst h5;obtain rfl:n=0:=by have:dG 5=0:=rfl;omega
   obtain ⟨a,b,rfl⟩:=jY (fC hv (m:=2) rfl);obtain ⟨hd,h1,hk⟩:=bM hk;obtain ⟨_,h2,hk⟩:=bM hk;obtain rfl:=bR hk;obtain ⟨r,h6,h7,h8⟩:=mO h1;obtain ⟨m,hm⟩:=sZ h7 h8 rfl;have hh:=lO h7;rw [hm] at hh;obtain ⟨su,h9,h10,_⟩:=gE h2;exact aRa hT (ih _ _ _ h6) hh (ih _ _ _ h9) h10 (bJ h6).1 (bJ h9).1 (bJ h6).2 (bJ h9).2
  rw [if_neg h5] at hk;by_cases h9:k=9
  ·rw [if_pos h9] at hk;subst h9;obtain rfl:n=0:=by have:dG 9=0:=rfl;omega
   obtain ⟨a,b,c,d,rfl⟩:=uT (fC hv (m:=4) rfl);obtain ⟨_,h1,hk⟩:=bM hk;obtain ⟨_,h2,hk⟩:=bM hk;obtain ⟨_,h3,hk⟩:=bM hk;obtain ⟨_,h4,hk⟩:=bM hk;obtain rfl:=bR hk;obtain ⟨sP,m,A,B,j,kb,f1,f2,f3,f4⟩:=aCs h1;obtain ⟨s1,c1,c2,_⟩:=gE h2;obtain ⟨s2,d1,d2,_⟩:=gE h3;obtain ⟨s3,e1,e2,_⟩:=gE h4;exact aRz hT (ih _ _ _ f1) f2 f3 f4 (ih _ _ _ c1) c2 (ih _ _ _ d1) d2 (ih _ _ _ e1) e2 (bJ f1).1 (bJ f1).2 (bJ c1).1 (bJ c1).2 (bJ d1).1 (bJ d1).2 (bJ e1).1 (bJ e1).2
  rw [if_neg h9] at hk;by_cases h10:k=10
  ·rw [if_pos h10] at hk;subst h10;obtain rfl:n=0:=by have:dG 10=0:=rfl;omega
   obtain ⟨a,b,c,rfl⟩:=gG (fC hv (m:=3) rfl);obtain ⟨i,h1,hk⟩:=bM hk;obtain ⟨_,h2,hk⟩:=bM hk;obtain ⟨_,h3,hk⟩:=bM hk;obtain rfl:=bR hk;obtain ⟨x,kx,h5,h6⟩:=pG h1;obtain ⟨s1,c1,c2,_⟩:=gE h2;obtain ⟨s2,d1,d2,_⟩:=gE h3;exact aQs hT (ih _ _ _ h5) h6 (ih _ _ _ c1) c2 (ih _ _ _ d1) d2 (bJ h5).1 (bJ h5).2 (bJ c1).1 (bJ d1).1 (bJ c1).2 (bJ d1).2
  rw [if_neg h10] at hk;by_cases h12:k=12
  ·rw [if_pos h12] at hk;subst h12;obtain rfl:n=0:=by have:dG 12=0:=rfl;omega
   obtain ⟨a,b,c,rfl⟩:=gG (fC hv (m:=3) rfl);obtain ⟨hd,h1,hk⟩:=bM hk;obtain ⟨_,h2,hk⟩:=bM hk;obtain ⟨_,h3,hk⟩:=bM hk;obtain rfl:=bR hk;obtain ⟨r,h6,h7,h8⟩:=mO h1;obtain ⟨m,hm⟩:=aCl h7 h8 rfl;have hh:=lO h7;rw [hm] at hh;obtain ⟨sP,m2,A,B,j,kb,f1,f2,f3,f4⟩:=aCs h2;obtain ⟨s1,c1,c2,_⟩:=gE h3;exact aQj hT (ih _ _ _ h6) hh (ih _ _ _ f1) f2 f3 f4 (ih _ _ _ c1) c2 (bJ f1).1 (bJ f1).2 (bJ c1).1 (bJ c1).2 (bJ h6).1 (bJ h6).2
  rw [if_neg h12] at hk;by_cases h14:k=14
  ·rw [if_pos h14] at hk;subst h14;obtain rfl:n=0:=by have:dG 14=0:=rfl;omega
   obtain ⟨a,b,c,rfl⟩:=gG (fC hv (m:=3) rfl);obtain ⟨i,h1,hk⟩:=bM hk;obtain ⟨hd,h2,hk⟩:=bM hk;obtain ⟨hd2,h3,hk⟩:=bM hk;obtain ⟨_,h4,hk⟩:=bM hk;obtain ⟨_,h5,hk⟩:=bM hk;obtain rfl:=bR hk;obtain ⟨x,kx,h6,h7⟩:=pG h1;unfold kN at h3
   split at h3
   ·rename_i hk13
    obtain rfl:=bR h3;have h8:=Option.some.inj h2;obtain ⟨m,hm⟩:=sZ h8 hk13 rfl;have hh:=lO h8;rw [hm] at hh;obtain ⟨s1,c1,c2,_⟩:=gE h4;obtain ⟨s2,d1,d2,_⟩:=gE h5;exact aQy hT (ih _ _ _ h6) h7 hh (ih _ _ _ c1) c2 (ih _ _ _ d1) d2 (bJ h6).1 (bJ h6).2 (bJ c1).1 (bJ c1).2 (bJ d1).1 (bJ d1).2
   ·cases h3
  rw [if_neg h14] at hk;by_cases h1:k=1
  ·rw [if_pos h1] at hk;subst h1;unfold aBu at hk
   split at hk
   ·cases hk
   ·rename_i hn
    obtain rfl:=bR hk;have:=aQv (T:=T) (G:=G) (ks:=ks) h0 (by omega);rw [nR,if_pos (by omega),Int.toNat_of_nonneg h0] at this;exact this
  rw [if_neg h1] at hk;by_cases h2:k=2
  ·rw [if_pos h2] at hk;subst h2;obtain rfl:=List.length_eq_zero_iff.1 (fC hv (m:=0) rfl);split at hk
   ·cases hk
   ·obtain rfl:=bR hk;exact aNt hT h0 (by omega)
  rw [if_neg h2] at hk;by_cases h6:k=6
  ·rw [if_pos h6] at hk;subst h6;obtain rfl:=List.length_eq_zero_iff.1 (fC hv (m:=0) rfl);obtain rfl:n=0:=by have:dG 6=0:=rfl;omega
   obtain rfl:=bR hk;exact aRt hT
  rw [if_neg h6] at hk;by_cases h7:k=7
  ·rw [if_pos h7] at hk;subst h7;obtain rfl:=List.length_eq_zero_iff.1 (fC hv (m:=0) rfl);obtain rfl:n=0:=by have:dG 7=0:=rfl;omega
   obtain rfl:=bR hk;exact aNl hT
  rw [if_neg h7] at hk;by_cases h8:k=8
  ·rw [if_pos h8] at hk;subst h8;obtain rfl:n=0:=by have:dG 8=0:=rfl;omega
   obtain ⟨a,rfl⟩:=lH (fC hv (m:=1) rfl);obtain ⟨_,h4,hk⟩:=bM hk;obtain rfl:=bR hk;obtain ⟨s1,c1,c2,_⟩:=gE h4;exact aQf hT (ih _ _ _ c1) (bJ c1).1 (bJ c1).2 c2
  rw [if_neg h8] at hk;by_cases h11:k=11
  ·rw [if_pos h11] at hk;subst h11;obtain rfl:n=0:=by have:dG 11=0:=rfl;omega
   obtain ⟨a,rfl⟩:=lH (fC hv (m:=1) rfl);obtain ⟨r,h1,hk⟩:=bM hk;obtain ⟨_,_,hk⟩:=bM hk;obtain rfl:=bR hk;exact aRe hT (ih _ _ _ h1) (bJ h1).1
  rw [if_neg h11] at hk;have ha:=(bG hv).1;obtain ⟨hd,h1,hk2⟩:=bM hk;obtain ⟨r,h6,h7,h8⟩:=mO h1;obtain ⟨m,hm⟩:=sZ h7 h8 rfl;have hh:=lO h7;rw [hm] at hh;by_cases h15:k=15
  ·rw [if_pos h15] at hk2;subst h15;obtain rfl:n=0:=by have:dG 15=0:=rfl;omega
   obtain ⟨a,rfl⟩:=lH (fC hv (m:=1) rfl);obtain rfl:=bR hk2;exact aRp hT (ih _ _ _ h6) hh (bJ h6).1 (bJ h6).2
  ·rw [if_neg h15] at hk2;have h16:k=16:=by
    apply Classical.byContradiction
    intro h16;have:aU k = -1:=by unfold aU;repeat' (first|rw [if_neg (by omega)]|rfl)
    omega
   subst h16;obtain rfl:n=0:=by have:dG 16=0:=rfl;omega
   obtain ⟨a,rfl⟩:=lH (fC hv (m:=1) rfl);obtain rfl:=bR hk2;exact aRm hT (ih _ _ _ h6) hh (bJ h6).1 (bJ h6).2
theorem zJ {G:List Tm}{k:Int}{ks:List Tm}{i:Nat}(h:¬(i=1∧binds k=true)):cxo G k ks i=G:=if_neg h
theorem aGd:TC Ends where
 node D k n ks hb hk h:=by
  refine kG (fun i _=>?_) (fun e=>by subst e;cases hb) (fun e=>absurd e hk);rw [zJ (by rw [hb];rintro ⟨_,h⟩;cases h)];by_cases hi:i<ks.length
  ·exact h i hi
  ·rw [iL (by omega)];exact jP _
 rfx D n b hb hs:=by
  refine kG (fun i _=>?_) (fun e=>absurd e (by decide)) (fun _ N u hu=>hs u (aAw N D b u hu));rw [zJ (by rintro ⟨_,h⟩;cases h)];cases i with
  | zero=>exact hb
  | succ i=>exact jP _
 bnd D k n A B hk hA hB:=by
  refine kG (fun i hi=>?_) (fun e=>by omega) (fun e=>by omega);rcases (show i=0∨i=1∨i=2∨i=3 by omega) with rfl|rfl|rfl|rfl
  ·exact hA
  ·rw [cxo,if_pos ⟨rfl,by rcases hk with rfl|rfl<;>rfl⟩];exact hB
  ·exact jP _
  ·exact jP _
 lam D n A b hA hb hu:=by
  refine kG (fun i hi=>?_) (fun _ N u h=>hu u (aAw N _ b u h)) (fun e=>absurd e (by decide));rcases (show i=0∨i=1∨i=2∨i=3 by omega) with rfl|rfl|rfl|rfl
  ·exact hA
  ·exact hb
  ·exact jP _
  ·exact jP _
inductive CxG:List Tm→Prop
 | nil:CxG []
 | snoc {G:List Tm} {A:Tm} {N:Nat} {l:Int}:CxG G→jA (bH N) G A=some (.ok l)→CxG (G++[A])
theorem aQl:lft idS=idS:=by
 funext n
 cases n with
 | zero=>rfl
 | succ n=>show bT 1 0 (.mk 1 (n:Int) [])=_;rw [kO (by omega),bN];rfl
theorem CxG.ss {T:List Tm→Tm→Prop}(hT:TC T){G:List Tm}(h:CxG G):SS T G G idS (nR G):=by
 induction h with
 | nil=>exact .nil
 | @snoc G A N l h1 h2 ih=>
  obtain ⟨a,ka,h3,h4⟩:=pG h2;have hw:=(bJ h3).1;obtain ⟨P,hP⟩:=(aQk hT N G A a h3).rt (bJ h3).2 h4 ih;have h5:=ih.lift hT hP hw;have e:ins idS A=A:=ins_id.1 A idS hw fun _=>rfl
  rw [e,aQl,← mE] at h5;exact h5
theorem aNx (G:List Tm):RealT (nR G) idS (nR G):=fun n u hu=>by
 cases hu with
 | var _=>rw [Int.toNat_natCast]
theorem CxG.typed {T:List Tm→Tm→Prop}(hT:TC T){G:List Tm}(h:CxG G){N:Nat}{t s:Tm}(ht:bH N G t=some (.ok s)):∃P,RT T G s P∧P [] t s∧TK T G t∧TK T G s:=by
 obtain ⟨wt,ws⟩:=bJ ht;obtain ⟨P,h1,h2,h3,h4,h5⟩:=(aQk hT N G t s ht).get wt (h.ss hT);have e:∀{t:Tm},cV t=true→ins idS t=t:=fun hw=>ins_id.1 _ idS hw fun _=>rfl
 rw [e ws] at h1;rw [e wt] at h3 h4;exact ⟨P,h1,h3 _ ((aAw N G t s ht).an wt (e wt) (aNx G)),h4.tk,h1.tk⟩
theorem aOg {G:List Tm}{t:Tm}{N:Nat}{b:Bool}(h:dQ (bH N) G t=some (.no b)):Ends G t:=by
 refine ⟨N+1,?_⟩;rw [bH];split
 ·rw [h];exact ⟨_,rfl⟩
 ·exact ⟨_,rfl⟩
theorem aBk:∀(t:Tm) (G:List Tm),CxG G→Ends G t:=by
 refine jM fun k n ks ih G hG=>?_
 have hk:∀i,¬(i=1∧binds k=true)→Ends (cxo G k ks i) (aI ks i):=fun i hi=>by
  rw [zJ hi];by_cases h:i<ks.length
  ·exact ih _ (gF h) G hG
  ·rw [iL (by omega)];exact jP _
 by_cases hb:binds k=true
 ·have h0:=hk 0 (by rintro ⟨h,_⟩;cases h);rw [zJ (by rintro ⟨h,_⟩;cases h)] at h0;obtain ⟨N,r,hr⟩:=h0;obtain ⟨q,hq⟩:∃q,jA (bH N) G (aI ks 0)=some q:=by
   rw [jA,hr];cases r with
   | no b=>exact ⟨_,rfl⟩
   | ok s=>
    show ∃q,bd (some (lD s)) vE=some q
    cases lD s with
    | no b=>exact ⟨_,rfl⟩
    | ok h=>show ∃q,vE h=some q;unfold vE;split<;>exact ⟨_,rfl⟩
  have hk3:k=3∨k=4∨k=13:=by
   simp only [binds,Bool.or_eq_true,beq_iff_eq] at hb;omega
  cases q with
  | no b=>
   refine aOg (N:=N) (b:=b) ?_;rw [dQ];by_cases h3:k=3∨k=13
   ·rw [if_pos h3,aAt,hq];rfl
   ·rw [if_neg h3,if_pos (by omega),aKd,hq];rfl
  | ok l=>
   have hG2:CxG (G++[aI ks 0]):=.snoc hG hq;refine kG (fun i hi=>?_) (fun _ M u hu=>?_) (fun e=>by omega)
   ·by_cases h1:i=1
    ·subst h1;rw [cxo,if_pos ⟨rfl,hb⟩];by_cases h:1<ks.length
     ·exact ih _ (gF h) _ hG2
     ·have e1:aI ks 1=default:=iL (by omega);rw [e1];exact jP _
    ·exact hk i fun h=>h1 h.1
   ·obtain ⟨P,_,_,_,h5⟩:=hG2.typed aGd hu;exact h5.at
 ·refine kG (fun i hi=>hk i fun h=>hb h.2) (fun e=>by subst e;exact absurd rfl hb) (fun _ M u hu=>?_);obtain ⟨P,_,_,_,h5⟩:=hG.typed aGd hu;exact h5.at
def RowI (B:Nat)(w:World)(v:Value)(xs:List Int):Prop:=w.ownsRow B 3 1 v xs.length (xs.map (Value.int .i64))
theorem RowI.keep {B:Nat}{w w':World}{v:Value}{xs:List Int}(h:RowI B w v xs)(hk:∀b,B≤b→b<w.heap.size→w'.heap[b]?=w.heap[b]?):RowI B w' v xs:=by
 refine ⟨h.1,?_⟩;rcases h.2 with hn|⟨g,cap,cur,rfl,hb,hg,r⟩
 ·exact .inl hn
 ·exact .inr ⟨g,cap,cur,rfl,hb,(hk g hb (Array.getElem?_eq_some_iff.1 hg).1).trans hg,r⟩
theorem RowI.below {B:Nat}{w w':World}{v:Value}{xs:List Int}(h:RowI B w v xs)(hb:Bw w w'):RowI B w' v xs:=h.keep fun b _ hl=>hb.block b hl
theorem RowI.alloc {B:Nat}{w:World}{v:Value}{xs:List Int}(h:RowI B w v xs)(o:Obj):RowI B (w.alloc o) v xs:=h.keep fun b _ hl=>Below.heap_alloc w o b hl
theorem RowI.lt {B:Nat}{w:World}{v:Value}{xs:List Int}(h:RowI B w v xs){g:Nat}(hg:v.ownBlock=some g):B≤g∧g<w.heap.size:=World.ownsRow.lt h g hg
theorem RowI.form {B:Nat}{w:World}{v:Value}{xs:List Int}(h:RowI B w v xs):∃A c,v = .slice A xs.length c∧RdI w A xs:=by
 rcases h.2 with ⟨rfl,h0⟩|⟨g,cap,cur,rfl,hb,hg,hn,hm,hs,htk⟩
 ·have:xs=[]:=lEn h0;subst this;exact ⟨none,0,rfl,fun j hj=>absurd hj (Nat.not_lt_zero _)⟩
 ·refine ⟨some ⟨g,0,none⟩,cap,rfl,fun j hj=>⟨g,0,rfl,?_⟩⟩;rw [Nat.zero_add,cell_of_row w g j cur 3 (0,0) hg];have h1:(cur.toList.take (xs.length*1))[j]?=(xs.map (Value.int .i64))[j]?:=by rw [htk]
  rw [Nat.mul_one,List.getElem?_take,if_pos hj,List.getElem?_map,qR hj] at h1;simpa using h1
theorem RowI.nil (w:World)(B:Nat):RowI B w (.slice none 0 0) []:=⟨rfl,.inl ⟨rfl,rfl⟩⟩
theorem RowI.mono {B B':Nat}{w:World}{v:Value}{xs:List Int}(h:RowI B w v xs)(hB:B'≤B):RowI B' w v xs:=
 ⟨h.1,h.2.imp id fun ⟨g,cap,cur,e,hb,r⟩=>⟨g,cap,cur,e,Nat.le_trans hB hb,r⟩⟩
theorem RowI.empty (w:World){B m:Nat}(hB:B≤w.heap.size)(hm:m=w.heap.size):RowI B (w.alloc (.cells #[] 3)) (.slice (some ⟨m,0,none⟩) 0 0) []:=by
 subst hm;exact ⟨rfl,.inr ⟨w.heap.size,0,#[],rfl,hB,heap_alloc_new w _,oL _,by simp [maxLen],rfl,rfl⟩⟩
theorem aIn:(prog.info? 3).map (fun i=>(i.zero,i.size,i.bytes))=some (some (.int .i64 0),1,8):=by kernel_rfl
theorem kS {B:Nat}{w:World}{v:Value}{xs:List Int}{x:Int}(hp:RowI B w v xs)(hB:B≤w.heap.size)(hm:xs.length≤1000)
  {ops:Array Oper} {rest:List Oper} {o:Oper} {a:Act} {Q:Exit→Act→World→Prop} (hgd:o.guard=none) (s y:Operand)
  (ho : o.op = .call { callee := .builtin .append, args := #[s, y], argTypes := #[27, 27] }) (hs : a.eval s = v) (hx : a.eval y = .slice (some ⟨w.heap.size, 0, none⟩) 1 1)
  (h : ∀ L c w', RowI B w' (.slice L (xs.length + 1) c) (xs ++ [x]) → Below B w w' → wpList prog ops Q rest (a.put o.dst (.slice L (xs.length + 1) c)) w') :
  wpList prog ops Q (o::rest) a (w.alloc (.cells #[.int .i64 x] 3)):=by
 refine wpList_plain hgd fun K hK=>?_
 obtain ⟨i,hi,hz,hz1,hz2⟩:=info_parts aIn;have hge:∀g,v.ownBlock=some g→B≤g:=fun g hg=>(hp.lt hg).1
 have hp2:RowI B (w.alloc (.cells #[.int .i64 x] 3)) v xs:=hp.alloc _;have hb2:Blk (w.alloc (.cells #[.int .i64 x] 3)) w.heap.size #[.int .i64 x]:=aC w 3 _ rfl;obtain ⟨v',w',hrun,hown,hg,_,hat⟩:=run_append_own_at (P:=prog) (w.alloc (.cells #[.int .i64 x] 3)) B 27 o.type 3 i _ 1 8 Tryz.underlying27 hi hz hz1 hz2 rfl (by omega) v xs.length _ hp2 ⟨w.heap.size,0,none⟩ 1 1 [.int .i64 x] (by simp) (by
  intro j u hj;obtain ⟨hjl,rfl⟩:=List.getElem?_eq_some_iff.1 hj;have:j=0:=by simp at hjl;exact hjl
  subst this;exact hb2.at_ rfl) (by
  intro u hu;rw [List.mem_singleton.1 hu];rfl) (by simp only [maxLen];omega) (by omega) (by simp;omega)
 unfold Oper.wp execOp
 simp only [ho,resolve,invoke,builtin,Sem.run_bind,Sem.run_pure,Result.andThen_ok,List.map_toArray,List.map_cons,List.map_nil,hs,hx,hrun]
 have hR:RowI B w' v' (xs++[x]):=by
  unfold RowI
  rw [List.length_append,List.map_append];exact hown
 obtain ⟨L,c,e,_⟩:=hR.form;rw [List.length_append] at e;subst e;refine hK _ _ (h L c w' hR ?_);have h1:Below B w (w.alloc (.cells #[.int .i64 x] 3)):=(eR _ _).alloc hB _;exact h1.trans ⟨hg.os,hg.tape,hg.output,hg.size,fun k hk=>hg.block k (by simp;omega) (fun e=>by have:=hge k e.symm;omega)⟩
def aHl (w:World)(xs:List Int)(e:Ending)(w':World):Prop:=∃L c,e = .returned (.slice L xs.length c)∧RowI w.heap.size w' (.slice L xs.length c) xs∧Bw w w'
def RI (B:Nat)(w:World)(L:Option Addr)(xs:List Int):Prop:=xs=[]∨∃g cur,L=some ⟨g,0,none⟩∧B≤g∧Blk w g cur∧∀j (h:j<xs.length),cur[j]?=some (.int .i64 xs[j])
theorem RowI.ri {B:Nat}{w:World}{L:Option Addr}{m c:Nat}{xs:List Int}(h:RowI B w (.slice L m c) xs):RI B w L xs:=by
 rcases h.2 with ⟨e,h0⟩|⟨g,cap,cur,e,hb,hg,hn,hm,hs,htk⟩
 ·exact .inl (lEn h0)
 ·injection e with e1 e2 e3;subst e1;refine .inr ⟨g,cur,rfl,hb,⟨_,hg⟩,fun j hj=>?_⟩;have h1:(cur.toList.take (xs.length*1))[j]?=(xs.map (Value.int .i64))[j]?:=by rw [htk]
  rw [Nat.mul_one,List.getElem?_take,if_pos hj,List.getElem?_map,qR hj] at h1;simpa using h1
theorem RI.rd {B:Nat}{w:World}{L:Option Addr}{xs:List Int}(h:RI B w L xs):RdI w L xs:=fun j hj=>by
 rcases h with rfl|⟨g,cur,rfl,hb,hB,hc⟩
 ·cases hj
 ·exact ⟨g,0,rfl,by rw [Nat.zero_add];exact hB.at_ (hc j hj)⟩
theorem RI.keep {B:Nat}{w w':World}{L:Option Addr}{xs:List Int}(h:RI B w L xs)(hb:Bw w w'):RI B w' L xs:=by
 rcases h with rfl|⟨g,cur,rfl,h1,hB,hc⟩
 ·exact .inl rfl
 ·exact .inr ⟨g,cur,rfl,h1,hB.keep hb,hc⟩
def cnt (m:Int)(n:Nat):List Int:=(List.range n).map fun j=>m+(j:Nat)
theorem aGh (m:Int)(n:Nat):(cnt m n).length=n:=by simp [cnt]
theorem aGm (m:Int)(n j:Nat)(h:j<(cnt m n).length):(cnt m n)[j]=m+j:=by simp [cnt]
theorem qP (xs ys:List Int)(A B:Option Addr)(c d:Nat)(w:World)(hx:xs.length≤9223372036854775807)(hy:ys.length≤9223372036854775807)(hr:RdI w A xs)(hr':RdI w B ys) :
  Calls prog 13 #[.slice A xs.length c,.slice B ys.length d] w fun e w'=>e = .returned (.bool (decide (xs=ys)))∧Bw w w':=by
 by_cases hlen:xs.length=ys.length
 ·have hq:((xs.length:Int) != (ys.length:Int))=false:=by simp [hlen]
  have hH:=aD hlen;have hle:ys.length≤xs.length:=by omega
  have hge:xs.length≤ys.length:=by omega
  clear hlen;generalize hdd:decide (xs=ys)=dd
  have hdd':=aD hdd;clear hdd;go_enter func13,ntmps13;go_wp2_with fail
  go_loopw [5] (fun i wr=>∃j:Nat,j≤xs.length∧i = .int .i64 j∧Hid (xs.take j=ys.take j)∧Bw w wr) (fun i _=>xs.length - (intOf i).toNat)
  case atStart=>exact ⟨0,Nat.zero_le _,rfl,aD (by simp),eR _ _⟩
  case round=>
   obtain ⟨j,hj,rfl,heq,hb⟩:=hrel;by_cases hlt:j<xs.length
   ·have hlt':j<ys.length:=by omega
    obtain ⟨b,off,rfl,hc⟩:=hr.below hb j hlt;obtain ⟨b2,off2,rfl,hd⟩:=hr'.below hb j hlt';generalize hxj:xs[j]=x at hc
    generalize hyj:ys[j]=y at hd
    have hxj':=aD hxj;have hyj':=aD hyj;clear hxj hyj;go_wp2_with fail
    have r1:=aF hc;have r2:=aF hd;refine bL (fun w'=>Bw wr w') [0,1,2,3,4,5,6,7,8] [] [] [_,_,_,_,_,_,_,_,_] [] [] (by kernel_rfl) (by kernel_rfl) rfl rfl rfl (fun _ _ d _ _ h=>by cases d<;>exact h) (eR _ _).drew ?_;refine bZ (aD ?_);refine dL ?_;clear r1 r2;by_cases hne:x=y
    ·have q:(x != y)=false:=by simpa using hne
     have hne':=aD hne;clear hne;go_wp2_with fail
     go_roundw
     case rel=>exact ⟨j+1,by omega,by go_num,aD (by rw [tI hlt,tI hlt',heq.out,hxj'.out,hyj'.out,hne'.out]),hb.drew⟩
     case measure=>simp [intOf];omega
    ·have q:(x != y)=true:=by simpa using hne
     have hdf:dd=false:=by
      rw [← hdd'.out];refine decide_eq_false fun e=>hne ?_
      rw [← hxj'.out,← hyj'.out];subst e;rfl
     subst hdf;clear hne;go_wp2_with fail
     go_ret
     exact ⟨rfl,hb.drew⟩
   ·have hjl:j=xs.length:=by omega
    have hdt:dd=true:=by
     rw [← hdd'.out];have h5:=heq.out;rw [hjl,List.take_length,hH.out,List.take_length] at h5;exact decide_eq_true h5
    subst hdt;go_wp2_with fail
    go_ret
    exact ⟨rfl,hb⟩
 ·have hq:((xs.length:Int) != (ys.length:Int))=true:=by simp;omega
  rw [decide_eq_false (fun e=>hlen (by rw [e]))];clear hlen;go_enter func13,ntmps13;go_wp2_with fail
  go_ret
  exact ⟨rfl,eR _ _⟩
theorem zF (B:Nat)(xs:List Int)(L:Option Addr)(c:Nat)(m:Int)(w:World)(hx:xs.length≤1099511627776)(hm0:0≤m)(hm1:m≤4398046511104)(hR:RI B w L xs) :
  Calls prog 18 #[.slice L xs.length c,.int .i64 m] w fun e w'=>e = .returned (.int .i64 (m+xs.length))∧RI B w' L (cnt m xs.length)∧Below B w w':=by
 rcases hR with rfl|⟨g,cur,rfl,hb0,hB0,hc0⟩
 ·go_enter func18,ntmps18;go_wp2_with fail
  go_loopw [1,5] (fun a i wr=>i = .int .i64 0∧a = .int .i64 m∧wr=w) (fun _ i _=>0)
  case atStart=>exact ⟨rfl,rfl,rfl⟩
  case round=>
   obtain ⟨rfl,rfl,rfl⟩:=hrel;go_wp2_with fail
   go_ret
   exact ⟨by simp,.inl rfl,eR _ _⟩
 ·have hc0:=aD hc0;go_enter func18,ntmps18;go_wp2_with fail
  go_loopw [1,5] (fun a i wr=>∃(j:Nat) (cur:Array Value),j≤xs.length∧i = .int .i64 j∧a = .int .i64 (m+j)∧Blk wr g cur∧Hid (xs.length≤cur.size∧∀i,i<j→cur[i]?=some (.int .i64 (m+i)))∧Hid (∀i,i<xs.length→∃u:Int,cur[i]?=some (.int .i64 u))∧Below B w wr) (fun _ i _=>xs.length - (intOf i).toNat)
  case atStart=>exact ⟨0,cur,Nat.zero_le _,rfl,by simp,hB0,aD ⟨by
    rcases Nat.eq_zero_or_pos xs.length with h|h
    ·omega
    ·have:=hc0.out (xs.length - 1) (by omega);have:=(Array.getElem?_eq_some_iff.1 this).1;omega,fun i hi=>absurd hi (Nat.not_lt_zero _)⟩,aD fun i hi=>⟨_,hc0.out i hi⟩,eR _ _⟩
  case round=>
   clear hB0 hc0;obtain ⟨j,cur,hj,rfl,rfl,hB,hcs,hcu,hb⟩:=hrel;by_cases hlt:j<xs.length
   ·obtain ⟨u,hu⟩:=hcu.out j hlt;have y0:=hB.at_ hu;have y1:=hB.frozen j;clear hu;go_wp2_with fail
    go_roundw
    case rel=>
     refine ⟨j+1,cur.setIfInBounds j (.int .i64 (m+j)),by omega,by go_num,by go_num,hB.set_ j _,aD ⟨by simp;exact hcs.out.1,fun i hi=>?_⟩,aD fun i hi=>?_,hb.setCell hb0 _⟩
     ·have hjs:j<cur.size:=by have:=hcs.out.1;omega
      by_cases e:i=j
      ·subst e;simp [hjs]
      ·rw [Array.getElem?_setIfInBounds_ne (by omega)];exact hcs.out.2 i (by omega)
     ·have hjs:j<cur.size:=by have:=hcs.out.1;omega
      by_cases e:i=j
      ·subst e;exact ⟨m+i,by simp [hjs]⟩
      ·rw [Array.getElem?_setIfInBounds_ne (by omega)];exact hcu.out i hi
    case measure=>simp [intOf];omega
   ·have hjl:j=xs.length:=by omega
    subst hjl;go_wp2_with fail
    go_ret
    exact ⟨rfl,.inr ⟨g,cur,rfl,hb0,hB,fun j hj=>by rw [aGm];rw [aGh] at hj;exact hcs.out.2 j hj⟩,hb⟩
theorem rY (n:Nat)(L:Option Addr)(c:Nat)(m:Int)(w:World)(hx:n≤1099511627776)(hm0:0≤m)(hm1:m≤4398046511104)(hR:RdI w L (cnt m n)) :
  Calls prog 19 #[.slice L n c,.int .i64 m] w fun e w'=>e = .returned (.int .i64 (m+n))∧Bw w w':=by
 go_enter func19,ntmps19;go_wp2_with fail
 go_loopw [1,5] (fun a i wr=>∃j:Nat,j≤n∧i = .int .i64 j∧a = .int .i64 (m+j)∧Bw w wr) (fun _ i _=>n - (intOf i).toNat)
 case atStart=>exact ⟨0,Nat.zero_le _,rfl,by simp,eR _ _⟩
 case round=>
  obtain ⟨j,hj,rfl,rfl,hb⟩:=hrel;by_cases hlt:j<n
  ·obtain ⟨b,off,rfl,hc⟩:=hR.below hb j (by rw [aGh];exact hlt);rw [aGm] at hc;have q:((m+(j:Int)) != (m+(j:Int)))=false:=by simp
   go_wp2_with fail
   go_roundw
   case rel=>exact ⟨j+1,by omega,by go_num,by go_num,hb⟩
   case measure=>simp [intOf];omega
  ·have hjl:j=n:=by omega
   subst hjl;go_wp2_with fail
   go_ret
   exact ⟨rfl,hb⟩
section
open Go.ChangeShapes Go.WideShapes Go.ChangeAt Go.RowKit Go.Deep Go.Joins
section
variable {H:Type}{enc:TypeId × Value→H}{W:World}{base:Nat}{spare:Nat→Bool}{rH:Bool}
theorem aAp {P:Program}{t:TypeId}{f0 f1 f2:Field}{fuel:Nat}{cs:List Value}{x:DataW H × List MemPlace}(ht:P.underlying t=some (.struct #[f0,f1,f2]))(h:DataW.trod enc P W base spare rH fuel t cs=some x) :
  ∃y0 y1 y2 n,n<fuel∧cs.length=P.cellsOf t∧DataW.trod enc P W base spare rH n f0.type ((cs.drop f0.offset).take (P.cellsOf f0.type))=some y0∧
   DataW.trod enc P W base spare rH n f1.type ((cs.drop f1.offset).take (P.cellsOf f1.type))=some y1∧DataW.trod enc P W base spare rH n f2.type ((cs.drop f2.offset).take (P.cellsOf f2.type))=some y2:=by
 obtain ⟨xs,n,rfl,rfl,hl,hlen,hf⟩:=DataW.trod_struct ht h;match xs,hlen with
 | [y0,y1,y2],_=>exact ⟨y0,y1,y2,n,oH _,hl,by simpa using hf 0 f0 rfl,by simpa using hf 1 f1 rfl,by simpa using hf 2 f2 rfl⟩
theorem xQ {n:Nat}{cs:List Value}{y:DataW H × List MemPlace}(h:DataW.trod enc prog W base spare rH n 24 cs=some y) :
  ∃(k m:Int) (v:Value) (z:DataW H × List MemPlace) (n':Nat),cs=[.int .i64 k,.int .i64 m,v]∧n'<n∧DataW.trod enc prog W base spare rH n' 22 [v]=some z:=by
 obtain ⟨y0,y1,y2,n',hn,hl,h0,h1,h2⟩:=aAp Tryz.underlying24 h;have hC:prog.cellsOf 24=3:=by kernel_rfl
 have hC3:prog.cellsOf 3=1:=by kernel_rfl
 have hC22:prog.cellsOf 22=1:=by kernel_rfl
 rw [hC] at hl;match cs,hl with
 | [c0,c1,c2],_=>
  dsimp only at h0 h1 h2
  rw [hC3] at h0 h1;rw [hC22] at h2;obtain ⟨k,hk,_⟩:=DataW.trod_int Tryz.underlying3 h0;obtain ⟨m,hm,_⟩:=DataW.trod_int Tryz.underlying3 h1;simp at hk hm
  subst hk;subst hm;exact ⟨k,m,c2,_,n',rfl,hn,by simpa using h2⟩
theorem wF:∀(fuel:Nat) (v:Value) (x:DataW H × List MemPlace),DataW.trod enc prog W base spare rH fuel 22 [v]=some x→
  ∃(ks:List Tm) (A:Option Addr) (c:Nat),v = .slice A ks.length c∧ks.length≤9223372036854775807∧Rd W A 0 ks:=by
 intro fuel;induction fuel using Nat.strongRecOn with
 | _ fuel ih=>
 intro v x h;rcases DataW.trod_slice Tryz.underlying22 h with ⟨hv,_⟩|⟨a,len,cap,elems,rest,n,rfl,hv,rfl,hb,hl,hm,hlen,hel,_,_⟩
 ·simp at hv
  subst hv;exact ⟨[],none,0,rfl,by simp,by rw [Rd];trivial⟩
 ·simp at hv
  subst hv;have hC:prog.cellsOf 24=3:=by kernel_rfl
  simp only [hC] at hel
  have hmax:maxLen≤9223372036854775807:=by decide
  have hat:∀i,i<len→∃(k m:Int) (u:Value) (z:DataW H × List MemPlace) (n':Nat),n'<n+1∧DataW.trod enc prog W base spare rH n' 22 [u]=some z∧
    W.cell? ((a.add (i*3)).add 0)=some (.int .i64 k)∧W.cell? ((a.add (i*3)).add 1)=some (.int .i64 m)∧W.cell? ((a.add (i*3)).add 2)=some u:=by
   intro i hi;have hx:=hel i hi;rw [qR (by omega)] at hx;obtain ⟨cs',h1,h2⟩:=Option.bind_eq_some_iff.1 hx;obtain ⟨k,m,u,z,n',rfl,hn,hz⟩:=xQ h2;obtain ⟨_,_,hc⟩:=World.cells?_some h1;exact ⟨k,m,u,z,n',by omega,hz,hc 0 (by omega),hc 1 (by omega),hc 2 (by omega)⟩
  obtain ⟨b,off,spot⟩:=a;by_cases hz:len=0
  ·subst hz;exact ⟨[],some ⟨b,off,spot⟩,cap,rfl,by simp,by rw [Rd];trivial⟩
  ·have hspot:spot=none:=by
    obtain ⟨k,m,u,z,n',_,_,h0,_⟩:=hat 0 (by omega);have:=World.cell?_spot h0;simpa [Addr.add] using this
   subst hspot;have hall:∀m i,i+m=len→∃ks:List Tm,ks.length=m∧Rd W (some ⟨b,off,none⟩) i ks:=by
    intro m;induction m with
    | zero=>intro i _;exact ⟨[],rfl,by rw [Rd];trivial⟩
    | succ m ihm=>
     intro i hi;obtain ⟨ts,hts,hrs⟩:=ihm (i+1) (by omega);obtain ⟨k,q,u,z,n',hn,hz',h0,h1,h2⟩:=hat i (by omega);rw [add_plain,add_plain] at h0 h1 h2;obtain ⟨ks,A,c,rfl,hlk,hrk⟩:=ih n' hn u z hz';exact ⟨.mk k q ks::ts,by simp [hts],Rd.cons_iff.2 ⟨⟨b,off,rfl,RdC.iff.2 ⟨h0,h1,A,c,h2,hlk,hrk⟩⟩,hrs⟩⟩
   obtain ⟨ks,hks,hrk⟩:=hall len 0 (by omega);subst hks;exact ⟨ks,some ⟨b,off,none⟩,cap,rfl,by omega,hrk⟩
theorem aIq {r:Reach}{b0:Nat}{v:Value}{d:DataW H}{p:List MemPlace}(hv:Value.okWide prog W r b0 24 v)(h:DataW.Trod enc prog W base spare rH 24 v d p) :
  ∃(k n:Int) (ks:List Tm) (A:Option Addr) (c:Nat),v = .agg (Ro k n A ks.length c)∧ks.length≤9223372036854775807∧Rd W A 0 ks:=by
 obtain ⟨cs,rfl,hsz⟩:=okWide_struct Tryz.underlying24 hv;obtain ⟨fuel,hf⟩:=h;obtain ⟨k,n,u,z,n',hcs,_,hz⟩:=xQ hf;obtain ⟨ks,A,c,rfl,hl,hr⟩:=wF n' u z hz;refine ⟨k,n,ks,A,c,?_,hl,hr⟩;have:cs.toList=[.int .i64 k,.int .i64 n,.slice A ks.length c]:=by simpa [Value.cells] using hcs
 cases cs
 simp at this
 rw [this]
end
section
variable {H:Type}{enc:TypeId × Value→H}{P:Program}
theorem aEw {f:Func}{s:ChangeSpec}{apart fresh handsOn again:Bool}{W W':World}{args:Array Value}{v:Value}{ds gs:List (DataW H)}{before pa pv:List MemPlace}
  (hW : DataW.Whole enc P f.params.toList s.vars apart W args.toList ds gs before)
  (hres : ∀ (b : Nat) (sp : Nat → Bool) (hd : Bool), DataW.TrodAll enc P W' b sp hd f.resultTypes.toList (v.resultList f.resultTypes.size) (s.fn H (ds ++ gs)).results [])
  (hargs : ∀ sp : Nat → Bool, (∀ p ∈ before, sp p.block = true) → DataW.TrodAll enc P W' 0 sp true f.params.toList args.toList (s.fn H (ds ++ gs)).args pa)
  (hvars : ∀ sp : Nat → Bool, (∀ p ∈ before, sp p.block = true) → DataW.TrodVars enc P W' sp s.vars (s.fn H (ds ++ gs)).vars pv)
  (hps : before = pa ++ pv) (hb : Bw W W')
  (hok : ∀ (j : Nat) (t : TypeId) (r : Value), f.resultTypes[j]? = some t → (v.resultList f.resultTypes.size)[j]? = some r → Value.okWide P W' .any 0 t r) :
  s.post enc P f apart fresh handsOn again W args v W':=by
 have hlt:∀p∈before,p.block<W.heap.size:=fun p hp=>hW.lt p hp
 have hold:∀p∈before,(fun b=>decide (b<W.heap.size)) p.block=true:=fun p hp=>by simpa using hlt p hp
 refine ⟨ds,gs,before,[],pa,pv,hW,hres _ _ _,hargs _ hold,hvars _ hold,World.keptBut_mono (fun p hp=>⟨hp,?_⟩) (hb.frame (·∈before)),fun _=>?_⟩
 ·rw [hps,List.mem_append] at hp;exact Or.inr hp
 ·obtain ⟨_,_,_,_,_,hz,hn⟩:=hW;refine ⟨hok,_,_,([]++pa)++pv,⟨[]++pa,pv,trodAll_append (hargs _ (fun _ _=>rfl)) (hres _ _ _),hvars _ (fun _ _=>rfl),rfl,?_,?_⟩,?_⟩
  ·intro b off hp;have hin:MemPlace.cell b off∈before:=by rw [hps];simpa using hp
   rw [hb.frozen (hlt _ hin)];exact hz b off hin
  ·intro ha;have:=hn ha;rw [hps] at this;simpa using this
  ·intro p hp _;rw [hps];simpa using hp
end
theorem aIs {H:Type}{enc:TypeId × Value→H}{W:World}{base:Nat}{spare:Nat→Bool}{rH:Bool}{r:Reach}{b0:Nat}{v:Value}{d:DataW H}{p:List MemPlace}(hv:Value.okWide prog W r b0 22 v)(h:DataW.Trod enc prog W base spare rH 22 v d p) :
  ∃(ks:List Tm) (A:Option Addr) (c:Nat),v = .slice A ks.length c∧ks.length≤9223372036854775807∧Rd W A 0 ks:=by
 obtain ⟨a,len,cap,rfl⟩:=Go.WideShapes.okWide_slice Tryz.underlying22 hv;obtain ⟨fuel,hf⟩:=h;exact wF fuel _ _ hf
end
end Go.Proofs.YtjlaenhcemacdaaGreat
