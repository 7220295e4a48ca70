/- Parts of the proof. No condition. -/
import Derived.Test.YtddkehjdjfmhmaaGreatK7
import Derived.Test.YtddkehjdjfmhmaaGreatK8
open Go.Proofs.Tryz
namespace Go.Proofs.YtddkehjdjfmhmaaGreat
open Go.RowKit
set_option maxHeartbeats 2000000
set_option maxRecDepth 100000
set_option linter.unusedSimpArgs false
set_option linter.unusedVariables false
theorem bH (k n:Int)(w:World):Calls prog 44 #[.int .i64 k,.int .i64 n] w fun e w'=>e = .returned (.agg (Ro k n none 0 0))∧Bw w w':=by
 go_enter func44,ntmps44;go_wp2_with fail
 refine bodyPost_ret (v:=.agg (Ro k n none 0 0)) (by simp [results,results44,go_sem]) rfl ⟨rfl,?_⟩;exact bw1
mutual
def flS (args:List Tm):Int→Tm→Tm
 | d,.mk k n ks=>if k=1∧d≤n then (if n<d+args.length then jM d 0 (args.getD (n - d).toNat default) else .mk 1 (n - args.length) []) else .mk k n (aMa args k d 0 ks)
def aMa (args:List Tm):Int→Int→Nat→List Tm→List Tm|_,_,_,[]=>[]|k,d,i,t::ts=>flS args (d+aO k i) t::aMa args k d (i+1) ts
end
theorem aKg (k n:Int)(ks:List Tm)(A:Option Addr)(c:Nat)(w:World)(hM:aG ks≤1099511627775)(hr:Rd w A 0 ks)(hv:aE (.mk k n ks)=true) :
  Calls prog 29 #[(.agg (Ro k n A ks.length c))] w fun e w'=>e = .returned (.tuple #[(.agg (Ro k n A ks.length c)),.bool true])∧Bw w w':=by
 go_enter func29,ntmps29;go_wp2_with (go_at_call 46;refine (aN k n ks A c _ hM ((hr.alloc _).alloc _)).mono ?_;rw [hv];rintro e w1 ⟨rfl,hb1⟩;have hB:=cM hb1;have hT:=bA hb1;obtain ⟨p0,p1,p2⟩:=hB.three;obtain ⟨d0,d1,d2,e0,e1,e2⟩:=cA hT;replace hb1:Bw w w1:=bw2.trans (hb1.mono (by simp;omega)))
 refine bodyPost_ret (v:=.tuple #[(.agg (Ro k n A ks.length c)),.bool true]) (by simp [results,results29,go_sem,d0,d1,d2]) rfl ⟨rfl,?_⟩;exact bV hb1
theorem aMu (k n:Int)(ks:List Tm)(A:Option Addr)(c:Nat)(w:World)(hM:aG ks≤1099511627775)(hr:Rd w A 0 ks)(hv:aE (.mk k n ks)=false) :
  Calls prog 29 #[(.agg (Ro k n A ks.length c))] w fun e w'=>e = .returned (.tuple #[.agg Zr,.bool false])∧Bw w w':=by
 go_enter func29,ntmps29;go_wp2_with (go_at_call 46;refine (aN k n ks A c _ hM ((hr.alloc _).alloc _)).mono ?_;rw [hv];rintro e w1 ⟨rfl,hb1⟩;have hT:=bA hb1;obtain ⟨d0,d1,d2,e0,e1,e2⟩:=cA hT;replace hb1:Bw w w1:=bw2.trans (hb1.mono (by simp;omega)))
 refine bodyPost_ret (v:=.tuple #[.agg Zr,.bool false]) (by simp [results,results29,go_sem,d0,d1,d2]) rfl ⟨rfl,?_⟩;exact bV hb1
theorem qX (by_:Int)(t:Tm):∀d,(jM by_ d t).size=t.size:=by
 refine Tm.rec (motive_1:=fun t=>∀d,(jM by_ d t).size=t.size) (motive_2:=fun ts=>∀k d i,aG (dY by_ k d i ts)=aG ts) ?_ ?_ ?_ t
 ·intro k n ks ih d;rw [jM,Tm.size,Tm.size,ih]
 ·intro k d i;rfl
 ·intro t ts h1 h2 k d i;rw [dY,aG,aG,h1,h2]
theorem cG {q:Nat}{k n:Int}{ks:List Tm}(h:shape q (.mk k n ks)=true):∃q',q=q'+1∧aW k=(ks.length:Int)∧0≤n∧n≤eX k∧∀t,t∈ks→shape q' t=true:=by
 cases q with
 | zero=>simp [shape] at h
 | succ q=>exact ⟨q,rfl,(bD q k n ks).1 h⟩
theorem tS {ks:List Tm}(h:aW 1=(ks.length:Int)):ks=[]:=by
 have h0:aW 1=0:=rfl;rw [h0] at h;exact lEn (by omega)
theorem aEx (by_ cut:Int)(t:Tm):∀(q:Nat) (e:Int),shape q t=true→chg (shF by_ cut) e t=jM by_ (cut+e) t:=by
 refine Tm.rec (motive_1:=fun t=>∀(q:Nat) (e:Int),shape q t=true→chg (shF by_ cut) e t=jM by_ (cut+e) t)
  (motive_2 := fun ts => ∀ (q : Nat) (k e : Int) (i : Nat), (∀ t, t ∈ ts → shape q t = true) → gM (shF by_ cut) k e i ts = dY by_ k (cut + e) i ts) ?_ ?_ ?_ t
 ·intro k n ks ih q e h;obtain ⟨q',rfl,ha,h0,h1,hk⟩:=cG h;rw [chg,jM];by_cases h1:k=1
  ·subst h1;have:=tS ha;subst this;rw [if_pos rfl,shF,dY];congr 1
   by_cases hc:cut≤n - e
   ·rw [if_pos hc,if_pos ⟨rfl,by omega⟩]
   ·rw [if_neg hc,if_neg (by rintro ⟨-,h⟩;omega)]
  ·rw [if_neg h1,if_neg (by rintro ⟨h,-⟩;exact h1 h),ih q' k e 0 hk]
 ·intro q k e i _;rfl
 ·intro t ts h1 h2 q k e i hk;rw [gM,dY,h1 q _ (hk t List.mem_cons_self),h2 q k e (i+1) (fun t ht=>hk t (List.mem_cons_of_mem _ ht)),show cut+(e+aO k i)=cut+e+aO k i by omega]
theorem wM (by_ cut:Int)(hb:0≤by_)(t:Tm):∀(q p:Nat) (e:Int),shape q t=true→shape p (jM by_ (cut+e) t)=true→eZ (tE by_ cut) e t=true:=by
 refine Tm.rec (motive_1:=fun t=>∀(q p:Nat) (e:Int),shape q t=true→shape p (jM by_ (cut+e) t)=true→eZ (tE by_ cut) e t=true)
  (motive_2 := fun ts => ∀ (q p : Nat) (k e : Int) (i : Nat), (∀ t, t ∈ ts → shape q t = true) → (∀ t, t ∈ dY by_ k (cut + e) i ts → shape p t = true) → dW (tE by_ cut) k e i ts = true) ?_ ?_ ?_ t
 ·intro k n ks ih q p e h hp;obtain ⟨q',rfl,ha,h0,h1,hk⟩:=cG h;rw [jM] at hp;obtain ⟨p',rfl,hpa,hp0,hp1,hpk⟩:=cG hp;rw [eZ];by_cases h1:k=1
  ·subst h1;have h20:eX 1=20:=rfl;rw [if_pos rfl,tE];by_cases hc:cut≤n - e
   ·rw [if_pos ⟨rfl,by omega⟩] at hp1;rw [if_pos hc,decide_eq_true (by omega),decide_eq_true (by omega)];rfl
   ·rw [if_neg hc]
  ·rw [if_neg h1];exact ih q' p' k e 0 hk hpk
 ·intro q p k e i _ _;rfl
 ·intro t ts h1 h2 q p k e i hk hp;rw [dY] at hp;rw [dW,h1 q p _ (hk t List.mem_cons_self) (by rw [show cut+(e+aO k i)=cut+e+aO k i by omega];exact hp _ List.mem_cons_self),h2 q p k e (i+1) (fun t ht=>hk t (List.mem_cons_of_mem _ ht)) (fun t ht=>hp t (List.mem_cons_of_mem _ ht))];rfl
theorem qV {p q:Nat}(h:p≤q)(t:Tm):shape p t=true→shape q t=true:=by
 induction p generalizing q t with
 | zero=>intro hp;simp [shape] at hp
 | succ p ih=>
  intro hp;obtain ⟨k,n,ks⟩:=t;obtain ⟨q',rfl⟩:∃q',q=q'+1:=⟨q - 1,by omega⟩;obtain ⟨a,b,c,d⟩:=(bD p k n ks).1 hp;exact (bD q' k n ks).2 ⟨a,b,c,fun t ht=>ih (by omega) t (d t ht)⟩
theorem nN {d:Int}{a:Tm}(hs:shape 30 a=true)(h:(cP d 0 a).isSome=true):(cP d 0 a).getD (.mk 0 0 [])=jM d 0 a:=by
 unfold cP at h⊢
 split
 ·rename_i h1
  rw [if_pos h1] at h;split
  ·rw [Option.getD_some,aEx d 0 a 30 0 hs,Int.zero_add]
  ·rename_i h2;rw [if_neg h2] at h;cases h
 ·rename_i h1;rw [if_neg h1] at h;cases h
theorem xI {d:Int}{a:Tm}(hd:0≤d)(hs:shape 30 a=true)(h:aE (jM d 0 a)=true):(cP d 0 a).isSome=true:=by
 have hsh:shape 30 (jM d 0 a)=true:=by simp only [aE,Bool.and_eq_true] at h;exact h.1
 have h1:eZ (tE d 0) 0 a=true:=wM d 0 hd a 30 30 0 hs (by rw [Int.zero_add];exact hsh);unfold cP
 rw [if_pos h1,aEx d 0 a 30 0 hs,Int.zero_add,if_pos h];rfl
section
variable {args:List Tm}(hsa:∀t,t∈args→shape 30 t=true)
include hsa
theorem aUu (t:Tm):∀(q:Nat) (d:Int),0≤d→shape q t=true→eZ (aEd args) d t=true→chg (aNl args) d t=flS args d t:=by
 refine Tm.rec (motive_1:=fun t=>∀(q:Nat) (d:Int),0≤d→shape q t=true→eZ (aEd args) d t=true→chg (aNl args) d t=flS args d t)
  (motive_2 := fun ts => ∀ (q : Nat) (k d : Int) (i : Nat), 0 ≤ d → (∀ t, t ∈ ts → shape q t = true) → dW (aEd args) k d i ts = true → gM (aNl args) k d i ts = aMa args k d i ts) ?_ ?_ ?_ t
 ·intro k n ks ih q d hd h hok;obtain ⟨q',rfl,ha,h0,h1,hk⟩:=cG h;rw [eZ] at hok;rw [chg,flS];by_cases h1:k=1
  ·subst h1;have:=tS ha;subst this;rw [if_pos rfl] at hok⊢;unfold aEd at hok
   unfold aNl
   by_cases h2:n - d<0
   ·rw [if_pos h2,if_neg (by rintro ⟨-,h⟩;omega),aMa]
   ·rw [if_neg h2] at hok⊢;rw [if_pos (show (1:Int)=1∧d≤n from ⟨rfl,by omega⟩)];by_cases h3:(args.length:Int)≤n - d
    ·rw [if_pos h3,if_neg (show ¬n<d+(args.length:Int) by omega)]
    ·rw [if_neg h3] at hok⊢;rw [if_pos (show n<d+(args.length:Int) by omega)];have hlt:(n - d).toNat<args.length:=by omega
     have hsx:shape 30 (args.getD (n - d).toNat default)=true:=by
      rw [List.getD_eq_getElem?_getD,iG hlt,Option.getD_some];exact hsa _ (fG hlt)
     exact nN hsx hok
  ·rw [if_neg h1] at hok⊢;rw [if_neg (by rintro ⟨h,-⟩;exact h1 h),ih q' k d 0 hd hk hok]
 ·intro q k d i _ _ _;rfl
 ·intro t ts h1 h2 q k d i hd hk hok;rw [dW,Bool.and_eq_true] at hok;rw [gM,aMa,h1 q _ (by have:=eA k i;omega) (hk t List.mem_cons_self) hok.1,h2 q k d (i+1) hd (fun t ht=>hk t (List.mem_cons_of_mem _ ht)) hok.2]
end
def aDk (xs:List Int):Array Value:=(xs.map (Value.int .i64)).toArray
theorem aJc {xs:List Int}{j:Nat}(h:j<xs.length):(aDk xs)[j]?=some (.int .i64 xs[j]):=by simp [aDk,iG h]
def aTy (B:Nat)(w:World)(r p:Nat)(xs:List Int)(e:Ending)(w':World):Prop:=
 ∃x,x∈xs∧e = .returned (.int .i64 x)∧Rdr B w' r (p+1)∧w.grownBy w' (some r)
theorem mM (xs:List Int)(B r p g:Nat)(w:World)(hx:0<xs.length)(hx2:xs.length≤1000)(hp:p≤1000000000)(hB:B≤w.heap.size)(hr:Rdr B w r p)(hL:Blk w g (aDk xs))(hg:r≠g) :
  Calls prog 43 #[.pointer (some ⟨r,0,none⟩),.slice (some ⟨g,0,none⟩) xs.length xs.length] w (aTy B w r p xs):=by
 go_enter func43,ntmps43;go_wp2_with (go_at_call 17;refine (eB B r p xs.length _ hp (by omega) hB hr).mono ?_;rintro e w1 ⟨m,rfl,hm,hm0,hr1,hg1⟩;have hm:=hm (by omega);clear hm0;have hm':m<xs.length:=(by omega);have hc:w1.cell? ⟨g,m,none⟩=some (.int .i64 xs[m]):=(hL.grown hg1 (by simpa using hg.symm)).at_ (aJc hm'))
 go_ret
 exact ⟨xs[m],fG hm',rfl,hr1,hg1⟩
end Go.Proofs.YtddkehjdjfmhmaaGreat
