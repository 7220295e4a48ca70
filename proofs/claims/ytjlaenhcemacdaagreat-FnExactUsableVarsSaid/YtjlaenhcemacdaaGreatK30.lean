/- Parts of the proof. No condition. -/
import Derived.Test.YtjlaenhcemacdaaGreatK27
import Derived.Test.YtjlaenhcemacdaaGreatK29
open Go.Proofs.Tryz
namespace Go.Proofs.YtjlaenhcemacdaaGreat
open Go.RowKit
set_option maxHeartbeats 16000000
set_option maxRecDepth 100000
set_option linter.unusedSimpArgs false
set_option linter.unusedVariables false
theorem sR {o:Option (Rs Tm)}{l:Int}(h:pJ o=some (.ok l)):0≤l∧l≤3:=by
 rcases zN h with ⟨b,_,h2⟩|⟨s3,l',h1,h2⟩
 ·cases h2
 ·injection h2 with h2;subst h2;have h3:=(nJ h1).1;have h4:=bG h3;have h5:dG 2=3:=rfl;omega
theorem oB {t s:Tm}(h:fL t=some (.ok s)):s=t∧aE s=true:=by
 rcases mG h with ⟨h1,h2⟩|⟨_,h2⟩
 ·injection h2 with h2;subst h2;exact ⟨rfl,h1⟩
 ·cases h2
theorem qF {rec_:Tm→Option (Rs Tm)}{ctx:List Tm}{t s:Tm}{ty:Nat→Option (Rs Tm)}(h:iV rec_ ctx t ty=some (.ok s))(hv:aE t=true):aE s=true:=by
 obtain ⟨k,n,ks⟩:=t;have har:=bG hv;unfold iV at h
 have inj:∀{x:Tm},some (Rs.ok x)=some (Rs.ok s)→x=s:=fun h=>by injection h with h;injection h
 by_cases e1:k=1
 ·rw [if_pos (show (Tm.mk k n ks).k=1 from e1)] at h;split at h
  ·cases h
  ·exact (oB h).2
 rw [if_neg (show ¬(Tm.mk k n ks).k=1 from e1)] at h;by_cases e2:k=2
 ·rw [if_pos (show (Tm.mk k n ks).k=2 from e2)] at h;subst e2;have h3:dG 2=3:=rfl;split at h
  ·cases h
  ·rename_i hn3;have hn4:n≠3:=hn3;rw [← inj h];exact nQ (show 0≤n+1 by omega) (show n+1≤3 by omega)
 rw [if_neg (show ¬(Tm.mk k n ks).k=2 from e2)] at h;by_cases e6:k=6
 ·rw [if_pos (show (Tm.mk k n ks).k=6 from e6)] at h;rw [← inj h];exact nQ (by omega) (by omega)
 rw [if_neg (show ¬(Tm.mk k n ks).k=6 from e6)] at h;by_cases e7:k=7
 ·rw [if_pos (show (Tm.mk k n ks).k=7 from e7)] at h;rw [← inj h];exact xN
 rw [if_neg (show ¬(Tm.mk k n ks).k=7 from e7)] at h;by_cases e8:k=8
 ·rw [if_pos (show (Tm.mk k n ks).k=8 from e8)] at h;rcases aL h with ⟨b,_,h2⟩|⟨u,_,h2⟩
  ·cases h2
  ·rw [← inj h2];exact xN
 rw [if_neg (show ¬(Tm.mk k n ks).k=8 from e8)] at h;by_cases e3:k=3∨k=13
 ·rw [if_pos (show (Tm.mk k n ks).k=3∨(Tm.mk k n ks).k=13 from e3)] at h;rcases aL h with ⟨b,_,h2⟩|⟨i,h1,h2⟩
  ·cases h2
  rcases aL h2 with ⟨b,_,h4⟩|⟨j,h3,h4⟩
  ·cases h4
  have a1:=sR h1;have a2:=sR h3;rw [← inj h4];exact nQ (by split<;>omega) (by split<;>omega)
 rw [if_neg (show ¬((Tm.mk k n ks).k=3∨(Tm.mk k n ks).k=13) from e3)] at h;by_cases e4:k=4
 ·rw [if_pos (show (Tm.mk k n ks).k=4 from e4)] at h;rcases aL h with ⟨b,_,h2⟩|⟨i,h1,h2⟩
  ·cases h2
  rcases aL h2 with ⟨b,_,h4⟩|⟨u,h3,h4⟩
  ·cases h4
  rcases aL h4 with ⟨b,_,h8⟩|⟨v,h7,h8⟩
  ·cases h8
  exact (oB h8).2
 rw [if_neg (show ¬(Tm.mk k n ks).k=4 from e4)] at h;by_cases e5:k=5
 ·rw [if_pos (show (Tm.mk k n ks).k=5 from e5)] at h;rcases aL h with ⟨b,_,h2⟩|⟨i,h1,h2⟩
  ·cases h2
  rcases aL h2 with ⟨b,_,h4⟩|⟨u,h3,h4⟩
  ·cases h4
  exact (oB h4).2
 rw [if_neg (show ¬(Tm.mk k n ks).k=5 from e5)] at h;by_cases e9:k=9
 ·rw [if_pos (show (Tm.mk k n ks).k=9 from e9)] at h;rcases aL h with ⟨b,_,h2⟩|⟨i,h1,h2⟩
  ·cases h2
  rcases aL (aAj h2).2 with ⟨b,_,h4⟩|⟨u,h3,h4⟩
  ·cases h4
  rcases aL (aAj h4).2 with ⟨b,_,h6⟩|⟨v,h5,h6⟩
  ·cases h6
  rcases aL h6 with ⟨b,_,h8⟩|⟨x,h7,h8⟩
  ·cases h8
  exact (oB h8).2
 rw [if_neg (show ¬(Tm.mk k n ks).k=9 from e9)] at h;by_cases e10:k=10
 ·rw [if_pos (show (Tm.mk k n ks).k=10 from e10)] at h;rcases aL h with ⟨b,_,h2⟩|⟨i,h1,h2⟩
  ·cases h2
  rcases aL h2 with ⟨b,_,h4⟩|⟨u,h3,h4⟩
  ·cases h4
  rcases aL h4 with ⟨b,_,h6⟩|⟨v,h5,h6⟩
  ·cases h6
  have a1:=sR h1;rw [← inj h6];exact nQ a1.1 a1.2
 rw [if_neg (show ¬(Tm.mk k n ks).k=10 from e10)] at h;by_cases e11:k=11
 ·rw [if_pos (show (Tm.mk k n ks).k=11 from e11)] at h;rcases aL h with ⟨b,_,h2⟩|⟨i,h1,h2⟩
  ·cases h2
  rcases aL h2 with ⟨b,_,h4⟩|⟨u,h3,h4⟩
  ·cases h4
  exact (oB h4).2
 rw [if_neg (show ¬(Tm.mk k n ks).k=11 from e11)] at h;by_cases e12:k=12
 ·rw [if_pos (show (Tm.mk k n ks).k=12 from e12)] at h;rcases aL h with ⟨b,_,h2⟩|⟨i,h1,h2⟩
  ·cases h2
  rcases aL h2 with ⟨b,_,h4⟩|⟨u,h3,h4⟩
  ·cases h4
  rcases aL (aAj h4).2 with ⟨b,_,h6⟩|⟨v,h5,h6⟩
  ·cases h6
  exact (oB h6).2
 rw [if_neg (show ¬(Tm.mk k n ks).k=12 from e12)] at h;by_cases e14:k=14
 ·rw [if_pos (show (Tm.mk k n ks).k=14 from e14)] at h;subst e14;rcases aL h with ⟨b,_,h2⟩|⟨i,h1,h2⟩
  ·cases h2
  rcases aL h2 with ⟨b,_,h4⟩|⟨u,h3,h4⟩
  ·cases h4
  rcases aL h4 with ⟨b,_,h6⟩|⟨v,h5,h6⟩
  ·cases h6
  rcases aL h6 with ⟨b,_,h8⟩|⟨x,h7,h8⟩
  ·cases h8
  rcases aL (aAj h8).2 with ⟨b,_,h10⟩|⟨y,h9,h10⟩
  ·cases h10
  rw [← inj h10];exact sM hv (by have h3:aU 14=3:=rfl;omega)
 rw [if_neg (show ¬(Tm.mk k n ks).k=14 from e14)] at h;by_cases e15:k=15
 ·rw [if_pos (show (Tm.mk k n ks).k=15 from e15)] at h;rcases aL h with ⟨b,_,h2⟩|⟨i,h1,h2⟩
  ·cases h2
  obtain ⟨h3,h4⟩:=nJ h1;obtain ⟨ki,ni,si⟩:=i;obtain rfl:ki=13:=h4;rw [← inj h2];exact sM h3 (by have:=(bG h3).1;have h3:aU 13=2:=rfl;omega)
 rw [if_neg (show ¬(Tm.mk k n ks).k=15 from e15)] at h;rcases aL h with ⟨b,_,h2⟩|⟨i,h1,h2⟩
 ·cases h2
 exact (oB h2).2
theorem vX {N:Nat}{ctx:List Tm}{t:Tm}{r:Rs Tm}(hc:ctx.length≤20)(h:bS (N+1) ctx t=some r):aE t=true∧ctx.length≤20∧iV (gM (bS N) ctx) ctx t (iP (bS N) ctx t)=some r:=by
 rw [bS] at h;split at h
 ·rename_i hc;exact ⟨hc.1,hc.2,h⟩
 ·rename_i hc2
  split at h
  ·exact absurd ⟨‹_›,hc⟩ hc2
  ·cases h
theorem sO {N:Nat}{ctx:List Tm}{t:Tm}{r:Rs Tm}(hc:20<ctx.length)(h:bS N ctx t=some r):aE t=true∧r = .no false:=by
 cases N with
 | zero=>cases h
 | succ N=>
  rw [bS,if_neg (fun h=>by omega)] at h;split at h
  ·exact ⟨‹_›,(Option.some.inj h).symm⟩
  ·cases h
theorem iZ {N:Nat}{ctx:List Tm}{t s:Tm}(h:bS N ctx t=some (.ok s)):aE s=true:=by
 cases N with
 | zero=>cases h
 | succ N=>
  by_cases hc:ctx.length≤20
  ·obtain ⟨h1,_,h2⟩:=vX hc h;exact qF h2 h1
  ·cases (sO (by omega) h).2
def aEb (N:Nat):Prop:=∀(ctx:List Tm) (k n:Int) (ks:List Tm) (r:Rs Tm),ctx.length≤20→bS N ctx (.mk k n ks)=some r→(∀u,u∈ctx→aE u=true)→
 ∀(C:Option Addr) (cc:Nat) (A:Option Addr) (c:Nat) (w:World),Rd w C 0 ctx→Rd w A 0 ks→Calls prog 96 #[.slice C ctx.length cc,.agg (Ro k n A ks.length c)] w (pK w r)
theorem aDb {N:Nat}(ih:aEb N)(ctx:List Tm)(C:Option Addr)(cc:Nat)(k n:Int)(ks:List Tm)(A:Option Addr)(c:Nat)(kind:Int)(r:Rs Tm)(w:World)(hs:qT (bS N ctx (.mk k n ks)) kind=some r)(hvc:∀u,u∈ctx→aE u=true)(hm:ctx.length≤20)(hrc:Rd w C 0 ctx)(hra:Rd w A 0 ks) :
  Calls prog 81 #[.slice C ctx.length cc,.agg (Ro k n A ks.length c),.int .i64 kind] w (pK w r):=by
 rcases aL hs with ⟨b,h1,rfl⟩|⟨s,h1,h2⟩
 ·have qb:=dO b;have hI:=aD (fun (w:World) (hrc:Rd w C 0 ctx) (hra:Rd w A 0 ks)=>ih ctx k n ks _ hm h1 hvc C cc A c w hrc hra);clear hs h1 hvc ih;go_enter func81,ntmps81;go_wp2_with (go_at_call 96;refine (hI.out _ ((hrc.alloc _).alloc _) ((hra.alloc _).alloc _)).mono ?_;rintro e w1 ⟨rfl,hb1⟩;have hZ1:=iU hb1;have g1:Bw w w1:=bU bw2 hb1;obtain ⟨d0,d1,d2,e0,e1,e2,lz⟩:=dJ hZ1;have n1':w.heap.size+1≠w1.heap.size:=(by omega))
  have y:=fun (o:Obj)=>(((((hZ1.set_ 0 (.int .i64 0)).set_ 1 (.int .i64 0)).set_ 2 (.slice none 0 0)).alloc o:Blk _ _ Zr)).three
  refine bodyPost_ret (v:=.tuple #[.agg Zr,.int .i64 (cX b)]) (by simp [results,results81,go_sem,y,d0,d1,d2]) rfl ⟨rfl,?_⟩;exact (bP g1).alloc (by simp [World.setCell];exact g1.size) _
 ·obtain ⟨k1,n1,s1⟩:=s;have hv1:=aD (iZ h1);have hI:=aD (fun (w:World) (hrc:Rd w C 0 ctx) (hra:Rd w A 0 ks)=>ih ctx k n ks _ hm h1 hvc C cc A c w hrc hra);have h2':=aD h2;have hvr:=aD (fun (t:Tm) (h:r = .ok t)=>by rw [h] at h2;exact (aJm h2).1);clear hs h1 hvc ih h2;cases r with
  | no b=>
   go_enter func81,ntmps81;go_wp2_with (first
    | (go_at_call 107;have _t:=tok1;refine (iA k1 n1 s1 A1 c1 kind _ _ hv1.out h2'.out (r1.alloc _)).mono ?_;rintro e w2 ⟨rfl,hb2⟩;have hZ2:=(hZ.alloc (.cells (Ro k1 n1 A1 s1.length c1) 32)).keep hb2;have g2:=(g1.alloc g1.size (.cells (Ro k1 n1 A1 s1.length c1) 32)).trans (hb2.mono (by have:=g1.size;simp;omega));obtain ⟨d0,d1,d2,e0,e1,e2⟩:=bW hZ2)
    | (go_at_call 96;refine (hI.out _ ((hrc.alloc _).alloc _) ((hra.alloc _).alloc _)).mono ?_;rintro e w1 ⟨A1,c1,rfl,hl1,r1,hb1⟩;have hZ:=iU hb1;have g1:Bw w w1:=bU bw2 hb1;have lz:=hZ.lt;have tok1:=trivial))
   refine bodyPost_ret (v:=.tuple #[.agg Zr,.int .i64 (cX b)]) (by simp [results,results81,go_sem,d0,d1,d2]) rfl ⟨rfl,?_⟩;exact bP g2
  | ok t=>
   obtain ⟨kt,nt,st⟩:=t;have hvt:=aD (hvr.out _ rfl);go_enter func81,ntmps81;go_wp2_with (first
    | (go_at_call 107;have _t:=tok1;refine (iA k1 n1 s1 A1 c1 kind _ _ hv1.out h2'.out (r1.alloc _)).mono ?_;rintro e w2 ⟨A3,c3,rfl,hl3,r3,hb2⟩;have hZ2:=(hZ.alloc (.cells (Ro k1 n1 A1 s1.length c1) 32)).keep hb2;have g2:=(g1.alloc g1.size (.cells (Ro k1 n1 A1 s1.length c1) 32)).trans (hb2.mono (by have:=g1.size;simp;omega));obtain ⟨d0,d1,d2,e0,e1,e2⟩:=bW hZ2)
    | (go_at_call 96;refine (hI.out _ ((hrc.alloc _).alloc _) ((hra.alloc _).alloc _)).mono ?_;rintro e w1 ⟨A1,c1,rfl,hl1,r1,hb1⟩;have hZ:=iU hb1;have g1:Bw w w1:=bU bw2 hb1;have lz:=hZ.lt;have tok1:=trivial))
   refine bodyPost_ret (v:=.tuple #[.agg (Ro kt nt A3 st.length c3),.int .i64 0]) (by simp [results,results81,go_sem,d0,d1,d2]) rfl ⟨A3,c3,rfl,hl3,?_,?_⟩
   ·exact bQ hZ2 hvt.out r3 _ _ _
   ·exact bP g2
theorem uC {N:Nat}(ih:aEb N)(ctx:List Tm)(C:Option Addr)(cc:Nat)(k n:Int)(ks:List Tm)(A:Option Addr)(c:Nat)(r:Rs Int)(w:World)(hs:pJ (bS N ctx (.mk k n ks))=some r)(hvc:∀u,u∈ctx→aE u=true)(hm:ctx.length≤20)(hrc:Rd w C 0 ctx)(hra:Rd w A 0 ks) :
  Calls prog 49 #[.slice C ctx.length cc,.agg (Ro k n A ks.length c)] w (GtI w r):=by
 rcases zN hs with ⟨b,h1,rfl⟩|⟨s3,l,h1,rfl⟩
 all_goals
  have hI:=aD (fun (w:World) (hrc:Rd w C 0 ctx) (hra:Rd w A 0 ks)=>aDb ih ctx C cc k n ks A c 2 _ w h1 hvc hm hrc hra);clear hs h1 hvc ih;go_enter func49,ntmps49
 ·go_wp2_with (go_at_call 81;refine (hI.out _ (hrc.alloc _) (hra.alloc _)).mono ?_;rintro e w1 ⟨rfl,hb1⟩;have g1:Bw w w1:=bU bw1 hb1)
  go_ret2
  exact ⟨rfl,g1.alloc g1.size _⟩
 ·go_wp2_with (go_at_call 81;refine (hI.out _ (hrc.alloc _) (hra.alloc _)).mono ?_;rintro e w1 ⟨A3,c3,rfl,hl3,r3,hb1⟩;have g1:Bw w w1:=bU bw1 hb1)
  go_ret2
  exact ⟨rfl,g1.alloc g1.size _⟩
theorem jT {o1 o2:Option (Rs Tm)}(h:Le o1 o2):Le (pJ o1) (pJ o2):=cA h fun _=>Le.refl _
theorem vQ {o1 o2:Option (Rs Tm)}(h:Le o1 o2)(k:Int):Le (qT o1 k) (qT o2 k):=cA h fun _=>Le.refl _
theorem lK {o1 o2:Option (Rs Tm)}(h:Le o1 o2)(t:Tm):Le (kF o1 t) (kF o2 t):=cA h fun _=>Le.refl _
theorem aKs {o1 o2:Option (Rs Tm)}(h:Le o1 o2)(t:Tm):Le (faV o1 t) (faV o2 t):=cA (vQ h 3) fun _=>Le.refl _
theorem zO {α:Type}{t:Tm}{f g:Option (Rs α)}(h:Le f g):Le (vb t f) (vb t g):=fun r hr=>by
 rcases pF hr with ⟨h1,h2⟩|⟨h1,h2⟩
 ·rw [vb,if_pos h1];exact h r h2
 ·rw [vb,if_neg (by rw [h1];decide),h2]
theorem aQh {r1 r2:Tm→Option (Rs Tm)}{t1 t2:Nat→Option (Rs Tm)}(hr:∀t,Le (r1 t) (r2 t))(ht:∀i,Le (t1 i) (t2 i))(ctx:List Tm)(t:Tm):Le (iV r1 ctx t t1) (iV r2 ctx t t2):=by
 unfold iV
 by_cases e1:t.k=1
 ·rw [if_pos e1,if_pos e1];exact Le.refl _
 rw [if_neg e1,if_neg e1];by_cases e2:t.k=2
 ·rw [if_pos e2,if_pos e2];exact Le.refl _
 rw [if_neg e2,if_neg e2];by_cases e6:t.k=6
 ·rw [if_pos e6,if_pos e6];exact Le.refl _
 rw [if_neg e6,if_neg e6];by_cases e7:t.k=7
 ·rw [if_pos e7,if_pos e7];exact Le.refl _
 rw [if_neg e7,if_neg e7];by_cases e8:t.k=8
 ·rw [if_pos e8,if_pos e8];exact cA (lK (ht _) _) fun _=>Le.refl _
 rw [if_neg e8,if_neg e8];by_cases e3:t.k=3∨t.k=13
 ·rw [if_pos e3,if_pos e3];exact cA (jT (ht _)) fun _=>cA (jT (ht _)) fun _=>Le.refl _
 rw [if_neg e3,if_neg e3];by_cases e4:t.k=4
 ·rw [if_pos e4,if_pos e4];exact cA (jT (ht _)) fun _=>cA (ht _) fun _=>cA (hr _) fun _=>Le.refl _
 rw [if_neg e4,if_neg e4];by_cases e5:t.k=5
 ·rw [if_pos e5,if_pos e5];exact cA (vQ (ht _) _) fun _=>cA (lK (ht _) _) fun _=>Le.refl _
 rw [if_neg e5,if_neg e5];by_cases e9:t.k=9
 ·rw [if_pos e9,if_pos e9];exact cA (aKs (ht _) _) fun _=>zO (cA (lK (ht _) _) fun _=>zO (cA (lK (ht _) _) fun _=>cA (lK (ht _) _) fun _=>Le.refl _))
 rw [if_neg e9,if_neg e9];by_cases e10:t.k=10
 ·rw [if_pos e10,if_pos e10];exact cA (jT (ht _)) fun _=>cA (lK (ht _) _) fun _=>cA (lK (ht _) _) fun _=>Le.refl _
 rw [if_neg e10,if_neg e10];by_cases e11:t.k=11
 ·rw [if_pos e11,if_pos e11];exact cA (ht _) fun _=>cA (jT (hr _)) fun _=>Le.refl _
 rw [if_neg e11,if_neg e11];by_cases e12:t.k=12
 ·rw [if_pos e12,if_pos e12];exact cA (vQ (ht _) _) fun _=>cA (aKs (ht _) _) fun _=>zO (cA (lK (ht _) _) fun _=>Le.refl _)
 rw [if_neg e12,if_neg e12];by_cases e14:t.k=14
 ·rw [if_pos e14,if_pos e14];exact cA (jT (ht _)) fun _=>cA (Le.refl _) fun _=>cA (Le.refl _) fun _=>cA (lK (ht _) _) fun _=>zO (cA (lK (ht _) _) fun _=>Le.refl _)
 rw [if_neg e14,if_neg e14];by_cases e15:t.k=15
 ·rw [if_pos e15,if_pos e15];exact cA (vQ (ht _) _) fun _=>Le.refl _
 rw [if_neg e15,if_neg e15];exact cA (vQ (ht _) _) fun _=>Le.refl _
theorem aRh {r1 r2:List Tm→Tm→Option (Rs Tm)}(hr:∀c t,Le (r1 c t) (r2 c t))(ctx:List Tm)(t:Tm)(i:Nat):Le (iP r1 ctx t i) (iP r2 ctx t i):=by
 unfold iP
 split
 ·exact hr _ _
 ·exact hr _ _
theorem aNo {r1 r2:List Tm→Tm→Option (Rs Tm)}(hr:∀c t,Le (r1 c t) (r2 c t))(ctx:List Tm)(t:Tm):Le (gM r1 ctx t) (gM r2 ctx t):=by
 unfold gM
 split
 ·exact hr _ _
 ·exact Le.refl _
theorem uA:∀(N:Nat) (ctx:List Tm) (t:Tm),Le (bS N ctx t) (bS (N+1) ctx t)
 | 0,_,_=>fun r h=>by cases h
 | N+1,ctx,t=>by
  intro r h;by_cases hc:ctx.length≤20
  rotate_left
  ·obtain ⟨h1,rfl⟩:=sO (by omega) h;rw [bS,if_neg (fun h=>hc h.2),if_pos h1]
  obtain ⟨hv,hm,hj⟩:=vX hc h;rw [bS,if_pos ⟨hv,hm⟩];exact aQh (fun t=>aNo (uA N) ctx t) (fun i=>aRh (uA N) ctx t i) ctx t r hj
theorem yI {N M:Nat}(h:N≤M)(ctx:List Tm)(t:Tm):Le (bS N ctx t) (bS M ctx t):=by
 induction h with
 | refl=>exact Le.refl _
 | step h ih=>exact fun r hr=>uA _ _ _ r (ih r hr)
def Sm {α:Type}(o1 o2:Option (Rs α)):Prop:=∀r,o1=some r→∃r',o2=some r'∧∀s,r = .ok s↔r' = .ok s
theorem Sm.refl {α:Type}(o:Option (Rs α)):Sm o o:=fun r h=>⟨r,h,fun _=>Iff.rfl⟩
theorem Sm.le {α:Type}{o1 o2 o3:Option (Rs α)}(h:Sm o1 o2)(hl:Le o2 o3):Sm o1 o3:=fun r hr=>by
 obtain ⟨r',h1,h2⟩:=h r hr;exact ⟨r',hl _ h1,h2⟩
theorem uR {α:Type}(b b':Bool)(s:α):(Rs.no b:Rs α) = .ok s↔(Rs.no b':Rs α) = .ok s:=⟨fun h=>(by cases h),fun h=>(by cases h)⟩
theorem Sm.no {α:Type}{o1 o2:Option (Rs α)}{b:Bool}(h:Sm o1 o2)(h1:o1=some (.no b)):∃b',o2=some (.no b'):=by
 obtain ⟨r',h3,h4⟩:=h _ h1;cases r' with
 | ok s=>cases (h4 s).2 rfl
 | no b'=>exact ⟨b',h3⟩
theorem Sm.ok {α:Type}{o1 o2:Option (Rs α)}{a:α}(h:Sm o1 o2)(h1:o1=some (.ok a)):o2=some (.ok a):=by
 obtain ⟨r',h3,h4⟩:=h _ h1;rw [h3,(h4 a).1 rfl]
theorem iS {α β:Type}{o1 o2:Option (Rs α)}{f1 f2:α→Option (Rs β)}(h:Sm o1 o2)(hf:∀a,o1=some (.ok a)→Sm (f1 a) (f2 a)):Sm (bd o1 f1) (bd o2 f2):=by
 intro r hr;rcases aL hr with ⟨b,h1,rfl⟩|⟨a,h1,h2⟩
 ·obtain ⟨b',h3⟩:=h.no h1;exact ⟨.no b',by rw [h3];rfl,uR b b'⟩
 ·obtain ⟨r',h3,h4⟩:=hf a h1 r h2;exact ⟨r',by rw [h.ok h1,oO];exact h3,h4⟩
def SmV (o1 o2:Option (Rs Tm)):Prop:=Sm (bd o1 fL) o2
theorem gO {α:Type}{o1 o2:Option (Rs α)}{f1 f2:α→Option (Rs Tm)}(h:Sm o1 o2)(hf:∀a,o1=some (.ok a)→SmV (f1 a) (f2 a)):SmV (bd o1 f1) (bd o2 f2):=by
 intro r hr;rcases aL hr with ⟨b,h1,rfl⟩|⟨s,h1,h2⟩
 ·rcases aL h1 with ⟨b2,h3,h4⟩|⟨a,h3,h4⟩
  ·obtain ⟨b',h5⟩:=h.no h3;exact ⟨.no b',by rw [h5];rfl,uR b b'⟩
  ·obtain ⟨r',h5,h6⟩:=hf a h3 (.no b) (by rw [h4];rfl);exact ⟨r',by rw [h.ok h3,oO];exact h5,h6⟩
 ·rcases aL h1 with ⟨b2,h3,h4⟩|⟨a,h3,h4⟩
  ·cases h4
  ·obtain ⟨r',h5,h6⟩:=hf a h3 r (by rw [h4,oO];exact h2);exact ⟨r',by rw [h.ok h3,oO];exact h5,h6⟩
theorem nN (t:Tm):SmV (some (.ok t)) (fL t):=Sm.refl _
theorem kY {o1 o2:Option (Rs Tm)}(h:Sm o1 o2)(hv:∀s,o2=some (.ok s)→aE s=true):SmV o1 o2:=by
 intro r hr;rcases aL hr with ⟨b,h1,rfl⟩|⟨s,h1,h2⟩
 ·obtain ⟨b',h3⟩:=h.no h1;exact ⟨.no b',h3,uR b b'⟩
 ·have h3:=h.ok h1;rw [fL,if_pos (hv s h3)] at h2;exact ⟨.ok s,h3,fun s'=>by rw [← Option.some.inj h2]⟩
theorem aMa {o:Option (Rs Tm)}{w:Tm}{u:Unit}(hv:aE w=false)(h:kF o w=some (.ok u)):False:=by
 rcases aL h with ⟨b,_,h2⟩|⟨s,h1,h2⟩
 ·cases h2
 ·rw [wR,if_neg (fun h=>by rw [hv] at h;cases h.2)] at h2;cases h2
theorem aTn {α:Type}{o:Option (Rs Tm)}{w:Tm}{f:Unit→Option (Rs α)}{J:Option (Rs α)}(h:aE w=true→Sm (bd (kF o w) f) J):Sm (bd (kF o w) f) (vb w J):=by
 by_cases hv:aE w=true
 ·rw [vb,if_pos hv];exact h hv
 ·have hv:=Bool.eq_false_iff.2 hv;rw [vb,if_neg (by rw [hv];decide)];intro r hr;rcases aL hr with ⟨b,h1,rfl⟩|⟨s,h1,h2⟩
  ·exact ⟨_,rfl,uR b false⟩
  ·exact (aMa hv h1).elim
theorem aEt {o:Option (Rs Tm)}{w:Tm}{f:Unit→Option (Rs Tm)}{J:Option (Rs Tm)}(h:aE w=true→SmV (bd (kF o w) f) J):SmV (bd (kF o w) f) (vb w J):=by
 by_cases hv:aE w=true
 ·rw [vb,if_pos hv];exact h hv
 ·have hv:=Bool.eq_false_iff.2 hv;rw [vb,if_neg (by rw [hv];decide)];intro r hr;rcases aL hr with ⟨b,h1,rfl⟩|⟨s,h1,h2⟩
  ·exact ⟨_,rfl,uR b false⟩
  ·rcases aL h1 with ⟨b2,h3,h4⟩|⟨a,h3,h4⟩
   ·cases h4
   ·exact (aMa hv h3).elim
theorem pX {o1 o2:Option (Rs Tm)}(h:Sm o1 o2):Sm (pJ o1) (pJ o2):=iS h fun _ _=>Sm.refl _
theorem aDc {o1 o2:Option (Rs Tm)}(h:Sm o1 o2)(k:Int):Sm (qT o1 k) (qT o2 k):=iS h fun _ _=>Sm.refl _
theorem qA {o1 o2:Option (Rs Tm)}(h:Sm o1 o2)(t:Tm):Sm (kF o1 t) (kF o2 t):=iS h fun _ _=>Sm.refl _
theorem aPd {o1 o2:Option (Rs Tm)}(h:Sm o1 o2)(t:Tm):Sm (faV o1 t) (faV o2 t):=iS (aDc h 3) fun _ _=>Sm.refl _
theorem eM {N M:Nat}(ih:∀c t,aE t=true→Sm (bH N c t) (bS M c t))(ctx:List Tm)(k n:Int)(ks:List Tm)(i:Nat)(hu:aM k i=0)(hv:aE (aI ks i)=true):Sm (bH N ctx (aI ks i)) (iP (bS M) ctx (.mk k n ks) i):=by
 unfold iP
 rw [if_pos (show aM (Tm.mk k n ks).k i=0 from hu)];exact ih _ _ hv
theorem aDu {N M:Nat}(ih:∀c t,aE t=true→Sm (bH N c t) (bS M c t))(ctx:List Tm)(k n:Int)(ks:List Tm)(i:Nat)(hu:aM k i=1)(hv:aE (aI ks i)=true):Sm (bH N (ctx++[aI ks 0]) (aI ks i)) (iP (bS M) ctx (.mk k n ks) i):=by
 unfold iP
 rw [if_neg (show ¬aM (Tm.mk k n ks).k i=0 by show ¬aM k i=0;omega)];exact ih _ _ hv
theorem aQg {N M:Nat}(ih:∀c t,aE t=true→Sm (bH N c t) (bS M c t))(ctx:List Tm)(hc:ctx.length≤20)(a u:Tm)(hv:aE (.mk 3 0 [a,u])=true):Sm (aAt (bH N) ctx a u) (gM (bS (M+1)) ctx (.mk 3 0 [a,u])):=by
 rw [uE hv,bS,if_pos ⟨hv,hc⟩];have e:iV (gM (bS M) ctx) ctx (.mk 3 0 [a,u]) (iP (bS M) ctx (.mk 3 0 [a,u]))=bd (pJ (iP (bS M) ctx (.mk 3 0 [a,u]) 0)) fun i=>bd (pJ (iP (bS M) ctx (.mk 3 0 [a,u]) 1)) fun j=>some (.ok (.mk 2 (if j<i then i else j) [])):=rfl
 rw [e];exact iS (pX (eM ih ctx 3 0 [a,u] 0 rfl (aO hv (by simp [aI])))) fun i _=>iS (pX (aDu ih ctx 3 0 [a,u] 1 rfl (aO hv (by simp [aI])))) fun _ _=>Sm.refl _
theorem aQd {N M:Nat}(ih:∀c t,aE t=true→Sm (bH N c t) (bS M c t))(ctx:List Tm)(t:Tm)(hv:aE t=true)(hm:ctx.length≤20):Sm (bd (dQ (bH N) ctx t) fL) (iV (gM (bS (M+1)) ctx) ctx t (iP (bS (M+1)) ctx t)):=by
 have ih1:∀c t,aE t=true→Sm (bH N c t) (bS (M+1) c t):=fun c t h=>(ih c t h).le (uA M c t)
 have hjv:∀s,iV (gM (bS (M+1)) ctx) ctx t (iP (bS (M+1)) ctx t)=some (.ok s)→aE s=true:=fun s h=>qF h hv
 obtain ⟨k,n,ks⟩:=t;have har:=bG hv;have u0:∀(k:Int) (hk:k≠3∧k≠4∧k≠13) (i:Nat),aM k i=0:=fun k hk i=>aQp hk i
 have hk:∀i:Nat,i<ks.length→aE (aI ks i)=true:=fun i hi=>sM hv hi
 have hd:∀a,aE a=true→True:=fun _ _=>trivial
 change SmV (dQ (bH N) ctx (.mk k n ks)) _
 by_cases e1:k=1
 ·have ej:iV (gM (bS (M+1)) ctx) ctx (.mk k n ks) (iP (bS (M+1)) ctx (.mk k n ks))=if (ctx.length:Int)≤n then some (.no true) else fL (bT (n+1) 0 (ctx.getD (ctx.length - 1 - n.toNat) default)):=by
   unfold iV;rw [if_pos (show (Tm.mk k n ks).k=1 from e1)];rfl
  have ek:dQ (bH N) ctx (.mk k n ks)=aBu ctx n:=by
   subst e1;rw [dQ];simp
  rw [ej,ek,aBu];split
  ·exact Sm.refl _
  ·exact nN _
 by_cases e2:k=2
 ·have h3:dG 2=3:=rfl;have ej:iV (gM (bS (M+1)) ctx) ctx (.mk k n ks) (iP (bS (M+1)) ctx (.mk k n ks))=if n=3 then some (.no true) else some (.ok (.mk 2 (n+1) [])):=by
   unfold iV;rw [if_neg (show ¬(Tm.mk k n ks).k=1 from e1),if_pos (show (Tm.mk k n ks).k=2 from e2)];rfl
  have ek:dQ (bH N) ctx (.mk k n ks)=if 3≤n then some (.no true) else some (.ok (.mk 2 (n+1) [])):=by
   subst e2;rw [dQ];simp
  have hn:n≤3:=by
   have:=har;subst e2;omega
  refine kY ?_ hjv;rw [ej,ek];by_cases h:n=3
  ·rw [if_pos (by omega),if_pos h];exact Sm.refl _
  ·rw [if_neg (by omega),if_neg h];exact Sm.refl _
 by_cases e6:k=6
 ·subst e6;refine kY ?_ hjv;have ek:dQ (bH N) ctx (.mk 6 n ks)=some (.ok (.mk 2 0 [])):=by rw [dQ];simp
  rw [ek];exact Sm.refl _
 by_cases e7:k=7
 ·subst e7;refine kY ?_ hjv;have ek:dQ (bH N) ctx (.mk 7 n ks)=some (.ok nT):=by rw [dQ];simp
  rw [ek];exact Sm.refl _
 by_cases e8:k=8
 ·subst e8;refine kY ?_ hjv;have ek:dQ (bH N) ctx (.mk 8 n ks)=aRs (bH N) ctx (aI ks 0):=by rw [dQ];simp
  have ej:iV (gM (bS (M+1)) ctx) ctx (.mk 8 n ks) (iP (bS (M+1)) ctx (.mk 8 n ks))=bd (kF (iP (bS (M+1)) ctx (.mk 8 n ks) 0) nT) fun _=>some (.ok nT):=rfl
  rw [ek,ej];exact iS (qA (eM ih1 ctx 8 n ks 0 rfl (hk 0 (by have h3:aU 8=1:=rfl;omega))) nT) fun _ _=>Sm.refl _
 by_cases e3:k=3∨k=13
 ·have a2:aU k=2:=by rcases e3 with rfl|rfl<;>rfl
  have a0:aM k ((0:Nat):Int)=0:=by rcases e3 with rfl|rfl<;>rfl
  have a1:aM k ((1:Nat):Int)=1:=by rcases e3 with rfl|rfl<;>rfl
  refine kY ?_ hjv;have ek:dQ (bH N) ctx (.mk k n ks)=aAt (bH N) ctx (aI ks 0) (aI ks 1):=by rw [dQ,if_pos e3]
  have ej:iV (gM (bS (M+1)) ctx) ctx (.mk k n ks) (iP (bS (M+1)) ctx (.mk k n ks))=bd (pJ (iP (bS (M+1)) ctx (.mk k n ks) 0)) fun i=>bd (pJ (iP (bS (M+1)) ctx (.mk k n ks) 1)) fun j=>some (.ok (.mk 2 (if j<i then i else j) [])):=by
   rcases e3 with rfl|rfl<;>rfl
  rw [ek,ej];exact iS (pX (eM ih1 ctx k n ks 0 a0 (hk 0 (by omega)))) fun i _=>iS (pX (aDu ih1 ctx k n ks 1 a1 (hk 1 (by omega)))) fun _ _=>Sm.refl _
 by_cases e4:k=4
 ·subst e4;have a2:aU 4=2:=rfl;have ek:dQ (bH N) ctx (.mk 4 n ks)=aKd (bH N) ctx (aI ks 0) (aI ks 1):=by rw [dQ];simp
  have ej:iV (gM (bS (M+1)) ctx) ctx (.mk 4 n ks) (iP (bS (M+1)) ctx (.mk 4 n ks))=bd (pJ (iP (bS (M+1)) ctx (.mk 4 n ks) 0)) fun _=>bd (iP (bS (M+1)) ctx (.mk 4 n ks) 1) fun u=>bd (gM (bS (M+1)) ctx (.mk 3 0 [aI ks 0,u])) fun _=>fL (.mk 3 0 [aI ks 0,u]):=rfl
  rw [ek,ej,aKd];refine gO (pX (eM ih1 ctx 4 n ks 0 rfl (hk 0 (by omega)))) fun i _=>gO (aDu ih1 ctx 4 n ks 1 rfl (hk 1 (by omega))) fun u _=>?_
  by_cases hp:aE (.mk 3 0 [aI ks 0,u])=true
  ·exact gO (aQg ih ctx hm _ _ hp) fun _ _=>nN _
  ·have hp:=Bool.eq_false_iff.2 hp;have er:gM (bS (M+1)) ctx (.mk 3 0 [aI ks 0,u])=some (.no false):=by rw [gM,if_neg (by rw [hp];decide)]
   rw [er];intro r hr;rcases aL hr with ⟨b,h1,rfl⟩|⟨s,h1,h2⟩
   ·exact ⟨_,rfl,uR b false⟩
   ·rcases aL h1 with ⟨b,_,h4⟩|⟨a,_,h4⟩
    ·cases h4
    ·injection h4 with h4;injection h4 with h4;rw [← h4,fL,if_neg (by rw [hp];decide)] at h2;rw [← Option.some.inj h2];exact ⟨_,rfl,uR false false⟩
 by_cases e5:k=5
 ·subst e5;have a2:aU 5=2:=rfl;have ek:dQ (bH N) ctx (.mk 5 n ks)=aOv (bH N) ctx (aI ks 0) (aI ks 1):=by rw [dQ];simp
  have ej:iV (gM (bS (M+1)) ctx) ctx (.mk 5 n ks) (iP (bS (M+1)) ctx (.mk 5 n ks))=bd (qT (iP (bS (M+1)) ctx (.mk 5 n ks) 0) 3) fun h=>bd (kF (iP (bS (M+1)) ctx (.mk 5 n ks) 1) (aI h.ks 0)) fun _=>fL (bX (aI ks 1) 0 0 (aI h.ks 1)):=rfl
  rw [ek,ej,aOv];exact gO (aDc (eM ih1 ctx 5 n ks 0 rfl (hk 0 (by omega))) 3) fun h _=>gO (qA (eM ih1 ctx 5 n ks 1 rfl (hk 1 (by omega))) _) fun _ _=>nN _
 by_cases e9:k=9
 ·subst e9;have a4:aU 9=4:=rfl;have ek:dQ (bH N) ctx (.mk 9 n ks)=aOd (bH N) ctx (aI ks 0) (aI ks 1) (aI ks 2) (aI ks 3):=by rw [dQ];simp
  have ej:iV (gM (bS (M+1)) ctx) ctx (.mk 9 n ks) (iP (bS (M+1)) ctx (.mk 9 n ks))=bd (faV (iP (bS (M+1)) ctx (.mk 9 n ks) 0) nT) fun _=>vb (dZ (aI ks 0) (.mk 7 0 [])) (bd (kF (iP (bS (M+1)) ctx (.mk 9 n ks) 1) (dZ (aI ks 0) (.mk 7 0 []))) fun _=>vb (mH (aI ks 0)) (bd (kF (iP (bS (M+1)) ctx (.mk 9 n ks) 2) (mH (aI ks 0))) fun _=>bd (kF (iP (bS (M+1)) ctx (.mk 9 n ks) 3) nT) fun _=>fL (dZ (aI ks 0) (aI ks 3)))):=rfl
  rw [ek,ej,aOd];exact gO (aPd (eM ih1 ctx 9 n ks 0 rfl (hk 0 (by omega))) _) fun _ _=>aEt fun _=>gO (qA (eM ih1 ctx 9 n ks 1 rfl (hk 1 (by omega))) _) fun _ _=>aEt fun _=>gO (qA (eM ih1 ctx 9 n ks 2 rfl (hk 2 (by omega))) _) fun _ _=>gO (qA (eM ih1 ctx 9 n ks 3 rfl (hk 3 (by omega))) _) fun _ _=>nN _
 by_cases e10:k=10
 ·subst e10;have a3:aU 10=3:=rfl;refine kY ?_ hjv;have ek:dQ (bH N) ctx (.mk 10 n ks)=aOe (bH N) ctx (aI ks 0) (aI ks 1) (aI ks 2):=by rw [dQ];simp
  have ej:iV (gM (bS (M+1)) ctx) ctx (.mk 10 n ks) (iP (bS (M+1)) ctx (.mk 10 n ks))=bd (pJ (iP (bS (M+1)) ctx (.mk 10 n ks) 0)) fun i=>bd (kF (iP (bS (M+1)) ctx (.mk 10 n ks) 1) (aI ks 0)) fun _=>bd (kF (iP (bS (M+1)) ctx (.mk 10 n ks) 2) (aI ks 0)) fun _=>some (.ok (.mk 2 i [])):=rfl
  rw [ek,ej,aOe];exact iS (pX (eM ih1 ctx 10 n ks 0 rfl (hk 0 (by omega)))) fun _ _=>iS (qA (eM ih1 ctx 10 n ks 1 rfl (hk 1 (by omega))) _) fun _ _=>iS (qA (eM ih1 ctx 10 n ks 2 rfl (hk 2 (by omega))) _) fun _ _=>Sm.refl _
 by_cases e11:k=11
 ·subst e11;have a3:aU 11=1:=rfl;have ek:dQ (bH N) ctx (.mk 11 n ks)=aOy (bH N) ctx (aI ks 0):=by rw [dQ];simp
  have ej:iV (gM (bS (M+1)) ctx) ctx (.mk 11 n ks) (iP (bS (M+1)) ctx (.mk 11 n ks))=bd (iP (bS (M+1)) ctx (.mk 11 n ks) 0) fun s=>bd (pJ (gM (bS (M+1)) ctx s)) fun _=>fL (.mk 10 0 [s,aI ks 0,aI ks 0]):=rfl
  rw [ek,ej,aOy];exact gO (eM ih1 ctx 11 n ks 0 rfl (hk 0 (by omega))) fun s hs=>gO (pX (by rw [uE (cY hs)];exact ih1 ctx s (cY hs))) fun _ _=>nN _
 by_cases e12:k=12
 ·subst e12;have a3:aU 12=3:=rfl;have ek:dQ (bH N) ctx (.mk 12 n ks)=aNv (bH N) ctx (aI ks 0) (aI ks 1) (aI ks 2):=by rw [dQ];simp
  have ej:iV (gM (bS (M+1)) ctx) ctx (.mk 12 n ks) (iP (bS (M+1)) ctx (.mk 12 n ks))=bd (qT (iP (bS (M+1)) ctx (.mk 12 n ks) 1) 10) fun e=>bd (faV (iP (bS (M+1)) ctx (.mk 12 n ks) 0) (aI e.ks 0)) fun _=>vb (dZ (aI ks 0) (aI e.ks 1)) (bd (kF (iP (bS (M+1)) ctx (.mk 12 n ks) 2) (dZ (aI ks 0) (aI e.ks 1))) fun _=>fL (dZ (aI ks 0) (aI e.ks 2))):=rfl
  rw [ek,ej,aNv];exact gO (aDc (eM ih1 ctx 12 n ks 1 rfl (hk 1 (by omega))) 10) fun e _=>gO (aPd (eM ih1 ctx 12 n ks 0 rfl (hk 0 (by omega))) _) fun _ _=>aEt fun _=>gO (qA (eM ih1 ctx 12 n ks 2 rfl (hk 2 (by omega))) _) fun _ _=>nN _
 by_cases e14:k=14
 ·subst e14;have a3:aU 14=3:=rfl;refine kY ?_ hjv;have ek:dQ (bH N) ctx (.mk 14 n ks)=aNi (bH N) ctx (aI ks 0) (aI ks 1) (aI ks 2):=by rw [dQ];simp
  have ej:iV (gM (bS (M+1)) ctx) ctx (.mk 14 n ks) (iP (bS (M+1)) ctx (.mk 14 n ks))=bd (pJ (iP (bS (M+1)) ctx (.mk 14 n ks) 0)) fun _=>bd (some (lD (aI ks 0))) fun h=>bd (kN 13 h) fun h=>bd (kF (iP (bS (M+1)) ctx (.mk 14 n ks) 1) (aI h.ks 0)) fun _=>vb (bX (aI ks 1) 0 0 (aI h.ks 1)) (bd (kF (iP (bS (M+1)) ctx (.mk 14 n ks) 2) (bX (aI ks 1) 0 0 (aI h.ks 1))) fun _=>some (.ok (aI ks 0))):=rfl
  rw [ek,ej,aNi];exact iS (pX (eM ih1 ctx 14 n ks 0 rfl (hk 0 (by omega)))) fun _ _=>iS (Sm.refl _) fun h _=>iS (Sm.refl _) fun h _=>iS (qA (eM ih1 ctx 14 n ks 1 rfl (hk 1 (by omega))) _) fun _ _=>aTn fun _=>iS (qA (eM ih1 ctx 14 n ks 2 rfl (hk 2 (by omega))) _) fun _ _=>Sm.refl _
 have ar1:aU k=1:=by
  have:=sV (k:=k) (by have:=har.1;omega) e3 e4 e5 e9 e10 e12 e14 e1 e2 e6 e7 e8 e11;rcases this with rfl|rfl<;>rfl
 have hk15:k=15∨k=16:=sV (k:=k) (by have:=har.1;omega) e3 e4 e5 e9 e10 e12 e14 e1 e2 e6 e7 e8 e11;have u15:aM k ((0:Nat):Int)=0:=by rcases hk15 with rfl|rfl<;>rfl
 have ek:dQ (bH N) ctx (.mk k n ks)=aKv (bH N) ctx k (aI ks 0):=by
  rcases hk15 with rfl|rfl<;>(rw [dQ];simp)
 by_cases e15:k=15
 ·subst e15;refine kY ?_ hjv;have ej:iV (gM (bS (M+1)) ctx) ctx (.mk 15 n ks) (iP (bS (M+1)) ctx (.mk 15 n ks))=bd (qT (iP (bS (M+1)) ctx (.mk 15 n ks) 0) 13) fun h=>some (.ok (aI h.ks 0)):=rfl
  rw [ek,ej,aKv];exact iS (aDc (eM ih1 ctx 15 n ks 0 rfl (hk 0 (by omega))) 13) fun h _=>by rw [if_pos rfl];exact Sm.refl _
 ·obtain rfl:k=16:=by omega
  have ej:iV (gM (bS (M+1)) ctx) ctx (.mk 16 n ks) (iP (bS (M+1)) ctx (.mk 16 n ks))=bd (qT (iP (bS (M+1)) ctx (.mk 16 n ks) 0) 13) fun h=>fL (bX (.mk 15 0 [aI ks 0]) 0 0 (aI h.ks 1)):=rfl
  rw [ek,ej,aKv];exact gO (aDc (eM ih1 ctx 16 n ks 0 rfl (hk 0 (by omega))) 13) fun h _=>by rw [if_neg e15];exact nN _
theorem sL:∀(N:Nat) (ctx:List Tm) (t:Tm),aE t=true→Sm (bH N ctx t) (bS (2*N) ctx t)
 | 0,_,_,_=>fun r h=>by cases h
 | N+1,ctx,t,hv=>by
  have ih:=sL N;have e2:2*(N+1)=(2*N+1)+1:=by omega
  rw [e2,bH,bS];by_cases hm:ctx.length≤20
  ·rw [if_pos ⟨hv,hm⟩,if_pos ⟨hv,hm⟩];exact aQd ih ctx t hv hm
  ·rw [if_neg (fun h=>hm h.2),if_neg (fun h=>hm h.2),if_pos hv];exact Sm.refl _
def cpG (N:Nat)(ctx:List Tm):Nat→Option Int
 | 0=>some 0
 | m+1=>match pJ (bS N (ctx.take (ctx.length - (m+1))) (ctx.getD (ctx.length - (m+1)) default)) with
  | none=>none
  | some (.no b)=>some (cX b)
  | some (.ok _)=>cpG N ctx m
def cpR (N:Nat)(ctx:List Tm):Option Int:=if kB ctx=true then cpG N ctx ctx.length else some 3
theorem aLm (b:Bool):cX b≠0:=by cases b<;>decide
theorem aCj (r:Rs Tm):∃q,pJ (some r)=some q:=by
 cases r with
 | no b=>exact ⟨_,rfl⟩
 | ok s=>
  show ∃q,bd (some (lD s)) vE=some q
  cases lD s with
  | no b=>exact ⟨_,rfl⟩
  | ok h=>show ∃q,vE h=some q;unfold vE;split<;>exact ⟨_,rfl⟩
theorem aDe {N M:Nat}(h:N≤M){ctx:List Tm}:∀{m:Nat} {co:Int},ccG N ctx m=some co→ccG M ctx m=some co
 | 0,_,e=>e
 | m+1,co,e=>by
  rw [ccG] at e⊢;cases hq:jA (bH N) (ctx.take (ctx.length - (m+1))) (ctx.getD (ctx.length - (m+1)) default) with
  | none=>rw [hq] at e;cases e
  | some q=>
   rw [show jA (bH M) _ _=some q from jT (jD h _ _) q hq];rw [hq] at e;cases q with
   | no b=>exact e
   | ok l=>exact aDe h e
theorem aCq {N M:Nat}(h:N≤M){ctx:List Tm}:∀{m:Nat} {co:Int},cpG N ctx m=some co→cpG M ctx m=some co
 | 0,_,e=>e
 | m+1,co,e=>by
  rw [cpG] at e⊢;cases hq:pJ (bS N (ctx.take (ctx.length - (m+1))) (ctx.getD (ctx.length - (m+1)) default)) with
  | none=>rw [hq] at e;cases e
  | some q=>
   rw [jT (yI h _ _) q hq];rw [hq] at e;cases q with
   | no b=>exact e
   | ok l=>exact aCq h e
theorem CxG.ats {G:List Tm}(h:CxG G):∀j,j<G.length→CxG (G.take j)∧∃N l,jA (bH N) (G.take j) (G.getD j default)=some (.ok l):=by
 induction h with
 | nil=>intro j hj;cases hj
 | @snoc G A N l hG hs ih=>
  intro j hj;rw [List.length_append] at hj;by_cases e:j=G.length
  ·subst e;have e1:(G++[A]).take G.length=G:=List.take_left'  rfl;have e2:(G++[A]).getD G.length default=A:=by simp [List.getD]
   rw [e1,e2];exact ⟨hG,N,l,hs⟩
  ·have hj2:j<G.length:=by simp at hj;omega
   have e1:(G++[A]).take j=G.take j:=by rw [List.take_append_of_le_length (by omega)]
   have e2:(G++[A]).getD j default=G.getD j default:=by simp [List.getD,List.getElem?_append_left hj2]
   rw [e1,e2];exact ih j hj2
theorem vA {N M:Nat}{G:List Tm}{A:Tm}{r q:Rs Int}(h1:jA (bH N) G A=some r)(h2:jA (bH M) G A=some q):r=q:=by
 have a:=jT (jD (Nat.le_max_left N M) G A) r h1;have b:=jT (jD (Nat.le_max_right N M) G A) q h2;rw [a] at b;exact Option.some.inj b
theorem aHc {G:List Tm}{j:Nat}(hj:j<G.length):G.take (j+1)=G.take j++[G.getD j default]:=by
 rw [List.take_add_one];simp [List.getD,qR hj]
theorem aJq {ctx:List Tm}(hf:∀u,u∈ctx→aE u=true):∀(m j:Nat),j+m=ctx.length→CxG (ctx.take j)→∃N M co co',ccG N ctx m=some co∧cpG M ctx m=some co'∧(co=0↔CxG ctx)∧(co'=0↔CxG ctx)
 | 0,j,hj,hG=>by
  have e:ctx.take j=ctx:=List.take_of_length_le (by omega);rw [e] at hG;exact ⟨0,0,0,0,rfl,rfl,⟨fun _=>hG,fun _=>rfl⟩,⟨fun _=>hG,fun _=>rfl⟩⟩
 | m+1,j,hj,hG=>by
  have hlt:j<ctx.length:=by omega
  have ej:ctx.length - (m+1)=j:=by omega
  obtain ⟨N0,r,hr⟩:=aBk (ctx.getD j default) _ hG;obtain ⟨q,hq⟩:=aCj r;rw [← hr] at hq;have hva:aE (ctx.getD j default)=true:=by
   have:ctx.getD j default=ctx[j]:=by simp [List.getD,qR hlt]
   rw [this];exact hf _ (iC hlt)
  obtain ⟨q',hq',hqq⟩:=pX (sL N0 _ _ hva) q hq;cases q with
  | no b=>
   have hnc:¬CxG ctx:=fun hc=>by
    obtain ⟨_,N,l,hs⟩:=hc.ats j hlt;have:=vA hq hs;cases this
   cases q' with
   | ok l=>have:=(hqq l).2 rfl;cases this
   | no b'=>
    refine ⟨N0,2*N0,cX b,cX b',?_,?_,⟨fun h=>absurd h (aLm b),fun h=>absurd h hnc⟩,⟨fun h=>absurd h (aLm b'),fun h=>absurd h hnc⟩⟩
    ·rw [ccG,ej,show jA (bH N0) _ _=_ from hq]
    ·rw [cpG,ej,hq']
  | ok l=>
   have h1:q' = .ok l:=(hqq l).1 rfl;subst h1;obtain ⟨N1,M1,co,co',h1,h2,h3,h4⟩:=aJq hf m (j+1) (by omega) (by rw [aHc hlt];exact .snoc hG hq);refine ⟨max N0 N1,max (2*N0) M1,co,co',?_,?_,h3,h4⟩
   ·rw [ccG,ej,show jA (bH (max N0 N1)) _ _=_ from jT (jD (Nat.le_max_left _ _) _ _) _ hq];exact aDe (Nat.le_max_right _ _) h1
   ·rw [cpG,ej,jT (yI (Nat.le_max_left _ _) _ _) _ hq'];exact aCq (Nat.le_max_right _ _) h2
def CxO (ctx:List Tm):Prop:=kB ctx=true∧CxG ctx
def Sok (ctx:List Tm)(t:Tm):Prop:=CxO ctx∧aE t=true∧∃N l,jA (bH N) ctx t=some (.ok l)
theorem aCx (ctx:List Tm):∃N M co co',ccR N ctx=some co∧cpR M ctx=some co'∧(co=0↔CxO ctx)∧(co'=0↔CxO ctx):=by
 unfold ccR cpR CxO
 cases hf:kB ctx with
 | false=>exact ⟨0,0,3,3,rfl,rfl,⟨fun h=>by omega,fun h=>by cases h.1⟩,⟨fun h=>by omega,fun h=>by cases h.1⟩⟩
 | true=>
  obtain ⟨N,M,co,co',h1,h2,h3,h4⟩:=aJq (jN hf).1 ctx.length 0 (by omega) (by rw [List.take_zero];exact .nil);exact ⟨N,M,co,co',by rw [if_pos rfl];exact h1,by rw [if_pos rfl];exact h2,⟨fun h=>⟨rfl,h3.1 h⟩,fun h=>h3.2 h.2⟩,⟨fun h=>⟨rfl,h4.1 h⟩,fun h=>h4.2 h.2⟩⟩
theorem aBy {ctx:List Tm}(hc:CxG ctx){t:Tm}(hv:aE t=true):∃N q q',jA (bH N) ctx t=some q∧pJ (bS (2*N) ctx t)=some q'∧∀l,q = .ok l↔q' = .ok l:=by
 obtain ⟨N,r,hr⟩:=aBk t _ hc;obtain ⟨q,hq⟩:=aCj r;rw [← hr] at hq;obtain ⟨q',h1,h2⟩:=pX (sL N ctx t hv) q hq;exact ⟨N,q,q',hq,h1,h2⟩
theorem aAo (N:Nat)(ctx:List Tm):bS N ctx default=none:=by
 cases N with
 | zero=>rfl
 | succ N=>rw [bS,if_neg (fun h=>absurd h.1 (by decide +kernel)),if_neg (by decide +kernel)]
theorem aRg {N:Nat}{ctx:List Tm}{k n:Int}{ks:List Tm}{i:Nat}{r:Rs Tm}(h:iP (bS N) ctx (.mk k n ks) i=some r):i<ks.length:=by
 by_cases hi:i<ks.length
 ·exact hi
 ·have hk:aI ks i=default:=by simp [aI,List.getD,List.getElem?_eq_none (Nat.le_of_not_lt hi)]
  unfold iP at h
  simp only [Tm.k,Tm.ks,hk,aAo] at h
  split at h<;>cases h
theorem aHr {N:Nat}{ctx:List Tm}{t:Tm}:TyV (iP (bS N) ctx t):=by
 intro i s h;unfold iP at h
 split at h
 ·exact iZ h
 ·exact iZ h
theorem aHi (C:Option Addr)(m cc:Nat)(k n:Int)(A:Option Addr)(la c:Nat)(w:World)(hm:20≤m) :
  Calls prog 136 #[.slice C m cc,.agg (Ro k n A la c)] w fun e w'=>e = .returned (.tuple #[.slice none 0 0,.int .i64 2])∧Bw w w':=by
 have hq:decide ((20:Int)≤(m:Int))=true:=decide_eq_true (by omega);go_enter func136,ntmps136;go_wp2_with fail
 go_ret2
 exact ⟨rfl,bw1⟩
theorem aHt (C:Option Addr)(m cc:Nat)(k n:Int)(ka na:Int)(sa:List Tm)(ts:List Tm)(A:Option Addr)(c:Nat)(i:Nat)(w:World)(hu:aM k i=1)(hm:20≤m)(hra:Rd w A 0 (.mk ka na sa::ts)) :
  Calls prog 117 #[.slice C m cc,.agg (Ro k n A (ts.length+1) c),.int .i64 i] w fun e w'=>e = .returned (.tuple #[.slice none 0 0,.int .i64 2])∧Bw w w':=by
 have hu':=aD hu;clear hu;obtain ⟨ba,oa,Aa,ca,rfl,i1,i2,i3,hla,ra⟩:=oJ hra;simp only [Nat.zero_mul,Nat.add_zero] at i1 i2 i3
 have lb:=mI _ _ i1;have q2:(0:Int)<((ts.length:Nat):Int)+1:=by omega
 go_enter func117,ntmps117;go_wp2_with (first
  | (go_at_call 136;refine (aHi C m cc ka na Aa _ ca _ hm).mono ?_;rintro e w2 ⟨rfl,hb2⟩)
  | (go_at_call 108;refine (kM _ _ _).mono ?_;rw [hu'.out];rintro e w1 ⟨rfl,rfl⟩))
 go_ret2
 exact ⟨rfl,bw1.trans (hb2.mono (by simp))⟩
theorem aMr {N:Nat}(ih:aEb N)(ctx:List Tm)(C:Option Addr)(cc:Nat)(k n:Int)(ks:List Tm)(A:Option Addr)(c b2 b3:Nat)(w:World)(hv:aE (.mk k n ks)=true)(hvc:∀u,u∈ctx→aE u=true)(hm:ctx.length≤20)(hB2:Blk w b2 #[.slice C ctx.length cc])(hB3:Blk w b3 (Ro k n A ks.length c))(hrc:Rd w C 0 ctx)(hra:Rd w A 0 ks) :
  TyX 116 #[.pointer (some ⟨b2,0,none⟩),.pointer (some ⟨b3,0,none⟩)] w (iP (bS N) ctx (.mk k n ks)):=by
 refine ⟨⟨b2,b3,rfl,rfl⟩,?_⟩;intro i r hi ht w' hw' args ha;subst ha;show Calls prog 116 #[.int .i64 i,.pointer (some ⟨b2,0,none⟩),.pointer (some ⟨b3,0,none⟩)] w' _
 have hi2:=aRg ht;have hrc':=hrc.below hw';have hra':=hra.below hw';have hB2':=hB2.keep hw';have hB3':=hB3.keep hw';have lb2:=hB2'.lt;have lb3:=hB3'.lt;have z0:=hB2'.at_ (i:=0) rfl;obtain ⟨b,off,k1,n1,ks1,A1,c1,rfl,hkj,i1,i2,i3,hl1,hr1⟩:=hra'.at_ hi2;obtain ⟨x0,x1,x2⟩:=hB3'.three;have lb:=mI _ _ i1;have hil:(i:Int)<(ks.length:Int):=by omega
 unfold iP at ht
 simp only [Tm.k,Tm.ks,aLl hi2,hkj] at ht
 by_cases hu0:aM k i=0
 ·rw [if_pos hu0] at ht;have hvr:=aD (fun (t:Tm) (h:r = .ok t)=>by rw [h] at ht;exact iZ ht);have hih:=aD (fun (w:World) (h1:Rd w C 0 ctx) (h2:Rd w A1 0 ks1)=>ih ctx k1 n1 ks1 r hm ht hvc C cc A1 c1 w h1 h2);have hu:=aD hu0;clear hu0 ht hkj;cases r with
  | no bb=>
   go_enter func116,ntmps116;go_wp2_with (first
    | (go_at_call 96;have _t:=tok1;refine (hih.out _ (hrc'.below g1) (hr1.below g1)).mono ?_;rintro e w2 ⟨rfl,hb2⟩;have hZ2:=hZ1.keep hb2;have g2:=g1.trans (hb2.mono g1.size);obtain ⟨d0,d1,d2,e0,e1,e2⟩:=bW hZ2)
    | (go_at_call 117;refine (aGp C ctx.length cc k n _ ks.length c i _ hu.out).mono ?_;rintro e w1 ⟨rfl,hb1⟩;have hZ1:Blk w1 w'.heap.size Zr:=(aC _ 32 _ rfl).keep hb1;have g1:Bw w' w1:=bw1.trans (hb1.mono (by simp));have y2:=(cM g1) _ _ x2;obtain ⟨y0,y1,y3⟩:=wT g1 i1 i2 i3;have tok1:=trivial))
   refine bodyPost_ret (v:=.tuple #[.agg Zr,.int .i64 (cX bb)]) (by simp [results,results116,go_sem,d0,d1,d2]) rfl ⟨rfl,?_⟩;exact bP g2
  | ok t=>
   obtain ⟨kr,nr,sr⟩:=t;replace hvr:=aD (hvr.out _ rfl);go_enter func116,ntmps116;go_wp2_with (first
    | (go_at_call 96;have _t:=tok1;refine (hih.out _ (hrc'.below g1) (hr1.below g1)).mono ?_;rintro e w2 ⟨A9,c9,rfl,hl9,r9,hb2⟩;have hZ2:=hZ1.keep hb2;have g2:=g1.trans (hb2.mono g1.size);obtain ⟨d0,d1,d2,e0,e1,e2⟩:=bW hZ2)
    | (go_at_call 117;refine (aGp C ctx.length cc k n _ ks.length c i _ hu.out).mono ?_;rintro e w1 ⟨rfl,hb1⟩;have hZ1:Blk w1 w'.heap.size Zr:=(aC _ 32 _ rfl).keep hb1;have g1:Bw w' w1:=bw1.trans (hb1.mono (by simp));have y2:=(cM g1) _ _ x2;obtain ⟨y0,y1,y3⟩:=wT g1 i1 i2 i3;have tok1:=trivial))
   refine bodyPost_ret (v:=.tuple #[.agg (Ro kr nr A9 sr.length c9),.int .i64 0]) (by simp [results,results116,go_sem,d0,d1,d2]) rfl ⟨A9,c9,rfl,hl9,bQ hZ2 hvr.out r9 _ _ _,?_⟩;exact bP g2
 ·rw [if_neg hu0] at ht;have hu1:aM k i=1:=by have:=cW k i;omega
  have hun:(i:Int)=1∧binds k=true:=by unfold aM at hu1;split at hu1<;>simp_all
  obtain rfl:i=1:=by omega
  by_cases hm20:ctx.length<20
  rotate_left
  ·obtain rfl:=(sO (by rw [List.length_append,List.length_singleton];omega) ht).2;obtain ⟨a0,ts,rfl⟩:∃a0 ts,ks=a0::ts:=by cases ks with|nil=>simp at hi2|cons a ts=>exact ⟨a,ts,rfl⟩
   obtain ⟨ka,na,sa⟩:=a0;have hop:=aD (fun (w:World) (h2:Rd w (some ⟨b,off,none⟩) 0 (.mk ka na sa::ts))=>aHt C ctx.length cc k n ka na sa ts (some ⟨b,off,none⟩) c 1 w hu1 (by omega) h2);simp only [List.length_cons] at x2
   clear ht hkj hu0 hu1 hun;rw [List.length_cons] at *;go_enter func116,ntmps116;go_wp2_with (go_at_call 117;refine (hop.out _ (hra'.alloc _)).mono ?_;rintro e w1 ⟨rfl,hb1⟩;have hZ1:Blk w1 w'.heap.size Zr:=(aC _ 32 _ rfl).keep hb1;have g1:Bw w' w1:=bw1.trans (hb1.mono (by simp));obtain ⟨d0,d1,d2,e0,e1,e2⟩:=bW hZ1)
   refine bodyPost_ret (v:=.tuple #[.agg Zr,.int .i64 2]) (by simp [results,results116,go_sem,d0,d1,d2]) rfl ⟨rfl,?_⟩;exact bP g1
  obtain ⟨a0,ts,rfl⟩:∃a0 ts,ks=a0::ts:=by cases ks with|nil=>simp at hi2|cons a ts=>exact ⟨a,ts,rfl⟩
  obtain ⟨ka,na,sa⟩:=a0;have hk0:aI (Tm.mk ka na sa::ts) 0 = .mk ka na sa:=rfl;rw [hk0] at ht;have hvr:=aD (fun (t:Tm) (h:r = .ok t)=>by rw [h] at ht;exact iZ ht);have hv0:=aO hv (t:=.mk ka na sa) (by simp);have hlt:ts.length≤1000:=by have:=aH hv;have:=aJ (Tm.mk ka na sa::ts);simp at this;omega
  have hih:=aD (fun (D:Option Addr) (d:Nat) (w:World) (h1:Rd w D 0 (ctx++[.mk ka na sa])) (h2:Rd w A1 0 ks1)=>by
   have:=ih (ctx++[.mk ka na sa]) k1 n1 ks1 r (by rw [List.length_append,List.length_singleton];omega) ht (fun u hu=>by rcases List.mem_append.1 hu with h|h;exact hvc u h;(rw [List.mem_singleton.1 h];exact hv0)) D d A1 c1 w h1 h2;rw [show (ctx++[Tm.mk ka na sa]).length=ctx.length+1 from by simp] at this;exact this)
  have hop:=aD (fun (w:World) (h1:Rd w C 0 ctx) (h2:Rd w (some ⟨b,off,none⟩) 0 (.mk ka na sa::ts))=>aJn ctx C cc k n ka na sa ts (some ⟨b,off,none⟩) c 1 w hu1 (by omega) hlt h1 h2);simp only [List.length_cons] at x2
  clear ht hkj hu0 hu1 hun;rw [List.length_cons] at *;cases r with
  | no bb=>
   go_enter func116,ntmps116;go_wp2_with (first
    | (go_at_call 96;have _t:=tok1;refine (hih.out D d _ hrD (hr1.below g1)).mono ?_;rintro e w2 ⟨rfl,hb2⟩;have hZ2:=hZ1.keep hb2;have g2:=g1.trans (hb2.mono g1.size);obtain ⟨d0,d1,d2,e0,e1,e2⟩:=bW hZ2)
    | (go_at_call 117;refine (hop.out _ (hrc'.alloc _) (hra'.alloc _)).mono ?_;rintro e w1 ⟨D,d,rfl,hrD,hb1⟩;simp only [List.length_append,List.length_cons,List.length_nil,Nat.zero_add];have hZ1:Blk w1 w'.heap.size Zr:=(aC _ 32 _ rfl).keep hb1;have g1:Bw w' w1:=bw1.trans (hb1.mono (by simp));have y2:=(cM g1) _ _ x2;obtain ⟨y0,y1,y3⟩:=wT g1 i1 i2 i3;have tok1:=trivial))
   refine bodyPost_ret (v:=.tuple #[.agg Zr,.int .i64 (cX bb)]) (by simp [results,results116,go_sem,d0,d1,d2]) rfl ⟨rfl,?_⟩;exact bP g2
  | ok t=>
   obtain ⟨kr,nr,sr⟩:=t;replace hvr:=aD (hvr.out _ rfl);go_enter func116,ntmps116;go_wp2_with (first
    | (go_at_call 96;have _t:=tok1;refine (hih.out D d _ hrD (hr1.below g1)).mono ?_;rintro e w2 ⟨A9,c9,rfl,hl9,r9,hb2⟩;have hZ2:=hZ1.keep hb2;have g2:=g1.trans (hb2.mono g1.size);obtain ⟨d0,d1,d2,e0,e1,e2⟩:=bW hZ2)
    | (go_at_call 117;refine (hop.out _ (hrc'.alloc _) (hra'.alloc _)).mono ?_;rintro e w1 ⟨D,d,rfl,hrD,hb1⟩;simp only [List.length_append,List.length_cons,List.length_nil,Nat.zero_add];have hZ1:Blk w1 w'.heap.size Zr:=(aC _ 32 _ rfl).keep hb1;have g1:Bw w' w1:=bw1.trans (hb1.mono (by simp));have y2:=(cM g1) _ _ x2;obtain ⟨y0,y1,y3⟩:=wT g1 i1 i2 i3;have tok1:=trivial))
   refine bodyPost_ret (v:=.tuple #[.agg (Ro kr nr A9 sr.length c9),.int .i64 0]) (by simp [results,results116,go_sem,d0,d1,d2]) rfl ⟨A9,c9,rfl,hl9,bQ hZ2 hvr.out r9 _ _ _,?_⟩;exact bP g2
theorem eF (K:Int)(F:Nat)(hK:(K=3∧F=139)∨(K=13∧F=139)∨(K=4∧F=140)∨(K=9∧F=144)∨(K=10∧F=145)∨(K=12∧F=146)∨(K=14∧F=147)∨(K=15∧F=148)∨(K=16∧F=148))(C:Option Addr)(m cc:Nat)(n:Int)(A:Option Addr)(la c fc:Nat)(ev:Array Value)(r:Rs Tm)(w:World)(hvr:∀t,r = .ok t→aE t=true)
  (hc : Hid (∀ w', Bw w w' → Calls prog F #[.agg #[.slice C m cc, .int .i64 K, .int .i64 n, .slice A la c, .func (.func fc) #[] ev]] w' (pK w' r))) :
  Calls prog 118 #[.agg #[.slice C m cc,.int .i64 K,.int .i64 n,.slice A la c,.func (.func fc) #[] ev]] w (pK w r):=by
 cases r with
 | no b=>exact aEr K F hK C m cc n A la c fc ev b w hc
 | ok t=>
  obtain ⟨kr,nr,sr⟩:=t;have hv:=hvr _ rfl;rcases hK with ⟨rfl,rfl⟩|⟨rfl,rfl⟩|⟨rfl,rfl⟩|⟨rfl,rfl⟩|⟨rfl,rfl⟩|⟨rfl,rfl⟩|⟨rfl,rfl⟩|⟨rfl,rfl⟩|⟨rfl,rfl⟩
  ·exact aHh C m cc n A la c fc ev kr nr sr w hv hc
  ·exact aEn C m cc n A la c fc ev kr nr sr w hv hc
  ·exact aHx C m cc n A la c fc ev kr nr sr w hv hc
  ·exact aJc C m cc n A la c fc ev kr nr sr w hv hc
  ·exact aEk C m cc n A la c fc ev kr nr sr w hv hc
  ·exact aDx C m cc n A la c fc ev kr nr sr w hv hc
  ·exact aFb C m cc n A la c fc ev kr nr sr w hv hc
  ·exact aDz C m cc n A la c fc ev kr nr sr w hv hc
  ·exact aDs C m cc n A la c fc ev kr nr sr w hv hc
theorem aKz {N:Nat}(ih:aEb N)(ctx:List Tm)(C:Option Addr)(cc:Nat)(k n:Int)(ks:List Tm)(A:Option Addr)(c fc:Nat)(ev:Array Value)(r:Rs Tm)(ty:Nat→Option (Rs Tm))(w:World)(h:iV (gM (bS N) ctx) ctx (.mk k n ks) ty=some r)(hv:aE (.mk k n ks)=true)(hvc:∀u,u∈ctx→aE u=true)(hm:ctx.length≤20)(hT:TyX fc ev w ty)(hty:TyV ty)(hrc:Rd w C 0 ctx)(hr:Rd w A 0 ks) :
  Calls prog 118 #[.agg #[.slice C ctx.length cc,.int .i64 k,.int .i64 n,.slice A ks.length c,.func (.func fc) #[] ev]] w (pK w r):=by
 have hvr:∀t,r = .ok t→aE t=true:=fun t ht=>by rw [ht] at h;exact qF h hv
 have har:=bG hv;unfold iV at h
 by_cases e1:k=1
 ·rw [if_pos (show (Tm.mk k n ks).k=1 from e1)] at h;subst e1;split at h
  ·rename_i hn
   obtain rfl:=(Option.some.inj h).symm;exact aBr C _ cc n A _ c fc ev w hn
  ·rename_i hn
   have hn:¬(ctx.length:Int)≤n:=hn;obtain ⟨nn,hnn⟩:∃nn:Nat,(nn:Int)=n:=⟨n.toNat,by omega⟩;subst hnn;have hpl:ctx.length - 1 - nn<ctx.length:=by omega
   have hg:ctx.getD (ctx.length - 1 - (Tm.mk 1 (nn:Int) ks).n.toNat) default=ctx[ctx.length - 1 - nn]:=by
    show ctx.getD (ctx.length - 1 - ((nn:Int)).toNat) default=_
    rw [Int.toNat_natCast];simp [List.getD,qR hpl]
   rw [hg] at h;have hvu:=hvc _ (iC hpl);obtain ⟨ku,nu,su,hcu⟩:∃ku nu su,ctx[ctx.length - 1 - nn] = .mk ku nu su:=by
    cases hh:ctx[ctx.length - 1 - nn] with|mk a b l=>exact ⟨a,b,l,rfl⟩
   rw [hcu] at h hvu;exact aEj ctx C cc nn _ A ks.length c fc ev ku nu su r w hm (by omega) hpl hcu hvu h hrc
 rw [if_neg (show ¬(Tm.mk k n ks).k=1 from e1)] at h;by_cases e2:k=2
 ·rw [if_pos (show (Tm.mk k n ks).k=2 from e2)] at h;subst e2;have h3:dG 2=3:=rfl;split at h
  ·rename_i hn
   obtain rfl:n=3:=hn;obtain rfl:=(Option.some.inj h).symm;exact aDf C _ cc A _ c fc ev w
  ·rename_i hn
   have hn3:n≠3:=hn;obtain rfl:=(Option.some.inj h).symm;exact aIw C _ cc n A _ c fc ev w hn3 (by omega)
 rw [if_neg (show ¬(Tm.mk k n ks).k=2 from e2)] at h;by_cases e6:k=6
 ·rw [if_pos (show (Tm.mk k n ks).k=6 from e6)] at h;subst e6;obtain rfl:=(Option.some.inj h).symm;exact aHk C _ cc n A _ c fc ev w
 rw [if_neg (show ¬(Tm.mk k n ks).k=6 from e6)] at h;by_cases e7:k=7
 ·rw [if_pos (show (Tm.mk k n ks).k=7 from e7)] at h;subst e7;obtain rfl:=(Option.some.inj h).symm;exact aIo C _ cc n A _ c fc ev w
 rw [if_neg (show ¬(Tm.mk k n ks).k=7 from e7)] at h;by_cases e8:k=8
 ·rw [if_pos (show (Tm.mk k n ks).k=8 from e8)] at h;subst e8;rcases aL h with ⟨b,h1,rfl⟩|⟨u,h1,h2⟩
  ·exact aBi C _ cc n A _ c fc ev b ty w h1 hT hty
  ·obtain rfl:=(Option.some.inj h2).symm;exact aHw C _ cc n A _ c fc ev _ w (lM h1) hT.ok
 rw [if_neg (show ¬(Tm.mk k n ks).k=8 from e8)] at h;by_cases e3:k=3∨k=13
 ·rw [if_pos (show (Tm.mk k n ks).k=3∨(Tm.mk k n ks).k=13 from e3)] at h;rcases e3 with rfl|rfl
  ·exact eF 3 139 (by simp) C _ cc n A _ c fc ev r w hvr (aD fun w' hw=>vN C _ cc 3 n A c fc ev _ r ty w' h (hT.below hw) hty)
  ·exact eF 13 139 (by simp) C _ cc n A _ c fc ev r w hvr (aD fun w' hw=>vN C _ cc 13 n A c fc ev _ r ty w' h (hT.below hw) hty)
 rw [if_neg (show ¬((Tm.mk k n ks).k=3∨(Tm.mk k n ks).k=13) from e3)] at h;by_cases e4:k=4
 ·rw [if_pos (show (Tm.mk k n ks).k=4 from e4)] at h;subst e4;obtain ⟨a,b,rfl⟩:=jY (l:=ks) (by have h3:aU 4=2:=rfl;omega);obtain ⟨ka,na,sa⟩:=a;exact eF 4 140 (by simp) C _ cc n A _ c fc ev r w hvr (aD fun w' hw=>xD C _ cc 4 n A c fc ev ka na sa b r (gM (bS N) ctx) ty w' h (hT.below hw) hty (hr.below hw) (aO hv (t:=.mk ka na sa) (by simp)) (fun u rr hrr hvu=>aMj hrr hvu) (aD fun u rr hrr hvu Ao co w2 hw2 hro=>ih ctx 3 0 [.mk ka na sa,u] rr hm (by rw [uE hvu] at hrr;exact hrr) hvc C cc Ao co w2 ((hrc.below hw).below hw2) hro))
 rw [if_neg (show ¬(Tm.mk k n ks).k=4 from e4)] at h;by_cases e5:k=5
 ·rw [if_pos (show (Tm.mk k n ks).k=5 from e5)] at h;subst e5;obtain ⟨a,b,rfl⟩:=jY (l:=ks) (by have h3:aU 5=2:=rfl;omega);obtain ⟨kx,nx,sx⟩:=b;have hvx:=aO hv (t:=.mk kx nx sx) (by simp);rcases aL h with ⟨b,h1,rfl⟩|⟨f,h1,h2⟩
  ·exact aCb C _ cc n A c fc ev b ty w h1 hT hty
  obtain ⟨hvf,hkf⟩:=nJ h1;obtain ⟨kf,n3,sf⟩:=f;obtain rfl:kf=3:=hkf;obtain ⟨kd,nd,sd,ke,ne,se,rfl⟩:=vZ hvf rfl;rcases aL h2 with ⟨b,h3,rfl⟩|⟨u,h3,h4⟩
  ·exact zY C _ cc n A c fc ev a kx nx sx n3 kd nd sd ke ne se b ty w h1 h3 hT hty hr
  exact aEo C _ cc n A c fc ev a kx nx sx n3 kd nd sd ke ne se r _ w (oX h1) (lM h3) hvx h4 hT.ok hr
 rw [if_neg (show ¬(Tm.mk k n ks).k=5 from e5)] at h;by_cases e9:k=9
 ·rw [if_pos (show (Tm.mk k n ks).k=9 from e9)] at h;subst e9;obtain ⟨p,t1,t2,a,rfl⟩:=uT (l:=ks) (by have h3:aU 9=4:=rfl;omega);obtain ⟨kp,np,sp⟩:=p;obtain ⟨ka,na,sa⟩:=a;have hvp:=aO hv (t:=.mk kp np sp) (by simp);exact eF 9 144 (by simp) C _ cc n A _ c fc ev r w hvr (aD fun w' hw=>vI C _ cc 9 n A c fc ev kp np sp t1 t2 ka na sa r ty w' h (hT.below hw) hty hvp (aO hv (t:=.mk ka na sa) (by simp)) (hr.below hw))
 rw [if_neg (show ¬(Tm.mk k n ks).k=9 from e9)] at h;by_cases e10:k=10
 ·rw [if_pos (show (Tm.mk k n ks).k=10 from e10)] at h;subst e10;obtain ⟨a,a1,a2,rfl⟩:=gG (l:=ks) (by have h3:aU 10=3:=rfl;omega);obtain ⟨ka,na,sa⟩:=a;have hva:=aO hv (t:=.mk ka na sa) (by simp);exact eF 10 145 (by simp) C _ cc n A _ c fc ev r w hvr (aD fun w' hw=>xG C _ cc 10 n A c fc ev ka na sa a1 a2 r ty w' h (hT.below hw) hty hva (hr.below hw))
 rw [if_neg (show ¬(Tm.mk k n ks).k=10 from e10)] at h;by_cases e11:k=11
 ·rw [if_pos (show (Tm.mk k n ks).k=11 from e11)] at h;subst e11;obtain ⟨a,rfl⟩:=lH (l:=ks) (by have h3:aU 11=1:=rfl;omega);obtain ⟨ka,na,sa⟩:=a;rcases aL h with ⟨b,h1,rfl⟩|⟨s,h1,h2⟩
  ·exact zP C _ cc n A c fc ev b ty w h1 hT
  obtain ⟨kt,nt,st⟩:=s;simp only [uE (hty _ _ h1)] at h2
  rcases aL h2 with ⟨b,h3,rfl⟩|⟨l,h3,h4⟩
  ·exact wW C _ cc n A c fc ev kt nt st b ty w h1 hT (aD fun Ao co w' hw hro=>uC ih ctx C cc kt nt st Ao co _ w' h3 hvc hm (hrc.below hw) hro)
  exact aBt C _ cc n A c fc ev ka na sa kt nt st l r _ w (uV h1) (hty _ _ h1) (aO hv (t:=.mk ka na sa) (by simp)) h4 hT.ok hr (aD fun Ao co w' hw hro=>uC ih ctx C cc kt nt st Ao co _ w' h3 hvc hm (hrc.below hw) hro)
 rw [if_neg (show ¬(Tm.mk k n ks).k=11 from e11)] at h;by_cases e12:k=12
 ·rw [if_pos (show (Tm.mk k n ks).k=12 from e12)] at h;subst e12;obtain ⟨p,t1,t2,rfl⟩:=gG (l:=ks) (by have h3:aU 12=3:=rfl;omega);obtain ⟨kp,np,sp⟩:=p;exact eF 12 146 (by simp) C _ cc n A _ c fc ev r w hvr (aD fun w' hw=>aEl C _ cc 12 n A c fc ev kp np sp t1 t2 r ty w' h (hT.below hw) hty (aO hv (t:=.mk kp np sp) (by simp)) (hr.below hw))
 rw [if_neg (show ¬(Tm.mk k n ks).k=12 from e12)] at h;by_cases e14:k=14
 ·rw [if_pos (show (Tm.mk k n ks).k=14 from e14)] at h;subst e14;obtain ⟨p,a,t2,rfl⟩:=gG (l:=ks) (by have h3:aU 14=3:=rfl;omega);obtain ⟨kp,np,sp⟩:=p;obtain ⟨ka,na,sa⟩:=a;have hvp:=aO hv (t:=.mk kp np sp) (by simp);have hva:=aO hv (t:=.mk ka na sa) (by simp);exact eF 14 147 (by simp) C _ cc n A _ c fc ev r w hvr (aD fun w' hw=>aCc C _ cc 14 n A c fc ev kp np sp ka na sa t2 r ty w' h (hT.below hw) hty hva hvp (hr.below hw))
 rw [if_neg (show ¬(Tm.mk k n ks).k=14 from e14)] at h;by_cases e15:k=15
 ·rw [if_pos (show (Tm.mk k n ks).k=15 from e15)] at h;subst e15;refine eF 15 148 (by simp) C _ cc n A _ c fc ev r w hvr (aD fun w' hw=>?_);rcases aL h with ⟨b,h1,rfl⟩|⟨f,h1,h2⟩
  ·exact aCw C _ cc 15 n A _ c fc ev b ty w' h1 (hT.below hw) hty
  obtain ⟨hvf,hkf⟩:=nJ h1;obtain ⟨kf,n3,sf⟩:=f;obtain rfl:kf=13:=hkf;obtain ⟨kd,nd,sd,ke,ne,se,rfl⟩:=vZ hvf rfl;obtain rfl:=(Option.some.inj h2).symm;exact aBf C _ cc n A _ c fc ev n3 kd nd sd ke ne se _ w' (oX h1) (hT.ok.below hw)
 rw [if_neg (show ¬(Tm.mk k n ks).k=15 from e15)] at h;obtain rfl:k=16:=by
  have:=sV (k:=k) (by have:=har.1;omega) e3 e4 e5 e9 e10 e12 e14 e1 e2 e6 e7 e8 e11;omega
 obtain ⟨p,rfl⟩:=lH (l:=ks) (by have h3:aU 16=1:=rfl;omega);obtain ⟨kp,np,sp⟩:=p;refine eF 16 148 (by simp) C _ cc n A _ c fc ev r w hvr (aD fun w' hw=>?_);rcases aL h with ⟨b,h1,rfl⟩|⟨f,h1,h2⟩
 ·exact aCw C _ cc 16 n A _ c fc ev b ty w' h1 (hT.below hw) hty
 obtain ⟨hvf,hkf⟩:=nJ h1;obtain ⟨kf,n3,sf⟩:=f;obtain rfl:kf=13:=hkf;obtain ⟨kd,nd,sd,ke,ne,se,rfl⟩:=vZ hvf rfl;have hvx:aE (.mk 15 0 [.mk kp np sp])=true:=aEx hv;exact aJl C _ cc n A c fc ev kp np sp n3 kd nd sd ke ne se r _ w' (oX h1) hvx h2 (hT.ok.below hw) (hr.below hw)
theorem aAh {N:Nat}(ih:aEb N):aEb (N+1):=by
 intro ctx k n ks r hm0 h hvc C cc A c w hrc hra;obtain ⟨hv,hm,hj⟩:=vX hm0 h;have hvr:=aD (fun (t:Tm) (e:r = .ok t)=>by rw [e] at h;exact iZ h);have B3:∀o1 o2 o3,Bw w (((w.alloc o1).alloc o2).alloc o3):=fun o1 o2 o3=>bw3
 have hJ:=aD (fun (wx:World) (hb:Bw w wx) (hB2:Blk wx w.heap.size #[.slice C ctx.length cc]) (hB3:Blk wx (w.heap.size+1) (Ro k n A ks.length c))=>aKz ih ctx C cc k n ks A c 116 #[.pointer (some ⟨w.heap.size,0,none⟩),.pointer (some ⟨w.heap.size+1,0,none⟩)] r _ wx hj hv hvc hm (aMr ih ctx C cc k n ks A c w.heap.size (w.heap.size+1) wx hv hvc hm hB2 hB3 (hrc.below hb) (hra.below hb)) aHr (hrc.below hb) (hra.below hb));clear h hv hvc hm0 hm hj;cases r with
 | no b=>
  go_enter func96,ntmps96;go_wp2_with (go_at_call 118;refine (hJ.out _ (B3 _ _ _) (((aC w 29 #[.slice C ctx.length cc] rfl).alloc _).alloc _) ((aC (n:=w.heap.size+1) (w.alloc (.cells #[.slice C ctx.length cc] 29)) 32 (Ro k n A ks.length c) (by simp)).alloc _)).mono ?_;rintro e w1 ⟨rfl,hb1⟩;have hZ1:Blk w1 (w.heap.size+1+1) Zr:=(aC _ 32 _ (by simp)).keep hb1;have g1:Bw w w1:=(B3 _ _ _).trans (hb1.mono (by simp;omega));obtain ⟨d0,d1,d2,e0,e1,e2⟩:=bW hZ1)
  refine bodyPost_ret (v:=.tuple #[.agg Zr,.int .i64 (cX b)]) (by simp [results,results96,go_sem,d0,d1,d2]) rfl ⟨rfl,?_⟩;exact bP g1
 | ok t=>
  obtain ⟨kr,nr,sr⟩:=t;replace hvr:=aD (hvr.out _ rfl);go_enter func96,ntmps96;go_wp2_with (go_at_call 118;refine (hJ.out _ (B3 _ _ _) (((aC w 29 #[.slice C ctx.length cc] rfl).alloc _).alloc _) ((aC (n:=w.heap.size+1) (w.alloc (.cells #[.slice C ctx.length cc] 29)) 32 (Ro k n A ks.length c) (by simp)).alloc _)).mono ?_;rintro e w1 ⟨A1,c1,rfl,hl1,r1,hb1⟩;have hZ1:Blk w1 (w.heap.size+1+1) Zr:=(aC _ 32 _ (by simp)).keep hb1;have g1:Bw w w1:=(B3 _ _ _).trans (hb1.mono (by simp;omega));obtain ⟨d0,d1,d2,e0,e1,e2⟩:=bW hZ1)
  refine bodyPost_ret (v:=.tuple #[.agg (Ro kr nr A1 sr.length c1),.int .i64 0]) (by simp [results,results96,go_sem,d0,d1,d2]) rfl ⟨A1,c1,rfl,hl1,bQ hZ1 hvr.out r1 _ _ _,?_⟩;exact bP g1
theorem zW:∀N,aEb N
 | 0=>fun _ _ _ _ _ _ h=>by cases h
 | N+1=>aAh (zW N)
theorem aOw {ctx:List Tm}{j:Nat}(hj:j<ctx.length)(h:aE ctx[j]=false):kB ctx=false:=by
 unfold kB
 rw [Bool.and_eq_false_iff];left
 rw [List.all_eq_false];exact ⟨ctx[j],iC hj,by rw [h];decide⟩
theorem aIp {ctx:List Tm}(h:8<ctx.length):kB ctx=false:=by
 unfold kB
 rw [Bool.and_eq_false_iff];right
 exact decide_eq_false (by omega)
theorem aMu {ctx:List Tm}(hm:ctx.length≤8)(h:∀i (hi:i<ctx.length),aE ctx[i]=true):kB ctx=true:=by
 unfold kB
 rw [Bool.and_eq_true,List.all_eq_true];refine ⟨fun u hu=>?_,decide_eq_true hm⟩;obtain ⟨i,hi,rfl⟩:=List.mem_iff_getElem.1 hu;exact h i hi
theorem aFz {N:Nat}{ctx:List Tm}{co:Int}(h:cpR N ctx=some co)(hf:kB ctx=false):co=3:=by
 unfold cpR at h
 rw [hf,if_neg (by decide)] at h;exact (Option.some.inj h).symm
theorem aNj {N:Nat}{ctx:List Tm}{co:Int}(h:cpR N ctx=some co)(hf:kB ctx=true):cpG N ctx ctx.length=some co:=by
 unfold cpR at h
 rw [hf,if_pos rfl] at h;exact h
theorem aPn (N:Nat)(ctx:List Tm)(C:Option Addr)(cc:Nat)(co:Int)(w:World)(hs:cpR N ctx=some co)(hcc:ctx.length≤cc)(hsz:aG ctx≤2000000)(hrc:Rd w C 0 ctx) :
    Calls prog 78 #[.slice C ctx.length cc] w fun e w'=>e = .returned (.int .i64 co)∧Bw w w':=by
  have hlen:=aJ ctx;by_cases hm:8<ctx.length
  · obtain rfl:=aFz hs (aIp hm)
    have q1:(8:Int)<(ctx.length:Int):=by omega
    clear hs;go_enter func78,ntmps78;go_wp2_with fail
    go_ret
    exact ⟨rfl,eR _ _⟩
  have hm:ctx.length≤8:=by omega
  have q1:¬(8:Int)<(ctx.length:Int):=by omega
  have hs:=aD hs;go_enter func78,ntmps78;go_wp2_with fail
  go_loopw [14] (fun i wr=>∃j:Nat,j≤ctx.length∧i = .int .i64 j∧Hid (∀i (hi:i<ctx.length),i<j→aE ctx[i]=true)∧Bw w wr)
    (fun i _=>ctx.length - (intOf i).toNat)
  case atStart=>exact ⟨0,Nat.zero_le _,rfl,aD (fun i hi h=>absurd h (by omega)),eR _ _⟩
  case round=>
    obtain ⟨j,hj,rfl,hval,hb⟩:=hrel;by_cases hlt:j<ctx.length
    · obtain ⟨b,off,k1,n1,ks1,A1,c1,rfl,hkj,hc1,hc2,hc3,hl1,hr1⟩:=(hrc.below hb).at_ hlt
      have hsz2:=cF (iC hlt);rw [hkj] at hsz2;simp only [Tm.size] at hsz2
      have H5:=aD hkj;cases hvv:aE (.mk k1 n1 ks1) with
      | false=>
        have hv':=aD hvv;obtain rfl:=aFz hs.out (aOw hlt (by rw [hkj];exact hvv));clear hkj hvv;go_wp2_with (go_at_call 58;refine (bI k1 n1 ks1 A1 c1 _ (by omega) (hr1.alloc _)).mono ?_;rw [hv'.out];rintro e w3 ⟨rfl,hb3⟩)
        go_ret
        exact ⟨rfl,hb.trans (bw1.trans (hb3.mono (by simp)) |>.mono hb.size)⟩
      | true=>
        have hv':=aD hvv;clear hkj hvv;go_wp2_with (go_at_call 58;refine (bI k1 n1 ks1 A1 c1 _ (by omega) (hr1.alloc _)).mono ?_;rw [hv'.out];rintro e w3 ⟨rfl,hb3⟩)
        go_roundw
        case rel=>
          refine ⟨j+1,by omega,by go_num,aD (fun i hi hij=>?_),hb.trans (bw1.trans (hb3.mono (by simp)) |>.mono hb.size)⟩;by_cases hij2:i=j
          · subst hij2;rw [H5.out];exact hv'.out
          · exact hval.out i hi (by omega)
        case measure=>simp [intOf];omega
    · have hjl:j=ctx.length:=by omega
      subst hjl;have hft:kB ctx=true:=aMu hm (fun i hi=>hval.out i hi hi);have hvh:=aD (jN hft).1;have hs:=aD (show cpG N ctx (ctx.length - 0)=some co from aNj hs.out hft);clear hval hft;go_wp2_with fail
      go_loopw [24] (fun i wr=>∃j:Nat,j≤ctx.length∧i = .int .i64 j∧Hid (cpG N ctx (ctx.length - j)=some co)∧Bw w wr)
        (fun i _=>ctx.length - (intOf i).toNat)
      case atStart=>exact ⟨0,Nat.zero_le _,rfl,hs,hb⟩
      case round=>
        clear hb hs;obtain ⟨j,hj,rfl,hinv,hb⟩:=hrel;by_cases hlt:j<ctx.length
        · obtain ⟨b,off,k1,n1,ks1,A1,c1,rfl,hkj,hc1,hc2,hc3,hl1,hr1⟩:=(hrc.below hb).at_ hlt
          have hv1:=hvh.out _ (iC hlt);rw [hkj] at hv1;have hst:=hinv.out;rw [show ctx.length - j=(ctx.length - j - 1)+1 by omega,cpG,show ctx.length - (ctx.length - j - 1+1)=j by omega,show ctx.getD j default = .mk k1 n1 ks1 by rw [← hkj];simp [List.getD,qR hlt]] at hst;obtain ⟨cx,hcx⟩:∃cx,ctx.take j=cx:=⟨_,rfl⟩;have hcl:cx.length=j:=by rw [← hcx];simp;omega
          have hcv:∀u,u∈cx→aE u=true:=by rw [← hcx];exact fun u hu=>hvh.out u (List.mem_of_mem_take hu)
          have hrx:=aD (fun (w':World) (h:Rd w' (some ⟨b,off,none⟩) 0 ctx)=>show Rd w' (some ⟨b,off,none⟩) 0 cx by rw [← hcx];exact h.take j);rw [hcx] at hst;have hcase:∃l c3:Int,Hid (∀(w:World) (hrc:Rd w (some ⟨b,off,none⟩) 0 cx) (hra:Rd w A1 0 ks1),Calls prog 49 #[.slice (some ⟨b,off,none⟩) cx.length cc,.agg (Ro k1 n1 A1 ks1.length c1)] w fun e w'=>e = .returned (.tuple #[.int .i64 l,.int .i64 c3])∧Bw w w')∧((c3=0∧Hid (cpG N ctx (ctx.length - (j+1))=some co))∨((c3 != 0)=true∧Hid (co=c3))):=by
            cases hr0:pJ (bS N cx (.mk k1 n1 ks1)) with
            | none=>rw [hr0] at hst;cases hst
            | some r=>
              rw [hr0] at hst;have hS:=fun (w:World) (hrc:Rd w (some ⟨b,off,none⟩) 0 cx) (hra:Rd w A1 0 ks1)=>uC (zW N) cx (some ⟨b,off,none⟩) cc k1 n1 ks1 A1 c1 r w hr0 hcv (by omega) hrc hra
              cases r with
              | ok l=>exact ⟨l,0,aD hS,.inl ⟨rfl,aD hst⟩⟩
              | no b2=>exact ⟨0,cX b2,aD hS,.inr ⟨dO b2,aD (Option.some.inj hst).symm⟩⟩
          obtain ⟨l,c3,hS,hnx⟩:=hcase;rw [hcl] at hS;have hjc:j≤cc:=by omega
          have hjc2:(j:Int)≤(cc:Int):=by omega
          clear hkj hv1 hst hcx hcl hcv hinv;obtain ⟨rfl,hnx⟩|⟨q3,hnx⟩:=hnx;all_goals
            go_upto_region 12 with fail
            refine aW ?_;intro wx hwx;have h6x:Blk wx wr.heap.size (Ro k1 n1 A1 ks1.length c1):=by rw [hwx];exact aC _ 32 _ rfl
            have kwx:Bw w wx:=by rw [hwx];exact hb.alloc hb.size _
            have hrk:Rd wx A1 0 ks1:=by rw [hwx];exact hr1.alloc _
            clear hwx hc1 hc2 hc3 hr1;obtain ⟨v0,v1,v2⟩:=jR h6x;refine eT wx [5,6,7,8,9] [0,1,2,3] 10 6 (lT:=[_,_,_,_]) ?_;intro q0 bq0;refine bZ (aD ?_);refine bB 4 ?_
            · go_wp2_with (go_at_call 49;refine (hS.out _ ((hrx.out _ (hrc.below kwx)).below bq0) (hrk.below bq0)).mono ?_;rintro e q1 ⟨rfl,hbq1⟩)
              refine aX bq0 hbq1 ?_;intro bq1 lq1;refine fB [5,6,7] 2 (lT:=[_,_,_]) ?_;refine bZ (aD ?_);refine cP [8,9] (lB:=[_,_]) ?_;have kq:=kwx.trans (bq1.mono kwx.size);refine gS (aD ?_);go_wp2_with fail
              first
                | exact ⟨⟨j+1,by omega,by go_num,hnx,kq⟩,by simp [intOf];omega⟩
                | (go_ret
                   exact ⟨hnx.out.symm▸rfl,kq⟩)
        · have hjl:j=ctx.length:=by omega
          subst hjl;obtain rfl:co=0:=by have:=hinv.out;rw [Nat.sub_self,cpG] at this;injection this with this;exact this.symm
          go_wp2_with fail
          go_ret
          exact ⟨rfl,hb⟩
theorem aHz (k n:Int)(ks:List Tm)(A:Option Addr)(c:Nat)(w:World)(hz:aG ks≤2000000)(hv:aE (.mk k n ks)=false)(hr:Rd w A 0 ks) :
  Calls prog 80 #[.agg (Ro k n A ks.length c)] w fun e w'=>e = .returned (.bool true)∧Bw w w':=by
 have hv':=aD hv;clear hv;go_enter func80,ntmps80;go_wp2_with (go_at_call 58;refine (bI k n ks A c _ (by omega) (hr.alloc _)).mono ?_;rw [hv'.out];rintro e w1 ⟨rfl,hb1⟩;have g1:Bw w w1:=bU bw1 hb1)
 go_ret
 exact ⟨rfl,g1⟩
theorem aIm (k n:Int)(ks ts:List Tm)(A:Option Addr)(c:Nat)(w:World)(hl:ts.length≤1000000)(hz:aG ks≤2000000)(hv:aE (.mk k n ks)=false)(hr:Rd w A 0 (.mk k n ks::ts)) :
  Calls prog 106 #[.slice A (ts.length+1) c,.func (.func 80) #[] #[]] w fun e w'=>e = .returned (.int .i64 0)∧Bw w w':=by
 have hv':=aD hv;clear hv;go_enter func106,ntmps106;go_wp2_with fail
 go_loopw [8] (fun i wr=>i = .int .i64 0∧Bw w wr)
  (fun i _ => (intOf i).toNat)
 case atStart=>exact ⟨rfl,eR _ _⟩
 case round=>
  obtain ⟨rfl,hb⟩:=hrel;have hlt:0<(Tm.mk k n ks::ts).length:=by simp
  obtain ⟨b,off,k1,n1,ks1,A1,c1,rfl,hkj,hc1,hc2,hc3,hl1,hr1⟩:=(hr.below hb).at_ hlt;have hkj2:Tm.mk k n ks = .mk k1 n1 ks1:=hkj;injection hkj2 with e1 e2 e3;subst e1 e2 e3;clear hkj;simp only [Nat.zero_mul,Nat.add_zero,Nat.zero_add] at hc1 hc2 hc3
  have q1:(0:Int)<(ts.length:Int)+1:=by omega
  have q2:decide ((0:Int)<(ts.length:Int)+1)=true:=decide_eq_true q1;go_wp2_with (go_at_call 80;refine (aHz k n ks A1 c1 _ hz hv'.out hr1).mono ?_;rintro e w3 ⟨rfl,hb3⟩)
  go_ret
  exact ⟨rfl,hb.trans (hb3.mono hb.size)⟩
theorem aJu (k n:Int)(ks ts:List Tm)(A:Option Addr)(c:Nat)(w:World)(hl:ts.length≤1000000)(hz:aG ks≤2000000)(hv:aE (.mk k n ks)=false)(hr:Rd w A 0 (.mk k n ks::ts)) :
  Calls prog 79 #[.slice A (ts.length+1) c,.func (.func 80) #[] #[]] w fun e w'=>e = .returned (.bool true)∧Bw w w':=by
 have hv':=aD hv;clear hv;go_enter func79,ntmps79;go_wp2_with (go_at_call 106;refine (aIm k n ks ts A c _ hl hz hv'.out hr).mono ?_;rintro e w1 ⟨rfl,hb1⟩)
 go_ret
 exact ⟨rfl,hb1⟩
theorem aHs (N:Nat)(ctx:List Tm)(C:Option Addr)(cc:Nat)(co:Int)(k n:Int)(ks ts:List Tm)(A:Option Addr)(c:Nat)(w:World)(hs:cpR N ctx=some co)(hcc:ctx.length≤cc)(hsz:aG ctx≤2000000)(hrc:Rd w C 0 ctx)(hl:ts.length≤1000000)(hz:aG ks≤2000000)(hv:aE (.mk k n ks)=false)(hr:Rd w A 0 (.mk k n ks::ts)) :
  Calls prog 48 #[.slice C ctx.length cc,.slice A (ts.length+1) c] w fun e w'=>e = .returned (.int .i64 3)∧Bw w w':=by
 have hC:=aD (fun (w:World) (hr:Rd w A 0 (.mk k n ks::ts))=>aJu k n ks ts A c w hl hz hv hr);have hD:=aD (fun (w:World) (hrc:Rd w C 0 ctx)=>aPn N ctx C cc co w hs hcc hsz hrc);clear hv hs;go_enter func48,ntmps48;go_wp2_with (first
  | (go_at_call 79;have _t:=tok1;refine (hC.out _ (hr.below hb1)).mono ?_;rintro e w2 ⟨rfl,hb2⟩)
  | (go_at_call 78;refine (hD.out _ hrc).mono ?_;rintro e w1 ⟨rfl,hb1⟩;have tok1:=trivial))
 go_ret
 exact ⟨rfl,hb1.trans (hb2.mono hb1.size)⟩
theorem aGi (N:Nat)(ctx:List Tm)(C:Option Addr)(cc:Nat)(co:Int)(ts:List Tm)(A:Option Addr)(c:Nat)(w:World)(hs:cpR N ctx=some co)(hcc:ctx.length≤cc)(hsz:aG ctx≤2000000)(hrc:Rd w C 0 ctx)(hl:ts.length≤20)(hts:∀u,u∈ts→aE u=true)(hr:Rd w A 0 ts) :
  Calls prog 48 #[.slice C ctx.length cc,.slice A ts.length c] w fun e w'=>e = .returned (.int .i64 co)∧Bw w w':=by
 have hC:=aD (fun (w:World) (hr:Rd w A 0 ts)=>aLt ts A c w (by omega) hts hr);have hD:=aD (fun (w:World) (hrc:Rd w C 0 ctx)=>aPn N ctx C cc co w hs hcc hsz hrc);clear hs hts;go_enter func48,ntmps48;go_wp2_with (first
  | (go_at_call 79;have _t:=tok1;refine (hC.out _ (hr.below hb1)).mono ?_;rintro e w2 ⟨rfl,hb2⟩)
  | (go_at_call 78;refine (hD.out _ hrc).mono ?_;rintro e w1 ⟨rfl,hb1⟩;have tok1:=trivial))
 go_ret
 exact ⟨rfl,hb1.trans (hb2.mono hb1.size)⟩
def GtO (w:World)(b:Bool)(e:Ending)(w':World):Prop:=∃n2 c2:Int,e = .returned (.tuple #[.int .i64 n2,.int .i64 c2])∧(c2==0)=b∧Bw w w'
theorem aBq (N:Nat)(ctx:List Tm)(C:Option Addr)(cc:Nat)(co:Int)(k n:Int)(ks:List Tm)(A:Option Addr)(c:Nat)(w:World)(hs:cpR N ctx=some co)(hcc:ctx.length≤cc)(hsz:aG ctx≤2000000)(hz:aG ks≤2000000)(hlk:ks.length≤9223372036854775807)(hrc:Rd w C 0 ctx)(hra:Rd w A 0 ks)(hn:co≠0∨aE (.mk k n ks)=false) :
  Calls prog 31 #[.slice C ctx.length cc,.agg (Ro k n A ks.length c)] w (GtO w false):=by
 have hcase:∃c3:Int,(c3 != 0)=true∧Hid (∀(w:World) (A2:Option Addr) (hrc:Rd w C 0 ctx) (hr:Rd w A2 0 [.mk k n ks]),Calls prog 48 #[.slice C ctx.length cc,.slice A2 1 1] w fun e w'=>e = .returned (.int .i64 c3)∧Bw w w'):=by
  cases hv:aE (.mk k n ks) with
  | false=>exact ⟨3,by decide,aD fun w A2 hrc hr=>aHs N ctx C cc co k n ks [] A2 1 w hs hcc hsz hrc (by simp) hz hv hr⟩
  | true=>
   rcases hn with h|h
   ·exact ⟨co,by simpa using h,aD fun w A2 hrc hr=>aGi N ctx C cc co [.mk k n ks] A2 1 w hs hcc hsz hrc (by simp) (fun u hu=>by rw [List.mem_singleton.1 hu];exact hv) hr⟩
   ·rw [hv] at h;cases h
 obtain ⟨c3,q3,hR⟩:=hcase;have q4:(c3==0)=false:=by simpa using q3
 clear hs hn;go_enter func31,ntmps31;go_wp2_with (go_at_call 48;refine (hR.out _ (some ⟨w.heap.size+1,0,none⟩) ((hrc.alloc _).alloc _) (aAx (s0:=ks) (aC _ 32 (Ro k n A ks.length c) (by simp)) hlk ((hra.alloc _).alloc _))).mono ?_;rintro e w1 ⟨rfl,hb1⟩;have g1:Bw w w1:=bU bw2 hb1)
 go_ret2
 exact ⟨0,c3,rfl,q4,g1⟩
theorem aLh (N M:Nat)(ctx:List Tm)(C:Option Addr)(cc:Nat)(r:Rs Int)(k n:Int)(ks:List Tm)(A:Option Addr)(c:Nat)(w:World)(hs:cpR N ctx=some 0)(hl:pJ (bS M ctx (.mk k n ks))=some r)(hf:kB ctx=true)(hv:aE (.mk k n ks)=true)(hcc:ctx.length≤cc)(hsz:aG ctx≤2000000)(hrc:Rd w C 0 ctx)(hra:Rd w A 0 ks) :
  Calls prog 31 #[.slice C ctx.length cc,.agg (Ro k n A ks.length c)] w (GtO w (match r with | .ok _=>true | .no _=>false)):=by
 have hlk:ks.length≤9223372036854775807:=by have:=aH hv;have:=aJ ks;omega
 have hfi:=jN hf;have hm:=hfi.2;have hR:=aD fun (w:World) (A2:Option Addr) (hrc:Rd w C 0 ctx) (hr:Rd w A2 0 [.mk k n ks])=>aGi N ctx C cc 0 [.mk k n ks] A2 1 w hs hcc hsz hrc (by simp) (fun u hu=>by rw [List.mem_singleton.1 hu];exact hv) hr
 have hcase:∃l c3:Int,Hid (∀(w:World) (hrc:Rd w C 0 ctx) (hra:Rd w A 0 ks),Calls prog 49 #[.slice C ctx.length cc,.agg (Ro k n A ks.length c)] w fun e w'=>e = .returned (.tuple #[.int .i64 l,.int .i64 c3])∧Bw w w')∧((c3=0∧(match r with | .ok _=>true | .no _=>false)=true)∨((c3 != 0)=true∧(match r with | .ok _=>true | .no _=>false)=false)):=by
  have hS:=fun (w:World) (hrc:Rd w C 0 ctx) (hra:Rd w A 0 ks)=>uC (zW M) ctx C cc k n ks A c r w hl hfi.1 (by omega) hrc hra
  cases r with
  | ok l=>exact ⟨l,0,aD hS,.inl ⟨rfl,rfl⟩⟩
  | no b2=>exact ⟨0,cX b2,aD hS,.inr ⟨dO b2,rfl⟩⟩
 obtain ⟨l,c3,hS,⟨rfl,hb⟩|⟨q3,hb⟩⟩:=hcase;all_goals
  rw [hb];clear hs hl hf hv hfi hb r;go_enter func31,ntmps31;go_wp2_with (first
   | (go_at_call 49;have _t:=tok1;refine (hS.out _ (hrc.below g1) (hra.below g1)).mono ?_;rintro e w2 ⟨rfl,hb2⟩;have g2:Bw w w2:=g1.trans (hb2.mono g1.size);clear tok1)
   | (go_at_call 48;refine (hR.out _ (some ⟨w.heap.size+1,0,none⟩) ((hrc.alloc _).alloc _) (aAx (s0:=ks) (aC _ 32 (Ro k n A ks.length c) (by simp)) hlk ((hra.alloc _).alloc _))).mono ?_;rintro e w1 ⟨rfl,hb1⟩;have g1:Bw w w1:=bU bw2 hb1;have hX1:Blk w1 w.heap.size (Ro k n A ks.length c):=((aC w 32 (Ro k n A ks.length c) rfl).alloc _).keep hb1;obtain ⟨x0,x1,x2⟩:=hX1.three;have tok1:=trivial))
  go_ret2
  first
   | exact ⟨_,0,rfl,rfl,g2⟩
   | exact ⟨0,c3,rfl,by simpa using q3,g2⟩
theorem yJ (ctx:List Tm)(C:Option Addr)(cc:Nat)(k n:Int)(ks:List Tm)(A:Option Addr)(c:Nat)(w:World)(b:Bool)(hb:b=true↔Sok ctx (.mk k n ks))(hcc:ctx.length≤cc)(hsz:aG ctx≤2000000)(hz:aG ks≤2000000)(hlk:ks.length≤9223372036854775807)(hrc:Rd w C 0 ctx)(hra:Rd w A 0 ks) :
  Calls prog 31 #[.slice C ctx.length cc,.agg (Ro k n A ks.length c)] w (GtO w b):=by
 obtain ⟨N,M,co,co',h1,h2,h3,h4⟩:=aCx ctx;have hF:¬Sok ctx (.mk k n ks)→b=false:=fun h=>by
  cases b with
  | false=>rfl
  | true=>exact absurd (hb.1 rfl) h
 by_cases hx:CxO ctx
 ·obtain rfl:=h4.2 hx;cases hv:aE (.mk k n ks) with
  | false=>
   rw [hF fun h=>by rw [h.2.1] at hv;cases hv];exact aBq M ctx C cc _ k n ks A c w h2 hcc hsz hz hlk hrc hra (.inr hv)
  | true=>
   obtain ⟨N1,q,q',e1,e2,e3⟩:=aBy hx.2 hv;have:=aLh M (2*N1) ctx C cc q' k n ks A c w h2 e2 hx.1 hv hcc hsz hrc hra;cases q' with
   | ok l=>
    rw [hb.2 ⟨hx,hv,N1,l,by rw [e1,(e3 l).2 rfl]⟩];exact this
   | no b2=>
    rw [hF fun h=>by
     obtain ⟨_,_,N2,l,h5⟩:=h;have:=(e3 l).1 (vA e1 h5);cases this]
    exact this
 ·rw [hF fun h=>hx h.1];exact aBq M ctx C cc co' k n ks A c w h2 hcc hsz hz hlk hrc hra (.inl fun h=>hx (h4.1 h))
theorem aCz (N:Nat)(ctx:List Tm)(C:Option Addr)(cc:Nat)(co:Int)(k n:Int)(ks:List Tm)(A:Option Addr)(c:Nat)(w:World)(hs:ccR N ctx=some co)(hcc:ctx.length≤cc)(hsz:aG ctx≤2000000)(hz:aG ks≤2000000)(hrc:Rd w C 0 ctx)(hra:Rd w A 0 ks)(hn:co≠0∨aE (.mk k n ks)=false) :
  Calls prog 28 #[.slice C ctx.length cc,.agg (Ro k n A ks.length c)] w (GtO w false):=by
 have hF:=aD (fun (w:World) (hrc:Rd w C 0 ctx)=>sU ctx C cc w hsz hrc);have hT:=aD (fun (w:World) (hra:Rd w A 0 ks)=>aV k n ks A c w (by omega) hra);have hC:=aD (fun (w:World) (hrc:Rd w C 0 ctx)=>pT N ctx C cc co w hs hcc hsz hrc);cases hf:kB ctx with
 | false=>
  rw [hf] at hF;clear hs hn hC hT hf;go_enter func28,ntmps28;go_wp2_with (go_at_call 40;refine (hF.out _ (hrc.alloc _)).mono ?_;rintro e w1 ⟨rfl,hb1⟩;have g1:Bw w w1:=bU bw1 hb1)
  go_ret2
  exact ⟨0,3,rfl,rfl,g1⟩
 | true=>
  rw [hf] at hF;cases hv:aE (.mk k n ks) with
  | false=>
   rw [hv] at hT;clear hs hn hC hf hv;go_enter func28,ntmps28;go_wp2_with (first
    | (go_at_call 41;have _t:=tok1;refine (hT.out _ (hra.below g1)).mono ?_;rintro e w2 ⟨rfl,hb2⟩;have g2:=g1.trans (hb2.mono g1.size);clear tok1)
    | (go_at_call 40;refine (hF.out _ (hrc.alloc _)).mono ?_;rintro e w1 ⟨rfl,hb1⟩;have hX1:Blk w1 w.heap.size (Ro k n A ks.length c):=(aC w 32 (Ro k n A ks.length c) rfl).keep hb1;have g1:Bw w w1:=bU bw1 hb1;obtain ⟨x0,x1,x2⟩:=hX1.three;have tok1:=trivial))
   go_ret2
   exact ⟨0,3,rfl,rfl,g2⟩
  | true=>
   rw [hv] at hT;have hco:co≠0:=by
    rcases hn with h|h
    ·exact h
    ·rw [hv] at h;cases h
   have q3:(co != 0)=true:=by simpa using hco
   have q4:(co==0)=false:=by simpa using hco
   clear hs hn hf hv hco;go_enter func28,ntmps28;go_wp2_with (first
    | (go_at_call 42;have _t:=tok2;refine (hC.out _ (hrc.below g2)).mono ?_;rintro e w3 ⟨rfl,hb3⟩;have g3:=g2.trans (hb3.mono g2.size);clear tok2)
    | (go_at_call 41;have _t:=tok1;refine (hT.out _ (hra.below g1)).mono ?_;rintro e w2 ⟨rfl,hb2⟩;have g2:=g1.trans (hb2.mono g1.size);clear tok1;have tok2:=trivial)
    | (go_at_call 40;refine (hF.out _ (hrc.alloc _)).mono ?_;rintro e w1 ⟨rfl,hb1⟩;have hX1:Blk w1 w.heap.size (Ro k n A ks.length c):=(aC w 32 (Ro k n A ks.length c) rfl).keep hb1;have g1:Bw w w1:=bU bw1 hb1;obtain ⟨x0,x1,x2⟩:=hX1.three;have tok1:=trivial))
   go_ret2
   exact ⟨0,co,rfl,q4,g3⟩
theorem aKw (N M:Nat)(ctx:List Tm)(C:Option Addr)(cc:Nat)(r:Rs Int)(k n:Int)(ks:List Tm)(A:Option Addr)(c:Nat)(w:World)(hs:ccR N ctx=some 0)(hl:jA (bH M) ctx (.mk k n ks)=some r)(hf:kB ctx=true)(hv:aE (.mk k n ks)=true)(hcc:ctx.length≤cc)(hsz:aG ctx≤2000000)(hrc:Rd w C 0 ctx)(hra:Rd w A 0 ks) :
  Calls prog 28 #[.slice C ctx.length cc,.agg (Ro k n A ks.length c)] w (GtO w (match r with | .ok _=>true | .no _=>false)):=by
 have hz:=aH hv;have hfi:=jN hf;have hm:=hfi.2;have hF:=aD (fun (w:World) (hrc:Rd w C 0 ctx)=>sU ctx C cc w hsz hrc);have hT:=aD (fun (w:World) (hra:Rd w A 0 ks)=>aV k n ks A c w (by omega) hra);have hC:=aD (fun (w:World) (hrc:Rd w C 0 ctx)=>pT N ctx C cc 0 w hs hcc hsz hrc);rw [hf] at hF;rw [hv] at hT;have hcase:∃c3:Int,Hid (∀(w:World) (hrc:Rd w C 0 ctx) (hra:Rd w A 0 ks),Calls prog 43 #[.slice C ctx.length cc,.agg (Ro k n A ks.length c)] w fun e w'=>∃l,e = .returned (.tuple #[.int .i64 l,.int .i64 c3])∧Bw w w')∧((c3==0)=(match r with | .ok _=>true | .no _=>false)):=by
  have hS:=fun (w:World) (hrc:Rd w C 0 ctx) (hra:Rd w A 0 ks)=>dV (vC M) ctx C cc k n ks A c r w hl hv hfi.1 (by omega) hrc hra
  cases r with
  | ok l=>exact ⟨0,aD fun w hrc hra=>(hS w hrc hra).mono fun e w' h=>⟨l,h⟩,rfl⟩
  | no b2=>exact ⟨cX b2,aD hS,by cases b2<;>rfl⟩
 obtain ⟨c3,hS,hb⟩:=hcase;rw [← hb];clear hs hl hf hv hfi hb;go_enter func28,ntmps28;go_wp2_with (first
  | (go_at_call 43;have _t:=tok3;refine (hS.out _ (hrc.below g3) (hra.below g3)).mono ?_;rintro e w4 ⟨l,rfl,hb4⟩;have g4:Bw w w4:=g3.trans (hb4.mono g3.size);clear tok3)
  | (go_at_call 42;have _t:=tok2;refine (hC.out _ (hrc.below g2)).mono ?_;rintro e w3 ⟨rfl,hb3⟩;have hX3:=hX2.keep hb3;have g3:=g2.trans (hb3.mono g2.size);clear x0 x1 x2 tok2;obtain ⟨x0,x1,x2⟩:=hX3.three;have tok3:=trivial)
  | (go_at_call 41;have _t:=tok1;refine (hT.out _ (hra.below g1)).mono ?_;rintro e w2 ⟨rfl,hb2⟩;have hX2:=hX1.keep hb2;have g2:=g1.trans (hb2.mono g1.size);clear x0 x1 x2 tok1;obtain ⟨x0,x1,x2⟩:=hX2.three;have tok2:=trivial)
  | (go_at_call 40;refine (hF.out _ (hrc.alloc _)).mono ?_;rintro e w1 ⟨rfl,hb1⟩;have hX1:Blk w1 w.heap.size (Ro k n A ks.length c):=(aC w 32 (Ro k n A ks.length c) rfl).keep hb1;have g1:Bw w w1:=bU bw1 hb1;obtain ⟨x0,x1,x2⟩:=hX1.three;have tok1:=trivial))
 go_ret2
 exact ⟨_,c3,rfl,rfl,g4⟩
theorem vS (ctx:List Tm)(C:Option Addr)(cc:Nat)(k n:Int)(ks:List Tm)(A:Option Addr)(c:Nat)(w:World)(b:Bool)(hb:b=true↔Sok ctx (.mk k n ks))(hcc:ctx.length≤cc)(hsz:aG ctx≤2000000)(hz:aG ks≤2000000)(hrc:Rd w C 0 ctx)(hra:Rd w A 0 ks) :
  Calls prog 28 #[.slice C ctx.length cc,.agg (Ro k n A ks.length c)] w (GtO w b):=by
 obtain ⟨N,M,co,co',h1,h2,h3,h4⟩:=aCx ctx;have hF:¬Sok ctx (.mk k n ks)→b=false:=fun h=>by
  cases b with
  | false=>rfl
  | true=>exact absurd (hb.1 rfl) h
 by_cases hx:CxO ctx
 ·obtain rfl:=h3.2 hx;cases hv:aE (.mk k n ks) with
  | false=>
   rw [hF fun h=>by rw [h.2.1] at hv;cases hv];exact aCz N ctx C cc _ k n ks A c w h1 hcc hsz hz hrc hra (.inr hv)
  | true=>
   obtain ⟨N1,q,q',e1,e2,e3⟩:=aBy hx.2 hv;have:=aKw N N1 ctx C cc q k n ks A c w h1 e1 hx.1 hv hcc hsz hrc hra;cases q with
   | ok l=>
    rw [hb.2 ⟨hx,hv,N1,l,e1⟩];exact this
   | no b2=>
    rw [hF fun h=>by
     obtain ⟨_,_,N2,l,h5⟩:=h;cases vA e1 h5]
    exact this
 ·rw [hF fun h=>hx h.1];exact aCz N ctx C cc co k n ks A c w h1 hcc hsz hz hrc hra (.inl fun h=>hx (h3.1 h))
def vty (ctx:List Tm)(j:Nat):Tm:=ctx.getD (ctx.length - 1 - j) default
def uv1 (ctx:List Tm)(want:Tm)(j:Nat):Bool:=(yl want 4 (bT ((j:Int)+1) 0 (vty ctx j))).isSome
def yP (ctx:List Tm)(want:Tm)(m:Nat):List Int:=((List.range m).filter (uv1 ctx want)).map fun j=>((j:Nat):Int)
theorem aGr {ctx:List Tm}{want:Tm}{m:Nat}(h:uv1 ctx want m=true):yP ctx want (m+1)=yP ctx want m++[(m:Int)]:=by
 unfold yP
 rw [List.range_succ,List.filter_append,List.map_append];simp [h]
theorem aEh {ctx:List Tm}{want:Tm}{m:Nat}(h:uv1 ctx want m=false):yP ctx want (m+1)=yP ctx want m:=by
 unfold yP
 rw [List.range_succ,List.filter_append,List.map_append];simp [h]
theorem aNu (ctx:List Tm)(want:Tm)(m:Nat):(yP ctx want m).length≤m:=by
 unfold yP
 rw [List.length_map];have:=List.length_filter_le (uv1 ctx want) (List.range m);rwa [List.length_range] at this
theorem aIk {b:Int}{t:Tm}(hb:0≤b)(ht:aE t=true)(h:bD b 0 t=none):aE (bT b 0 t)=false:=by
 cases hv:aE (bT b 0 t) with
 | false=>rfl
 | true=>rw [nB hb ht hv] at h;cases h
theorem aHb {b:Int}{t u:Tm}(ht:aE t=true)(h:bD b 0 t=some u):u=bT b 0 t:=by
 have:=fS (aZ ht) (by rw [h];rfl);rw [h] at this;exact this
theorem aJj {ctx:List Tm}{want:Tm}{j:Nat}(hv:aE (vty ctx j)=true)(h:bD ((j:Int)+1) 0 (vty ctx j)=none):uv1 ctx want j=false:=by
 unfold uv1
 rw [aKc (aIk (by omega) hv h)];rfl
theorem aKj {ctx:List Tm}{want:Tm}{j:Nat}{u:Tm}(hv:aE (vty ctx j)=true)(h:bD ((j:Int)+1) 0 (vty ctx j)=some u):uv1 ctx want j=(yl want 4 u).isSome:=by
 unfold uv1
 rw [← aHb hv h]
theorem aOt (o:Option (List Tm)):decide ((0:Int)≤ylI 0 o)=o.isSome:=by
 cases o with
 | none=>rfl
 | some l=>rw [show ylI 0 (some l)=(0:Int)+(l.length:Int) from rfl];simp
theorem yE {ctx:List Tm}(hvc:∀u,u∈ctx→aE u=true){j:Nat}(hj:j<ctx.length):aE (vty ctx j)=true:=by
 unfold vty
 rw [zZ hj];exact hvc _ (iC _)
theorem aNs (ctx:List Tm)(C:Option Addr)(cc:Nat)(k n:Int)(ks:List Tm)(A:Option Addr)(c:Nat)(w:World)(hn:¬Sok ctx (.mk k n ks))(hcc:ctx.length≤cc)(hsz:aG ctx≤2000000)(hz:aG ks≤2000000)(hrc:Rd w C 0 ctx)(hra:Rd w A 0 ks) :
  Calls prog 9 #[.slice C ctx.length cc,.agg (Ro k n A ks.length c)] w (aHl w []):=by
 have hlen:=aJ ctx;have hS:=aD (fun (w:World) (hrc:Rd w C 0 ctx) (hra:Rd w A 0 ks)=>vS ctx C cc k n ks A c w false ⟨fun h=>(by cases h),fun h=>absurd h hn⟩ hcc hsz hz hrc hra);clear hn;go_enter func9,ntmps9;go_wp2_with (go_at_call 28;refine (hS.out _ ((hrc.alloc _).alloc _) ((hra.alloc _).alloc _)).mono ?_;rintro e w1 ⟨n2,c2,rfl,hc2,hb1⟩;have qc:(c2==0)=false:=hc2;have qd:decide (c2=0)=false:=(by simpa using hc2);have hrw:RowI (w.heap.size+1) w1 (.slice (some ⟨w.heap.size+1,0,none⟩) 0 0) []:=((RowI.empty (w.alloc (.cells (Ro k n A ks.length c) 32)) (B:=w.heap.size+1) (by simp) (by simp)).below hb1);have g1:Bw w w1:=bU bw2 hb1)
 go_loopw [5,8] (fun s i wr=>s = .slice (some ⟨w.heap.size+1,0,none⟩) 0 0∧i = .int .i64 0∧wr=w1) (fun _ i _=>0)
 case atStart=>exact ⟨rfl,rfl,rfl⟩
 case round=>
  obtain ⟨rfl,rfl,rfl⟩:=hrel;by_cases h0:(0:Int)<(ctx.length:Int)
  all_goals
   go_wp2_with fail
   go_ret
   exact ⟨_,_,rfl,hrw.mono (Nat.le_succ _),g1⟩
theorem aMi (ctx:List Tm)(C:Option Addr)(cc:Nat)(k n:Int)(ks:List Tm)(A:Option Addr)(c:Nat)(w:World)(hn:Sok ctx (.mk k n ks))(hcc:ctx.length≤cc)(hsz:aG ctx≤2000000)(hrc:Rd w C 0 ctx)(hra:Rd w A 0 ks) :
  Calls prog 9 #[.slice C ctx.length cc,.agg (Ro k n A ks.length c)] w (aHl w (yP ctx (.mk k n ks) ctx.length)):=by
 have hfi:=jN hn.1.1;have hm:=hfi.2;have hvt:=hn.2.1;have hz:=aH hvt;have hS:=aD (fun (w:World) (hrc:Rd w C 0 ctx) (hra:Rd w A 0 ks)=>vS ctx C cc k n ks A c w true ⟨fun _=>hn,fun _=>rfl⟩ hcc hsz (by omega) hrc hra);have hvc:=aD hfi.1;have hvt:=aD hvt;clear hfi hn;obtain ⟨RR,hRR⟩:∃R,yP ctx (.mk k n ks) ctx.length=R:=⟨_,rfl⟩;rw [hRR];have hRR:=aD hRR;go_enter func9,ntmps9;go_wp2_with (go_at_call 28;refine (hS.out _ ((hrc.alloc _).alloc _) ((hra.alloc _).alloc _)).mono ?_;rintro e w1 ⟨n2,c2,rfl,hc2,hb1⟩;obtain rfl:c2=0:=(by simpa using hc2);have hX1:Blk w1 w.heap.size (Ro k n A ks.length c):=((aC w 32 (Ro k n A ks.length c) rfl).alloc _).keep hb1;have hrw:RowI (w.heap.size+1) w1 (.slice (some ⟨w.heap.size+1,0,none⟩) 0 0) []:=((RowI.empty (w.alloc (.cells (Ro k n A ks.length c) 32)) (B:=w.heap.size+1) (by simp) (by simp)).below hb1);have g1:Bw w w1:=bU bw2 hb1)
 go_loopw [5,8] (fun s i wr=>∃(j:Nat) (l:List Int) (L:Option Addr) (cl:Nat),j≤ctx.length∧i = .int .i64 j∧s = .slice L l.length cl∧l.length≤j∧Hid (l=yP ctx (.mk k n ks) j)∧RowI (w.heap.size+1) wr (.slice L l.length cl) l∧Blk wr w.heap.size (Ro k n A ks.length c)∧Bw w wr)
  (fun _ i _ => ctx.length - (intOf i).toNat)
 case atStart=>exact ⟨0,[],_,_,Nat.zero_le _,rfl,rfl,oL _,aD rfl,hrw,hX1,g1⟩
 case round=>
  clear hX1 hrw g1 hS;obtain ⟨j,l,L,cl,hj,rfl,rfl,hlj,hl,hP,hX,hb⟩:=hrel;by_cases hlt:j<ctx.length
  rotate_left
  ·have hje:j=ctx.length:=by omega
   subst hje;have q1:¬((ctx.length:Int)<(ctx.length:Int)):=by omega
   go_wp2_with fail
   go_ret
   obtain rfl:l=RR:=by rw [hl.out,hRR.out]
   exact ⟨L,cl,rfl,hP.mono (Nat.le_succ _),hb⟩
  ·have hlt2:ctx.length - 1 - j<ctx.length:=by omega
   have hvy:=yE hvc.out hlt;have hyx:vty ctx j=ctx[ctx.length - 1 - j]:=zZ hlt;obtain ⟨b,off,k1,n1,ks1,A1,c1,hC,hkj,hc1,hc2,hc3,hl1,hr1⟩:=(hrc.below hb).at_ hlt2;subst hC;rw [hyx,hkj] at hvy;have hz1:=aH hvy;obtain ⟨k5,n5,s5,h5⟩:=jF (bT ((j:Int)+1) 0 (.mk k1 n1 ks1));have hz5:aG s5≤1000000:=by
    have h1:=mC ((j:Int)+1) (.mk k1 n1 ks1) 0;rw [h5,Tm.size,Tm.size] at h1;omega
   have hSh:=aD (show ∀(w:World) (hr:Rd w A1 0 ks1),Calls prog 29 #[.agg (Ro k1 n1 A1 ks1.length c1),.int .i64 ((j:Int)+1),.int .i64 0] w (qU w k5 n5 s5) from fun w hr=>by
    have:=gN _ k1 n1 ks1 A1 c1 ((j:Int)+1) 0 30 w (oH _) (by omega) (aY hvy) (by omega) (by omega) (by omega) hr;rw [bT] at h5;injection h5 with e1 e2 e3;subst e1;rw [e2,e3] at this;exact this)
   have hu1:uv1 ctx (.mk k n ks) j=(yl (.mk k n ks) 4 (.mk k5 n5 s5)).isSome:=by unfold uv1;rw [hyx,hkj,h5]
   have hX0:=fun (w:World) (A5:Option Addr) (c5:Nat) (hr:Rd w A5 0 s5) (hr2:Rd w A 0 ks)=>aCf k5 n5 s5 A5 c5 k n ks A c w hz5 hvt.out hr hr2
   have hg:=aOt (yl (.mk k n ks) 4 (.mk k5 n5 s5));rw [← hu1] at hg;generalize ylI 0 (yl (.mk k n ks) 4 (.mk k5 n5 s5))=R at hX0 hg
   have hX0:=aD hX0;have e1:((ctx.length:Int) - 1 - (j:Int))=((ctx.length - 1 - j:Nat):Int):=by omega
   have q1:(j:Int)<(ctx.length:Int):=by omega
   clear h5 hkj hvy hyx hu1;generalize hi:ctx.length - 1 - j=i at *
   clear hi;obtain ⟨x0,x1,x2⟩:=hX.three;have tok0:=trivial;cases hu:uv1 ctx (.mk k n ks) j with
   | false=>
    rw [hu] at hg;have hl':=aD (show l=yP ctx (.mk k n ks) (j+1) by rw [aEh hu,← hl.out]);clear hu hl;go_wp2_with (first
     | (go_at_call 30;have _t:=tok2;refine (hX0.out _ A5 c5 (hf5.rd.alloc _) (((hra.below hb).below hb2).alloc _)).mono ?_;rintro e w3 ⟨rfl,hb3⟩;have g3:=g2.trans (hb3.mono (by have:=g2.size;simpa using this));have hX3:=hX2.keep hb3;have hP3:=hP2.below hb3;clear tok2)
     | (go_at_call 29;have _t:=tok0;refine (hSh.out _ hr1).mono ?_;rintro e w2 ⟨A5,c5,rfl,hl5,hf5,hb2⟩;clear x0 x1 x2 tok0;have hX2:=(hX.keep hb2).alloc (.cells (Ro k5 n5 A5 s5.length c5) 32);have hP2:=(hP.below hb2).alloc (.cells (Ro k5 n5 A5 s5.length c5) 32);have g2:=(hb.trans (hb2.mono hb.size)).alloc (by have:=hb.size;have:=hb2.size;omega) (.cells (Ro k5 n5 A5 s5.length c5) 32);obtain ⟨y0,y1,y2⟩:=(aC w2 32 (Ro k5 n5 A5 s5.length c5) rfl).three;obtain ⟨x0,x1,x2⟩:=hX2.three;have tok2:=trivial))
    exact ⟨⟨j+1,l,L,cl,by omega,by go_num,rfl,by omega,hl',hP3,hX3,g3⟩,by simp [intOf];omega⟩
   | true=>
    rw [hu] at hg;have hl':=aD (show l++[(j:Int)]=yP ctx (.mk k n ks) (j+1) by rw [aGr hu,← hl.out]);clear hu hl;go_wp2_with (first
     | (at_builtin;have _t:=tok3;refine kS hP3 s3 (by omega) rfl _ _ rfl rfl rfl ?_;intro L4 c4 w4 hP4 hb4;have g4:=g3.trans (hb4.mono (Nat.le_succ _));have hX4:=hX3.below hb4 (by omega);clear tok3)
     | (go_at_call 30;have _t:=tok2;refine (hX0.out _ A5 c5 (hf5.rd.alloc _) (((hra.below hb).below hb2).alloc _)).mono ?_;rintro e w3 ⟨rfl,hb3⟩;have g3:=g2.trans (hb3.mono (by have:=g2.size;simpa using this));have hX3:=hX2.keep hb3;have hP3:=hP2.below hb3;have s3:w.heap.size+1≤w3.heap.size:=hX3.lt;clear tok2;have tok3:=trivial)
     | (go_at_call 29;have _t:=tok0;refine (hSh.out _ hr1).mono ?_;rintro e w2 ⟨A5,c5,rfl,hl5,hf5,hb2⟩;clear x0 x1 x2 tok0;have hX2:=(hX.keep hb2).alloc (.cells (Ro k5 n5 A5 s5.length c5) 32);have hP2:=(hP.below hb2).alloc (.cells (Ro k5 n5 A5 s5.length c5) 32);have g2:=(hb.trans (hb2.mono hb.size)).alloc (by have:=hb.size;have:=hb2.size;omega) (.cells (Ro k5 n5 A5 s5.length c5) 32);obtain ⟨y0,y1,y2⟩:=(aC w2 32 (Ro k5 n5 A5 s5.length c5) rfl).three;obtain ⟨x0,x1,x2⟩:=hX2.three;have tok2:=trivial))
    exact ⟨⟨j+1,l++[(j:Int)],L4,c4,by omega,by go_num,by simp,by simp;omega,hl',by simpa using hP4,hX4,g4⟩,by simp [intOf];omega⟩
theorem aOf (ctx:List Tm)(C:Option Addr)(cc:Nat)(k n:Int)(ks:List Tm)(A:Option Addr)(c:Nat)(w:World)(hn:¬Sok ctx (.mk k n ks))(hcc:ctx.length≤cc)(hsz:aG ctx≤2000000)(hz:aG ks≤2000000)(hlk:ks.length≤9223372036854775807)(hrc:Rd w C 0 ctx)(hra:Rd w A 0 ks) :
  Calls prog 12 #[.slice C ctx.length cc,.agg (Ro k n A ks.length c)] w (aHl w []):=by
 have hlen:=aJ ctx;have hS:=aD (fun (w:World) (hrc:Rd w C 0 ctx) (hra:Rd w A 0 ks)=>yJ ctx C cc k n ks A c w false ⟨fun h=>(by cases h),fun h=>absurd h hn⟩ hcc hsz hz hlk hrc hra);clear hn;go_enter func12,ntmps12;go_wp2_with (go_at_call 31;refine (hS.out _ (hrc.alloc _) (hra.alloc _)).mono ?_;rintro e w1 ⟨n2,c2,rfl,hc2,hb1⟩;have qc:(c2 != 0)=true:=(by simpa using hc2);have g1:Bw w w1:=bU bw1 hb1)
 go_ret
 exact ⟨none,0,rfl,RowI.nil _ _,g1⟩
theorem aMb (ctx:List Tm)(C:Option Addr)(cc:Nat)(k n:Int)(ks:List Tm)(A:Option Addr)(c:Nat)(w:World)(hn:Sok ctx (.mk k n ks))(hcc:ctx.length≤cc)(hsz:aG ctx≤2000000)(hrc:Rd w C 0 ctx)(hra:Rd w A 0 ks) :
  Calls prog 12 #[.slice C ctx.length cc,.agg (Ro k n A ks.length c)] w (aHl w (yP ctx (.mk k n ks) ctx.length)):=by
 have hfi:=jN hn.1.1;have hm:=hfi.2;have hvt:=hn.2.1;have hz:=aH hvt;have hlk:ks.length≤9223372036854775807:=by have:=aJ ks;omega
 have hS:=aD (fun (w:World) (hrc:Rd w C 0 ctx) (hra:Rd w A 0 ks)=>yJ ctx C cc k n ks A c w true ⟨fun _=>hn,fun _=>rfl⟩ hcc hsz (by omega) hlk hrc hra);have hvc:=aD hfi.1;have hvt:=aD hvt;clear hfi hn;obtain ⟨RR,hRR⟩:∃R,yP ctx (.mk k n ks) ctx.length=R:=⟨_,rfl⟩;rw [hRR];have hRR:=aD hRR;go_enter func12,ntmps12;go_wp2_with (go_at_call 31;refine (hS.out _ (hrc.alloc _) (hra.alloc _)).mono ?_;rintro e w1 ⟨n2,c2,rfl,hc2,hb1⟩;obtain rfl:c2=0:=(by simpa using hc2);have hX1:Blk w1 w.heap.size (Ro k n A ks.length c):=(aC w 32 (Ro k n A ks.length c) rfl).keep hb1;have g1:Bw w w1:=bU bw1 hb1)
 go_loopw [7,23] (fun s i wr=>∃(j:Nat) (l:List Int) (L:Option Addr) (cl:Nat),j≤ctx.length∧i = .int .i64 j∧s = .slice L l.length cl∧l.length≤j∧Hid (l=yP ctx (.mk k n ks) j)∧RowI (w.heap.size+1) wr (.slice L l.length cl) l∧Blk wr w.heap.size (Ro k n A ks.length c)∧Bw w wr)
  (fun _ i _ => ctx.length - (intOf i).toNat)
 case atStart=>exact ⟨0,[],none,0,Nat.zero_le _,rfl,rfl,oL _,aD rfl,RowI.nil _ _,hX1,g1⟩
 case round=>
  clear hX1 g1 hS;obtain ⟨j,l,L,cl,hj,rfl,rfl,hlj,hl,hP,hX,hb⟩:=hrel;by_cases hlt:j<ctx.length
  rotate_left
  ·have hje:j=ctx.length:=by omega
   subst hje;have q1:¬((ctx.length:Int)<(ctx.length:Int)):=by omega
   go_wp2_with fail
   go_ret
   obtain rfl:l=RR:=by rw [hl.out,hRR.out]
   exact ⟨L,cl,rfl,hP.mono (Nat.le_succ _),hb⟩
  ·have hvy:=yE hvc.out hlt;have q1:(j:Int)<(ctx.length:Int):=by omega
   have hVT:=fun (w:World) (hrc:Rd w C 0 ctx)=>zX ctx C cc j w hm hlt hvc.out hrc
   have tok0:=trivial;change ∀(w:World),Rd w C 0 ctx→Calls prog 32 _ w (oM w (bD ((j:Int)+1) 0 (vty ctx j))) at hVT
   cases hsh:bD ((j:Int)+1) 0 (vty ctx j) with
   | none=>
    rw [hsh] at hVT;have hVT:=aD hVT;have hl':=aD (show l=yP ctx (.mk k n ks) (j+1) by rw [aEh (aJj hvy hsh),← hl.out]);clear hsh hvy hl;go_wp2_with (go_at_call 32;have _t:=tok0;refine (hVT.out _ (hrc.below hb)).mono ?_;intro e w2 hgo;obtain ⟨rfl,hb2⟩:=eH hgo;clear hgo;have hX2:=(hX.keep hb2).alloc (.cells Zr 32);have hP2:=(hP.below hb2).alloc (.cells Zr 32);have g2:=(hb.trans (hb2.mono hb.size)).alloc (by have:=hb.size;have:=hb2.size;omega) (.cells Zr 32);clear tok0)
    exact ⟨⟨j+1,l,L,cl,by omega,by go_num,rfl,by omega,hl',hP2,hX2,g2⟩,by simp [intOf];omega⟩
   | some t5=>
    obtain ⟨k5,n5,s5⟩:=t5;rw [hsh] at hVT;have hVT:=aD hVT;have hv5:=jI hsh;have hY0:=fun (w:World) (A5:Option Addr) (c5:Nat) (hr:Rd w A5 0 s5) (hr2:Rd w A 0 ks)=>aCo k5 n5 s5 A5 c5 k n ks A c w hv5 hvt.out hr hr2
    have hu1:=aKj (want:=.mk k n ks) hvy hsh;clear hsh hvy hv5;cases hy:yl (.mk k n ks) 4 (.mk k5 n5 s5) with
    | none=>
     rw [hy] at hY0 hu1;have hY0:=aD hY0;have hl':=aD (show l=yP ctx (.mk k n ks) (j+1) by rw [aEh hu1,← hl.out]);clear hu1 hl hy;go_wp2_with (first
      | (go_at_call 33;have _t:=tok2;refine (hY0.out _ A5 c5 (hf5.rd.alloc _) (((hra.below hb).below hb2).alloc _)).mono ?_;rintro e w3 ⟨rfl,hb3⟩;have g3:=g2.trans (hb3.mono (by have:=g2.size;simpa using this));have hX3:=hX2.keep hb3;have hP3:=hP2.below hb3;clear tok2)
      | (go_at_call 32;have _t:=tok0;refine (hVT.out _ (hrc.below hb)).mono ?_;intro e w2 hgo;obtain ⟨A5,c5,rfl,hl5,hf5,hb2⟩:=cS hgo;clear hgo tok0;have hX2:=(hX.keep hb2).alloc (.cells (Ro k5 n5 A5 s5.length c5) 32);have hP2:=(hP.below hb2).alloc (.cells (Ro k5 n5 A5 s5.length c5) 32);have g2:=(hb.trans (hb2.mono hb.size)).alloc (by have:=hb.size;have:=hb2.size;omega) (.cells (Ro k5 n5 A5 s5.length c5) 32);obtain ⟨y0,y1,y2⟩:=(aC w2 32 (Ro k5 n5 A5 s5.length c5) rfl).three;obtain ⟨x0,x1,x2⟩:=hX2.three;have tok2:=trivial))
     exact ⟨⟨j+1,l,L,cl,by omega,by go_num,rfl,by omega,hl',hP3,hX3,g3⟩,by simp [intOf];omega⟩
    | some ll=>
     rw [hy] at hY0 hu1;have hY0:=aD hY0;have hl':=aD (show l++[(j:Int)]=yP ctx (.mk k n ks) (j+1) by rw [aGr hu1,← hl.out]);clear hu1 hl hy;go_wp2_with (first
      | (at_builtin;have _t:=tok3;refine kS hP3 s3 (by omega) rfl _ _ rfl rfl rfl ?_;intro L4 c4 w4 hP4 hb4;have g4:=g3.trans (hb4.mono (Nat.le_succ _));have hX4:=hX3.below hb4 (by omega);clear tok3)
      | (go_at_call 33;have _t:=tok2;refine (hY0.out _ A5 c5 (hf5.rd.alloc _) (((hra.below hb).below hb2).alloc _)).mono ?_;rintro e w3 ⟨B3,b3,rfl,-,hb3⟩;have g3:=g2.trans (hb3.mono (by have:=g2.size;simpa using this));have hX3:=hX2.keep hb3;have hP3:=hP2.below hb3;have s3:w.heap.size+1≤w3.heap.size:=hX3.lt;clear tok2;have tok3:=trivial)
      | (go_at_call 32;have _t:=tok0;refine (hVT.out _ (hrc.below hb)).mono ?_;intro e w2 hgo;obtain ⟨A5,c5,rfl,hl5,hf5,hb2⟩:=cS hgo;clear hgo tok0;have hX2:=(hX.keep hb2).alloc (.cells (Ro k5 n5 A5 s5.length c5) 32);have hP2:=(hP.below hb2).alloc (.cells (Ro k5 n5 A5 s5.length c5) 32);have g2:=(hb.trans (hb2.mono hb.size)).alloc (by have:=hb.size;have:=hb2.size;omega) (.cells (Ro k5 n5 A5 s5.length c5) 32);obtain ⟨y0,y1,y2⟩:=(aC w2 32 (Ro k5 n5 A5 s5.length c5) rfl).three;obtain ⟨x0,x1,x2⟩:=hX2.three;have tok2:=trivial))
     exact ⟨⟨j+1,l++[(j:Int)],L4,c4,by omega,by go_num,by simp,by simp;omega,hl',by simpa using hP4,hX4,g4⟩,by simp [intOf];omega⟩
theorem aRd {w w':World}{A:Option Addr}{xs:List Int}(h:RdI w A xs)(hb:Bw w w'):RdI w' A xs:=h.below hb
theorem RI.only {B:Nat}{w w':World}{L:Option Addr}{xs:List Int}{fq:List Nat}(h:RI B w L xs)(ho:OnlyIn fq w w')(hf:∀b,b∈fq→b<B):RI B w' L xs:=by
 rcases h with rfl|⟨g,cur,rfl,h1,hB,hc⟩
 ·exact .inl rfl
 ·exact .inr ⟨g,cur,rfl,h1,hB.only ho (fun hg=>by have:=hf g hg;omega),hc⟩
theorem aQn (ts:List Tm)(k n:Int)(ks:List Tm)(hsz:aG ts≤2000000)(hz:aG ks≤2000000)(hlk:ks.length≤9223372036854775807):∃U:List Int,U.length≤1000∧
  (∀ (w : World) (C : Option Addr) (cc : Nat) (A : Option Addr) (c : Nat), ts.length ≤ cc → Rd w C 0 ts → Rd w A 0 ks → Calls prog 9 #[.slice C ts.length cc, .agg (Ro k n A ks.length c)] w (aHl w U)) ∧
  (∀ (w : World) (C : Option Addr) (cc : Nat) (A : Option Addr) (c : Nat), ts.length ≤ cc → Rd w C 0 ts → Rd w A 0 ks → Calls prog 12 #[.slice C ts.length cc, .agg (Ro k n A ks.length c)] w (aHl w U)) := by
 by_cases h:Sok ts (.mk k n ks)
 ·refine ⟨yP ts (.mk k n ks) ts.length,?_,fun w C cc A c hcc hrc hra=>aMi ts C cc k n ks A c w h hcc hsz hrc hra,fun w C cc A c hcc hrc hra=>aMb ts C cc k n ks A c w h hcc hsz hrc hra⟩;have:=aNu ts (.mk k n ks) ts.length;have:=(jN h.1.1).2;omega
 ·exact ⟨[],by simp,fun w C cc A c hcc hrc hra=>aNs ts C cc k n ks A c w h hcc hsz hz hrc hra,fun w C cc A c hcc hrc hra=>aOf ts C cc k n ks A c w h hcc hsz hz hlk hrc hra⟩
theorem rV (ts:List Tm)(B:Option Addr)(cb:Nat)(k n:Int)(ks:List Tm)(A:Option Addr)(c:Nat)(w:World)(hlB:ts.length≤9223372036854775807)(hrB:Rd w B 0 ts)(hl:ks.length≤9223372036854775807)(hr:Rd w A 0 ks) :
  Calls prog 3 #[.slice B ts.length cb,.agg (Ro k n A ks.length c)] w fun e w'=>e = .returned (.bool true)∧Bw w w':=by
 by_cases hs:aG ts≤1048576
 rotate_left
 ·have hsz:=aDy (left:=1048576) (m:=aG ts) (by omega);clear hs;go_enter func3,ntmps3;go_wp2_with (go_at_call 7;refine (kV (aG ts+1) ts B cb 1048576 _ (by omega) hlB (hrB.alloc _) (by omega) (by omega)).mono ?_;rw [hsz];rintro e w1 ⟨rfl,hb1⟩;replace hb1:=bw1.trans (hb1.mono (by simp)))
  go_ret
  exact ⟨rfl,hb1⟩
 have hsz:=zM (left:=1048576) (m:=aG ts) (by omega);have hz:=aD hs;have hneg:decide ((1048576:Int) - (aG ts:Int)<0)=false:=decide_eq_false (by omega);by_cases hs2:(aG ks:Int)≤1048576 - aG ts
 rotate_left
 ·have hsz2:=aDy (left:=1048576 - aG ts) (m:=aG ks) (by omega);clear hs hs2;go_enter func3,ntmps3;go_wp2_with (first
   | (go_at_call 8;refine (wK k n ks A c (1048576 - aG ts) _ hl (hr.below g1) (by have:=hz.out;omega) (by omega)).mono ?_;rw [hsz2];rintro e w2 ⟨rfl,hb2⟩;have g2:=g1.trans (hb2.mono g1.size))
   | (go_at_call 7;refine (kV (aG ts+1) ts B cb 1048576 _ (by omega) hlB (hrB.alloc _) (by omega) (by omega)).mono ?_;rw [hsz];rintro e w1 ⟨rfl,hb1⟩;have hB:=(aC w 24 (Ro k n A ks.length c) rfl).keep hb1;obtain ⟨p0,p1,p2⟩:=hB.three;have g1:Bw w w1:=bU bw1 hb1))
  go_ret
  exact ⟨rfl,g2⟩
 have hsz2:=zM (left:=1048576 - aG ts) (m:=aG ks) hs2;have hz2:=aD hs2;have hneg2:decide ((1048576:Int) - (aG ts:Int) - (aG ks:Int)<0)=false:=decide_eq_false (by omega);have hneg3:decide ((1:Int)+2*(aG ts:Int)+2*(aG ks:Int)<0)=false:=decide_eq_false (by omega);obtain ⟨U,hU,hS,hI⟩:=aQn ts k n ks (by omega) (by omega) hl;have hneg4:decide ((1:Int)+(U.length:Int)<0)=false:=decide_eq_false (by omega);have hS:=aD hS;have hI:=aD hI;have t1:=trivial;clear hs hs2;go_enter func3,ntmps3;go_upto_region 8 with (first
  | (go_at_call 8;have _t:=t2;refine (wK k n ks A c (1048576 - aG ts) _ hl (hr.below g1) (by have:=hz.out;omega) (by omega)).mono ?_;rw [hsz2];rintro e w2 ⟨rfl,hb2⟩;clear p0 p1 p2;replace hB:=hB.keep hb2;have g2:=g1.trans (hb2.mono g1.size);clear t2;have t3:=trivial)
  | (go_at_call 7;have _t:=t1;refine (kV (aG ts+1) ts B cb 1048576 _ (by omega) hlB (hrB.alloc _) (by omega) (by omega)).mono ?_;rw [hsz];rintro e w1 ⟨rfl,hb1⟩;have hB:=(aC w 24 (Ro k n A ks.length c) rfl).keep hb1;obtain ⟨p0,p1,p2⟩:=(hB).three;have g1:Bw w w1:=bU bw1 hb1;clear t1;have t2:=trivial))
 have u0:=hB.rule (i:=0) rfl;have u1:=hB.rule (i:=1) rfl;have u2:=hB.rule (i:=2) rfl;refine bL (fun w'=>Bw w2 w') [0,2] [1,3,4] [5] [_,_] [_,_,_] [_] (by kernel_rfl) (by kernel_rfl) rfl rfl rfl (fun _ _ d _ _ h=>by cases d<;>exact h) (eR _ _).drew ?_;refine bZ (aD ?_);refine bO ?_;go_wp2_with (go_at_call 10;refine (jL (aG ts+1) ts B cb _ (by omega) (by have:=hz.out;omega) (hrB.below g2).drew).mono ?_;rintro e w3 ⟨B3,c3,rfl,hc3,hf3,hb3⟩)
 replace hb3:Bw w2 w3:=(eR _ _).drew.trans hb3;refine aQ hb3 (bO ?_);go_wp2_with (go_at_call 11;refine (oC k n ks A c _ (by have:=hz.out;have:=hz2.out;omega) ((hr.below g2).below hb3)).mono ?_;rintro e w4 ⟨A4,c4,rfl,hl4,hf4,hb4⟩)
 have hb24:=hb3.trans (hb4.mono hb3.size);refine aQ hb24 (bO ?_);go_wp2_with (go_at_call 9;refine (hS.out _ B3 c3 A4 c4 hc3 (hf3.rd.below hb4) hf4.rd).mono ?_;rintro e w5 ⟨L5,c5,rfl,hU5,hb5⟩)
 have hb25:=hb24.trans (hb5.mono hb24.size);refine aQ hb25 (dL ?_);clear u0 u1 u2 hf3 hf4 t3;have t3:=trivial;have g5:=g2.trans (hb25.mono g2.size);replace hB:=hB.keep hb25;have lB:w.heap.size<w5.heap.size:=hB.lt;obtain ⟨_,_,ee,hR5⟩:=hU5.form;injection ee with e1 e2 e3;subst e1 e3;clear hU5 hb24 hb25 hb3 hb4 hb5;obtain ⟨p0,p1,p2⟩:=hB.three;go_upto_region 16 with (first
  | (go_at_call 14;have _t:=t8;refine (tH (aG ts+1) ts B6 c6 ts B10 c10 _ (by omega) hlB hlB hO6.rd hf10.rd).mono ?_;rw [vK];rintro e w11 ⟨rfl,hb11⟩;replace hB:=hB.keep hb11;replace hC:=hC.keep hb11;replace hO6:=hO6.keep hb11;replace hO7:=hO7.keep hb11;replace hI8:=hI8.keep hb11;have g11:=g10.trans (hb11.mono g10.size);have H11:=H10.trans (hb11.mono H10.size);clear hf10;clear t8;have t9:=trivial)
  | (go_at_call 10;have _t:=t7;refine (jL (aG ts+1) ts B cb _ (by omega) (by have:=hz.out;omega) (hrB.below g9)).mono ?_;rintro e w10 ⟨B10,c10,rfl,-,hf10,hb10⟩;replace hB:=hB.keep hb10;replace hC:=hC.keep hb10;replace hO6:=hO6.keep hb10;replace hO7:=hO7.keep hb10;replace hI8:=hI8.keep hb10;have g10:=g9.trans (hb10.mono g9.size);have H10:=H9.trans (hb10.mono H9.size);clear t7;have t8:=trivial)
  | (go_at_call 13;have _t:=t6;refine (qP U U L8 L5 c8 c5 _ (by omega) (by omega) hI8.rd (hR5.below H8)).mono ?_;rw [(show decide (U=U)=true from decide_eq_true rfl)];rintro e w9 ⟨rfl,hb9⟩;replace hB:=hB.keep hb9;replace hC:=hC.keep hb9;replace hO6:=hO6.keep hb9;replace hO7:=hO7.keep hb9;replace hI8:=hI8.keep hb9;have g9:=g8.trans (hb9.mono g8.size);have H9:=H8.trans (hb9.mono H8.size);clear t6;have t7:=trivial)
  | (go_at_call 12;have _t:=t5;refine (hI.out _ B6 c6 A7 c7 hc6 hO6.rd hO7.rd).mono ?_;rintro e w8 ⟨L8,c8,rfl,hU8,hb8⟩;clear q0 q1 q2;replace hB:=hB.keep hb8;replace hC:=hC.keep hb8;replace hO6:=hO6.keep hb8;replace hO7:=hO7.keep hb8;have g8:=(g7.alloc g7.size _).trans (hb8.mono (by have:=g7.size;simp;omega));have H8:=(H7.alloc H7.size _).trans (hb8.mono (by have:=H7.size;simp;omega));have hI8:=hU8.ri;clear hU8;clear t5;have t6:=trivial)
  | (go_at_call 11;have _t:=t4;refine (oC k n ks A c _ (by have:=hz.out;have:=hz2.out;omega) (hr.below g6)).mono ?_;rintro e w7 ⟨A7,c7,rfl,hl7,hf7,hb7⟩;clear p0 p1 p2;replace hB:=(hB.keep hb7).alloc (.cells (Ro k n A7 ks.length c7) 32);have hC:=aC w7 32 (Ro k n A7 ks.length c7) rfl;have g7:=g6.trans (hb7.mono g6.size);have H7:=H6.trans (hb7.mono H6.size);replace hO6:=(hO6.keep hb7).alloc (.cells (Ro k n A7 ks.length c7) 32);obtain ⟨fp7,hO7⟩:=hf7.owf;replace hO7:=hO7.alloc (.cells (Ro k n A7 ks.length c7) 32);obtain ⟨q0,q1,q2⟩:=(hC).three;clear hf7;clear t4;have t5:=trivial)
  | (go_at_call 10;have _t:=t3;refine (jL (aG ts+1) ts B cb _ (by omega) (by have:=hz.out;omega) (hrB.below g5)).mono ?_;rintro e w6 ⟨B6,c6,rfl,hc6,hf6,hb6⟩;clear p0 p1 p2;replace hB:=hB.keep hb6;have g6:=g5.trans (hb6.mono g5.size);have H6:Bw w5 w6:=hb6;obtain ⟨fp6,hO6⟩:=hf6.owf;obtain ⟨p0,p1,p2⟩:=(hB).three;clear hf6;clear t3;have t4:=trivial))
 have u0:=hC.rule (i:=0) rfl;have u1:=hC.rule (i:=1) rfl;have u2:=hC.rule (i:=2) rfl;have q0:=hB.rule (i:=0) rfl;have q1:=hB.rule (i:=1) rfl;have q2:=hB.rule (i:=2) rfl;refine bL (fun w'=>Bw w11 w') [0,1] [2,3] [4] [_,_] [_,_] [_] (by kernel_rfl) (by kernel_rfl) rfl rfl rfl (fun _ _ d _ _ h=>by cases d<;>exact h) (eR _ _).drew ?_;refine bZ (aD ?_);refine bO ?_;go_wp2_with (go_at_call 11;refine (oC k n ks A c _ (by have:=hz.out;have:=hz2.out;omega) (hr.below g11).drew).mono ?_;rintro e w12 ⟨A12,c12,rfl,hl12,hf12,hb12⟩)
 replace hb12:Bw w11 w12:=(eR _ _).drew.trans hb12;refine aQ hb12 (bO ?_);replace hO7:=hO7.keep hb12;go_wp2_with (go_at_call 15;refine (aDq k n ks A7 c7 k n ks A12 c12 _ hl7 hl7 hO7.rd hf12.rd).mono ?_;rw [lY];rintro e w13 ⟨rfl,hb13⟩)
 have hb23:=hb12.trans (hb13.mono hb12.size);refine aQ hb23 (dL ?_);clear u0 u1 u2 q0 q1 q2 hf12;replace hB:=hB.keep hb23;replace hC:=hC.keep hb23;replace hO6:=hO6.keep hb23;replace hO7:=hO7.keep hb13;replace hI8:=hI8.keep hb23;have g13:=g11.trans (hb23.mono g11.size);have H13:=H11.trans (hb23.mono H11.size);have hB5:=hB.lt;have s56:=hb6.size;have s67:=hb7.size;have s78:=hb8.size;simp only [World.size_alloc] at s78
 go_upto_region 31 with (first
  | (go_at_call 19;have _t:=t13;refine (rY U.length L8 c8 1 _ (by omega) (by omega) (by omega) hI9.rd).mono ?_;rintro e w18 ⟨rfl,hb18⟩;replace hI9:=hI9.keep hb18;have g18:=g17.trans (hb18.mono g17.size);have H18:=H17.trans (hb18.mono H17.size);clear t13;have t14:=trivial)
  | (go_at_call 18;have _t:=t12;refine (zF _ U L8 c8 1 _ (by omega) (by omega) (by omega) hI8).mono ?_;rintro e w17 ⟨rfl,hI9,hb17⟩;replace hb17:Below w5.heap.size w16 w17:=hb17.mono (by simp only [World.size_alloc];omega);have g17:=g16.trans (hb17.mono g5.size);have H17:=H16.trans hb17;clear hI8;clear t12;have t13:=trivial)
  | (go_at_call 13;have _t:=t11;refine (qP U U L8 L5 c8 c5 _ (by omega) (by omega) hI8.rd (hR5.below H15)).mono ?_;rw [(show decide (U=U)=true from decide_eq_true rfl)];rintro e w16 ⟨rfl,hb16⟩;replace hI8:=hI8.keep hb16;have g16:=g15.trans (hb16.mono g15.size);have H16:=H15.trans (hb16.mono H15.size);clear t11;have t12:=trivial)
  | (go_at_call 17;have _t:=t10;refine (zR k n ks A7 c7 fp7 (1+2*aG ts) _ (by have:=hz.out;have:=hz2.out;omega) (by omega) (by have:=hz.out;have:=hz2.out;omega) hO7.ow hO7.nodup).mono ?_;rintro e w15 ⟨rfl,hq,hm⟩;have hb15:Below w5.heap.size w14 w15:=hm.below H14.size (fun b hb=>by have:=hO7.lo b hb;omega);replace hI8:=hI8.only hm (fun b hb=>by have:=hO7.hi b hb;simp only [World.size_alloc];omega);have g15:=g14.trans (hb15.mono g5.size);have H15:=H14.trans hb15;clear hq hm hO7 hC q0 q1 q2;clear t10;have t11:=trivial)
  | (go_at_call 16;have _t:=t9;refine (pU (aG ts+1) ts B6 c6 fp6 1 _ (by omega) (by have:=hz.out;omega) (by omega) (by have:=hz.out;omega) hO6.ow hO6.nodup).mono ?_;rintro e w14 ⟨rfl,hq,hm⟩;have hb14:Below w5.heap.size w13 w14:=hm.below H13.size (fun b hb=>hO6.lo b hb);replace hC:=hC.only hm (hO6.out (.inr s67));replace hO7:=hO7.only hm (hO7.apart' hO6 (oL _));replace hI8:=hI8.only hm (fun b hb=>by have:=hO6.hi b hb;simp only [World.size_alloc];omega);have g14:=g13.trans (hb14.mono g5.size);have H14:=H13.trans hb14;clear hq hm hO6;obtain ⟨q0,q1,q2⟩:=(hC).three;clear t9;have t10:=trivial))
 have H18B:Below w5.heap.size w13 w18:=hb14.trans (hb15.trans ((hb16.mono (H15.size)).trans (hb17.trans (hb18.mono H17.size))));have hB18:=hB.below H18B lB;have u0:=hB18.rule (i:=0) rfl;have u1:=hB18.rule (i:=1) rfl;have u2:=hB18.rule (i:=2) rfl;refine bL (fun w'=>Bw w18 w') [0,2] [1,3,4] [5] [_,_] [_,_,_] [_] (by kernel_rfl) (by kernel_rfl) rfl rfl rfl (fun _ _ d _ _ h=>by cases d<;>exact h) (eR _ _).drew ?_;refine bZ (aD ?_);refine bO ?_;go_wp2_with (go_at_call 10;refine (jL (aG ts+1) ts B cb _ (by omega) (by have:=hz.out;omega) (hrB.below g18).drew).mono ?_;rintro e w19 ⟨B19,c19,rfl,hc19,hf19,hb19⟩)
 replace hb19:Bw w18 w19:=(eR _ _).drew.trans hb19;refine aQ hb19 (bO ?_);go_wp2_with (go_at_call 11;refine (oC k n ks A c _ (by have:=hz.out;have:=hz2.out;omega) ((hr.below g18).below hb19)).mono ?_;rintro e w20 ⟨A20,c20,rfl,hl20,hf20,hb20⟩)
 have hb220:=hb19.trans (hb20.mono hb19.size);refine aQ hb220 (bO ?_);go_wp2_with (go_at_call 12;refine (hI.out _ B19 c19 A20 c20 hc19 (hf19.rd.below hb20) hf20.rd).mono ?_;rintro e w21 ⟨L21,c21,rfl,hU21,hb21⟩)
 have hb221:=hb220.trans (hb21.mono hb220.size);refine aQ hb221 (dL ?_);clear u0 u1 u2 hf19 hf20;have g21:=g18.trans (hb221.mono g18.size);have H21:=H18.trans (hb221.mono H18.size);replace hI9:=hI9.keep hb221;have hR21:=hU21.ri.rd;go_wp2_with (first
  | (go_at_call 19;have _t:=t15;refine (rY U.length L8 c8 1 _ (by omega) (by omega) (by omega) hI9.rd).mono ?_;rintro e w23 ⟨rfl,hb23⟩;have g23:=g22.trans (hb23.mono g22.size);clear t15;have t16:=trivial)
  | (go_at_call 13;have _t:=t14;refine (qP U U L21 L5 c21 c5 _ (by omega) (by omega) hR21 (hR5.below H21)).mono ?_;rw [(show decide (U=U)=true from decide_eq_true rfl)];rintro e w22 ⟨rfl,hb22⟩;replace hI9:=hI9.keep hb22;have g22:=g21.trans (hb22.mono g21.size);clear t14;have t15:=trivial))
 go_ret
 exact ⟨rfl,g23⟩
end Go.Proofs.YtjlaenhcemacdaaGreat
