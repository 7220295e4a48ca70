/- Parts of the proof. No condition. -/
import Derived.Test.YtjlaenhcemacdaaGreatK5
import Derived.Test.YtjlaenhcemacdaaGreatK6
import Derived.Test.YtjlaenhcemacdaaGreatK7
open Go.Proofs.Tryz
namespace Go.Proofs.YtjlaenhcemacdaaGreat
open Go.RowKit
set_option maxHeartbeats 2000000
set_option maxRecDepth 100000
set_option linter.unusedSimpArgs false
set_option linter.unusedVariables false
theorem mC (by_:Int)(t:Tm):∀d,(bT by_ d t).size=t.size:=by
 refine Tm.rec (motive_1:=fun t=>∀d,(bT by_ d t).size=t.size) (motive_2:=fun ts=>∀k d i,aG (bN by_ k d i ts)=aG ts) ?_ ?_ ?_ t
 ·intro k n ks ih d;rw [bT,Tm.size,Tm.size,ih]
 ·intro k d i;rfl
 ·intro t ts h1 h2 k d i;rw [bN,aG,aG,h1,h2]
theorem bY {q:Nat}{k n:Int}{ks:List Tm}(h:shape q (.mk k n ks)=true):∃q',q=q'+1∧aU k=(ks.length:Int)∧0≤n∧n≤dG k∧∀t,t∈ks→shape q' t=true:=by
 cases q with
 | zero=>simp [shape] at h
 | succ q=>exact ⟨q,rfl,(bF q k n ks).1 h⟩
theorem rN {ks:List Tm}(h:aU 1=(ks.length:Int)):ks=[]:=by
 have h0:aU 1=0:=rfl;rw [h0] at h;exact lEn (by omega)
theorem aAa (by_ cut:Int)(t:Tm):∀(q:Nat) (e:Int),shape q t=true→tS (shF by_ cut) e t=bT by_ (cut+e) t:=by
 refine Tm.rec (motive_1:=fun t=>∀(q:Nat) (e:Int),shape q t=true→tS (shF by_ cut) e t=bT by_ (cut+e) t)
  (motive_2 := fun ts => ∀ (q : Nat) (k e : Int) (i : Nat), (∀ t, t ∈ ts → shape q t = true) → gI (shF by_ cut) k e i ts = bN by_ k (cut + e) i ts) ?_ ?_ ?_ t
 ·intro k n ks ih q e h;obtain ⟨q',rfl,ha,h0,h1,hk⟩:=bY h;rw [tS,bT];by_cases h1:k=1
  ·subst h1;have:=rN ha;subst this;rw [if_pos rfl,shF,bN];congr 1
   by_cases hc:cut≤n - e
   ·rw [if_pos hc,if_pos ⟨rfl,by omega⟩]
   ·rw [if_neg hc,if_neg (by rintro ⟨-,h⟩;omega)]
  ·rw [if_neg h1,if_neg (by rintro ⟨h,-⟩;exact h1 h),ih q' k e 0 hk]
 ·intro q k e i _;rfl
 ·intro t ts h1 h2 q k e i hk;rw [gI,bN,h1 q _ (hk t List.mem_cons_self),h2 q k e (i+1) (fun t ht=>hk t (List.mem_cons_of_mem _ ht)),show cut+(e+aM k i)=cut+e+aM k i by omega]
theorem wZ (by_ cut:Int)(hb:0≤by_)(t:Tm):∀(q p:Nat) (e:Int),shape q t=true→shape p (bT by_ (cut+e) t)=true→eQ (pL by_ cut) e t=true:=by
 refine Tm.rec (motive_1:=fun t=>∀(q p:Nat) (e:Int),shape q t=true→shape p (bT by_ (cut+e) t)=true→eQ (pL by_ cut) e t=true)
  (motive_2 := fun ts => ∀ (q p : Nat) (k e : Int) (i : Nat), (∀ t, t ∈ ts → shape q t = true) → (∀ t, t ∈ bN by_ k (cut + e) i ts → shape p t = true) → dM (pL by_ cut) k e i ts = true) ?_ ?_ ?_ t
 ·intro k n ks ih q p e h hp;obtain ⟨q',rfl,ha,h0,h1,hk⟩:=bY h;rw [bT] at hp;obtain ⟨p',rfl,hpa,hp0,hp1,hpk⟩:=bY hp;rw [eQ];by_cases h1:k=1
  ·subst h1;have h20:dG 1=20:=rfl;rw [if_pos rfl,pL];by_cases hc:cut≤n - e
   ·rw [if_pos ⟨rfl,by omega⟩] at hp1;rw [if_pos hc,decide_eq_true (by omega),decide_eq_true (by omega)];rfl
   ·rw [if_neg hc]
  ·rw [if_neg h1];exact ih q' p' k e 0 hk hpk
 ·intro q p k e i _ _;rfl
 ·intro t ts h1 h2 q p k e i hk hp;rw [bN] at hp;rw [dM,h1 q p _ (hk t List.mem_cons_self) (by rw [show cut+(e+aM k i)=cut+e+aM k i by omega];exact hp _ List.mem_cons_self),h2 q p k e (i+1) (fun t ht=>hk t (List.mem_cons_of_mem _ ht)) (fun t ht=>hp t (List.mem_cons_of_mem _ ht))];rfl
theorem rI {p q:Nat}(h:p≤q)(t:Tm):shape p t=true→shape q t=true:=by
 induction p generalizing q t with
 | zero=>intro hp;simp [shape] at hp
 | succ p ih=>
  intro hp;obtain ⟨k,n,ks⟩:=t;obtain ⟨q',rfl⟩:∃q',q=q'+1:=⟨q - 1,by omega⟩;obtain ⟨a,b,c,d⟩:=(bF p k n ks).1 hp;exact (bF q' k n ks).2 ⟨a,b,c,fun t ht=>ih (by omega) t (d t ht)⟩
theorem fS {d:Int}{a:Tm}(hs:shape 30 a=true)(h:(bD d 0 a).isSome=true):(bD d 0 a).getD (.mk 0 0 [])=bT d 0 a:=by
 unfold bD at h⊢
 split
 ·rename_i h1
  rw [if_pos h1] at h;split
  ·rw [Option.getD_some,aAa d 0 a 30 0 hs,Int.zero_add]
  ·rename_i h2;rw [if_neg h2] at h;cases h
 ·rename_i h1;rw [if_neg h1] at h;cases h
theorem xS {d:Int}{a:Tm}(hd:0≤d)(hs:shape 30 a=true)(h:aE (bT d 0 a)=true):(bD d 0 a).isSome=true:=by
 have hsh:shape 30 (bT d 0 a)=true:=by simp only [aE,Bool.and_eq_true] at h;exact h.1
 have h1:eQ (pL d 0) 0 a=true:=wZ d 0 hd a 30 30 0 hs (by rw [Int.zero_add];exact hsh);unfold bD
 rw [if_pos h1,aAa d 0 a 30 0 hs,Int.zero_add,if_pos h];rfl
section
variable {args:List Tm}(hsa:∀t,t∈args→shape 30 t=true)
include hsa
theorem aTr (t:Tm):∀(q:Nat) (d:Int),0≤d→shape q t=true→eQ (aFq args) d t=true→tS (aOj args) d t=flS args d t:=by
 refine Tm.rec (motive_1:=fun t=>∀(q:Nat) (d:Int),0≤d→shape q t=true→eQ (aFq args) d t=true→tS (aOj args) d t=flS args d t)
  (motive_2 := fun ts => ∀ (q : Nat) (k d : Int) (i : Nat), 0 ≤ d → (∀ t, t ∈ ts → shape q t = true) → dM (aFq args) k d i ts = true → gI (aOj args) k d i ts = aJy args k d i ts) ?_ ?_ ?_ t
 ·intro k n ks ih q d hd h hok;obtain ⟨q',rfl,ha,h0,h1,hk⟩:=bY h;rw [eQ] at hok;rw [tS,flS];by_cases h1:k=1
  ·subst h1;have:=rN ha;subst this;rw [if_pos rfl] at hok⊢;unfold aFq at hok
   unfold aOj
   by_cases h2:n - d<0
   ·rw [if_pos h2,if_neg (by rintro ⟨-,h⟩;omega),aJy]
   ·rw [if_neg h2] at hok⊢;rw [if_pos (show (1:Int)=1∧d≤n from ⟨rfl,by omega⟩)];by_cases h3:(args.length:Int)≤n - d
    ·rw [if_pos h3,if_neg (show ¬n<d+(args.length:Int) by omega)]
    ·rw [if_neg h3] at hok⊢;rw [if_pos (show n<d+(args.length:Int) by omega)];have hlt:(n - d).toNat<args.length:=by omega
     have hsx:shape 30 (args.getD (n - d).toNat default)=true:=by
      rw [List.getD_eq_getElem?_getD,qR hlt,Option.getD_some];exact hsa _ (iC hlt)
     exact fS hsx hok
  ·rw [if_neg h1] at hok⊢;rw [if_neg (by rintro ⟨h,-⟩;exact h1 h),ih q' k d 0 hd hk hok]
 ·intro q k d i _ _ _;rfl
 ·intro t ts h1 h2 q k d i hd hk hok;rw [dM,Bool.and_eq_true] at hok;rw [gI,aJy,h1 q _ (by have:=cW k i;omega) (hk t List.mem_cons_self) hok.1,h2 q k d (i+1) hd (fun t ht=>hk t (List.mem_cons_of_mem _ ht)) hok.2]
end
mutual
def kpS (by_:Int):Int→Tm→Bool|d,.mk k n ks=>if k=1∧d≤n∧n<d+by_ then false else xA by_ k d 0 ks
def xA (by_:Int):Int→Int→Nat→List Tm→Bool|_,_,_,[]=>true|k,d,i,t::ts=>kpS by_ (d+aM k i) t && xA by_ k d (i+1) ts
end
theorem aSm {dp:Int}(h0:0≤dp)(t:Tm):∀(q:Nat) (d:Int),0≤d→shape q t=true→eQ (pL (-dp) 0) d t=kpS dp d t:=by
 refine Tm.rec (motive_1:=fun t=>∀(q:Nat) (d:Int),0≤d→shape q t=true→eQ (pL (-dp) 0) d t=kpS dp d t)
  (motive_2 := fun ts => ∀ (q : Nat) (k d : Int) (i : Nat), 0 ≤ d → (∀ t, t ∈ ts → shape q t = true) → dM (pL (-dp) 0) k d i ts = xA dp k d i ts) ?_ ?_ ?_ t
 ·intro k n ks ih q d hd h;obtain ⟨q',rfl,ha,h0,h1,hk⟩:=bY h;rw [eQ,kpS];by_cases h1:k=1
  ·subst h1;have h20:n≤20:=by simpa [dG] using h1
   have:=rN ha;subst this;rw [if_pos rfl,pL,xA];by_cases h2:d≤n
   ·rw [if_pos (by omega),decide_eq_true (show n + -dp≤20 by omega),Bool.and_true];by_cases h3:n<d+dp
    ·rw [if_pos ⟨rfl,h2,h3⟩,decide_eq_false (by omega)]
    ·rw [if_neg (by rintro ⟨-,-,h⟩;exact h3 h),decide_eq_true (by omega)]
   ·rw [if_neg (by omega),if_neg (by rintro ⟨-,h,-⟩;exact h2 h)]
  ·rw [if_neg h1,if_neg (by rintro ⟨h,-⟩;exact h1 h),ih q' k d 0 hd hk]
 ·intro q k d i _ _;rfl
 ·intro t ts h1 h2 q k d i hd hk;rw [dM,xA,h1 q _ (by have:=cW k i;omega) (hk t List.mem_cons_self),h2 q k d (i+1) hd (fun t ht=>hk t (List.mem_cons_of_mem _ ht))]
theorem aGv {dp:Int}(h0:0≤dp)(t:Tm):∀(q:Nat) (d:Int),0≤d→shape q t=true→kpS dp d t=true→shape q (bT (-dp) d t)=true:=by
 refine Tm.rec (motive_1:=fun t=>∀(q:Nat) (d:Int),0≤d→shape q t=true→kpS dp d t=true→shape q (bT (-dp) d t)=true)
  (motive_2 := fun ts => ∀ (q : Nat) (k d : Int) (i : Nat), 0 ≤ d → (∀ t, t ∈ ts → shape q t = true) → xA dp k d i ts = true → ∀ t, t ∈ bN (-dp) k d i ts → shape q t = true) ?_ ?_ ?_ t
 ·intro k n ks ih q d hd h hkp;obtain ⟨q',rfl,ha,hn0,hn1,hk⟩:=bY h;rw [kpS] at hkp;rw [bT];by_cases h1:k=1∧d≤n∧n<d+dp
  ·rw [if_pos h1] at hkp;cases hkp
  ·rw [if_neg h1] at hkp;refine (bF _ _ _ _).2 ⟨by rw [cO];exact ha,?_,?_,ih q' k d 0 hd hk hkp⟩
   ·split
    ·rename_i h2
     have:¬n<d+dp:=fun h=>h1 ⟨h2.1,h2.2,h⟩
     omega
    ·exact hn0
   ·split
    ·omega
    ·exact hn1
 ·intro q k d i _ _ _ t ht;rw [bN] at ht;cases ht
 ·intro t ts h1 h2 q k d i hd hk hkp u hu;rw [xA,Bool.and_eq_true] at hkp;rw [bN] at hu;rcases List.mem_cons.1 hu with rfl|hu
  ·exact h1 q _ (by have:=cW k i;omega) (hk t List.mem_cons_self) hkp.1
  ·exact h2 q k d (i+1) hd (fun t ht=>hk t (List.mem_cons_of_mem _ ht)) hkp.2 u hu
theorem aCh {dp:Int}(h0:0≤dp){u:Tm}(hv:aE u=true):bD (-dp) 0 u=if kpS dp 0 u=true then some (bT (-dp) 0 u) else none:=by
 have hs:shape 30 u=true:=by simp only [aE,Bool.and_eq_true] at hv;exact hv.1
 unfold bD
 rw [aSm h0 u 30 0 (Int.le_refl 0) hs];split
 ·rename_i hk
  rw [aAa (-dp) 0 u 30 0 hs,Int.zero_add,if_pos];rw [aE,aGv h0 u 30 0 (Int.le_refl 0) hs hk,mC,decide_eq_true (dR hv)];rfl
 ·rfl
theorem eI (N:Nat):∀(k n:Int) (ks:List Tm) (A:Option Addr) (c:Nat) (w:World),aG ks<N→aG ks≤1000000000→Rd w A 0 ks→
  Calls prog 35 #[.agg (Ro k n A ks.length c)] w (qU w k n ks):=by
 induction N with
 | zero=>intro k n ks A c w hN;exact absurd hN (Nat.not_lt_zero _)
 | succ N ih=>
 intro k n ks A c w hN hM hr;have hlen:=aJ ks;go_enter func35,ntmps35;go_wp2_with fail
 go_loopw [4] (fun i wr=>∃(j:Nat) (v:Value),j≤ks.length∧i = .int .i64 j∧Part (w.heap.size+3) wr v (ks.take j)∧Blk wr (w.heap.size+1+1) #[.int .i64 k,.int .i64 n,v]∧Blk wr (w.heap.size+1) Zr∧Blk wr w.heap.size (Ro k n A ks.length c)∧Bw w wr)
  (fun i _ => ks.length - (intOf i).toNat)
 case atStart=>exact ⟨0,_,Nat.zero_le _,rfl,Part.nil,aC _ _ _ (by simp),(aC _ _ _ (by simp)).alloc _,((aC _ _ _ rfl).alloc _).alloc _,bw3⟩
 case round=>
  obtain ⟨j,v,hj,rfl,hp,hB3,hB2,hB1,hb⟩:=hrel;have c12:=hB1.at_ (i:=2) rfl;by_cases hlt:j<ks.length
  ·obtain ⟨b,off,k',n',ks',A',c',rfl,hkj,hc1,hc2,hc3,hl',hr'⟩:=(hr.below hb).at_ hlt;have hsz:=cF (iC hlt);rw [hkj] at hsz;simp only [Tm.size] at hsz
   have H3:=aD hkj;clear hkj;have hz:=hB3.lt;go_wp2_with fail
   have x2:=hB3.rule (i:=2) rfl;have b2:=hB1.rule (i:=2) rfl;obtain ⟨y0,y1,y2⟩:=qD hc1 hc2 hc3;refine bL (fun w'=>Bw wr w') [0,1,2,3,4,5,6] [7,8] [9,10,11] [_,_,_,_,_,_,_] [_,_] [_,_,_] (by kernel_rfl) (by kernel_rfl) rfl rfl rfl (fun _ _ d _ _ h=>by cases d<;>exact h) (eR _ _).drew ?_;refine bZ (aD ?_);refine bO ?_;go_wp2_with (go_at_call 35;refine (ih k' n' ks' A' c' _ (by omega) (by omega) hr'.drew).mono ?_;rintro e w1 ⟨A1,c1,rfl,hl1,hf1,hb1⟩)
   have hx1:Bw wr w1:=(eR _ _).drew.trans hb1;refine aQ hx1 (bO ?_);go_wp2_with fail
   refine aQ (hx1.alloc hx1.size _) (dL ?_);refine eC (B:=w.heap.size+3) (m:=j) hp.drew hb1 (by simp;omega) hf1 hl1 (by rw [List.length_take];omega) (by omega) rfl (.tmp 18) (.tmp 25) rfl rfl rfl ?_;intro A2 c2 w2 hp2 hb2 hg2;have q3:Blk w2 (w.heap.size+1+1) #[.int .i64 k,.int .i64 n,v]:=(hB3.below hx1 (by omega)).below hb2 (by omega);have q2:Blk w2 (w.heap.size+1) Zr:=(hB2.below hx1 (by omega)).below hb2 (by omega);have q1':Blk w2 w.heap.size (Ro k n (some ⟨b,off,none⟩) ks.length c):=(hB1.below hx1 (by omega)).below hb2 (by omega);have c3:w2.cell? ⟨w.heap.size+1+1,2,none⟩=some v:=q3.at_ rfl;have z3:=q3.frozen 2;have hbf:Bw w w2:=(hb.trans (hx1.mono (by omega))).trans (hb2.mono (by omega));clear x2 y0 y1 y2 b2;go_wp2_with fail
   go_roundw
   case rel=>exact ⟨j+1,_,by omega,by go_num,by rw [tI hlt,H3.out];exact hp2.setCell (by simp) _,q3.set_ 2 _,q2.far (by simp) _,q1'.far (by simp;omega) _,hbf.setCell (by simp;omega) _⟩
   case measure=>simp [intOf];omega
  ·have hjl:j=ks.length:=by omega
   subst hjl;rw [List.take_length] at hp;obtain ⟨Ar,cr,rfl,hfr⟩:=hp.fresh;have c0:wr.cell? ⟨w.heap.size+1+1,0,none⟩=some (.int .i64 k):=hB3.at_ rfl;have c1:wr.cell? ⟨w.heap.size+1+1,1,none⟩=some (.int .i64 n):=hB3.at_ rfl;have c2:wr.cell? ⟨w.heap.size+1+1,2,none⟩=some (.slice Ar ks.length cr):=hB3.at_ rfl;have d0:wr.cell? ⟨w.heap.size+1,0,none⟩=some (.int .i64 0):=hB2.at_ rfl;have d1:wr.cell? ⟨w.heap.size+1,1,none⟩=some (.int .i64 0):=hB2.at_ rfl;have d2:wr.cell? ⟨w.heap.size+1,2,none⟩=some (.slice none 0 0):=hB2.at_ rfl;obtain ⟨e0,e1,e2⟩:=bkf hB2;go_wp2_with fail
   refine bodyPost_ret (v:=.agg (Ro k n Ar ks.length cr)) (by simp [results,results35,go_sem,d0,d1,d2]) rfl ⟨Ar,cr,rfl,by omega,?_,?_⟩
   ·exact (tT hfr).mono (by omega)
   ·exact bP hb
def Tab (w:World)(lo g:Nat)(G:List Tm):Prop:=
 g<lo∧∃cur f,w.heap[g]?=some (.cells cur 32 (0,0))∧cur.size=G.length*3∧OwX w G cur.toList f∧f.Nodup∧∀b,b∈f→lo≤b
variable {w w' w0:World}{lo g:Nat}{G:List Tm}
theorem Tab.only {fp:List Nat}(h:Tab w lo g G)(ho:OnlyIn fp w w')(hfp:∀b,b∈fp→b≠g∧b<lo):Tab w' lo g G:=by
 obtain ⟨h0,cur,f,h1,h2,h3,h4,h5⟩:=h;refine ⟨h0,cur,f,(ho.block g (Array.getElem?_eq_some_iff.1 h1).1 (fun hm=>(hfp g hm).1 rfl)).trans h1,h2,h3.frame fun b hb=>ho.block b (h3.lt b hb) fun hm=>?_,h4,h5⟩;have:=(hfp b hm).2;have:=h5 b hb;omega
theorem Tab.keep (h:Tab w lo g G)(hb:Bw w w'):Tab w' lo g G:=by
 obtain ⟨h0,cur,f,h1,h2,h3,h4,h5⟩:=h;exact ⟨h0,cur,f,(hb.block g (Array.getElem?_eq_some_iff.1 h1).1).trans h1,h2,h3.frame fun b hm=>hb.block b (h3.lt b hm),h4,h5⟩
theorem Tab.alloc (h:Tab w lo g G)(o:Obj):Tab (w.alloc o) lo g G:=h.keep (bw1)
theorem Tab.drew (h:Tab w lo g G):Tab w.drew lo g G:=h.keep (eR _ _).drew
theorem Tab.setCell (h:Tab w lo g G){p:Addr}(hp:p.block≠g)(hl:p.block<lo)(u:Value):Tab (w.setCell p u) lo g G:=by
 obtain ⟨h0,cur,f,h1,h2,h3,h4,h5⟩:=h;exact ⟨h0,cur,f,(qQ w p u g (fun e=>hp e.symm)).trans h1,h2,h3.frame fun b hb=>qQ w p u b (fun e=>by have:=h5 b hb;omega),h4,h5⟩
theorem Tab.lt (h:Tab w lo g G):g<w.heap.size:=by
 obtain ⟨h0,cur,f,h1,_⟩:=h;exact (Array.getElem?_eq_some_iff.1 h1).1
theorem Tab.frozen (h:Tab w lo g G)(j:Nat):w.frozen? ⟨g,j,none⟩=false:=by
 obtain ⟨h0,cur,f,h1,h2,_⟩:=h;simp [World.frozen?,h1]
theorem Tab.rd (h:Tab w lo g G):Rd w (some ⟨g,0,none⟩) 0 G:=by
 obtain ⟨h0,cur,f,h1,h2,h3,h4,h5⟩:=h;refine own_rd.2 _ _ _ h3 g 0 0 fun j u hu=>?_
 rw [show 0+0*3+j=j by omega,cell_of_row w g j cur 32 (0,0) h1];simpa using hu
theorem Tab.put (h:Tab w0 lo g G)(hb:Bw w0 w)(hlo:lo≤w0.heap.size){k m:Int}{ks:List Tm}{A:Option Addr}{c j:Nat}(hfr:Fresh w0.heap.size w A ks)(hl:ks.length≤9223372036854775807)(hj:j<G.length) :
  Tab (((w.setCell ⟨g,j*3,none⟩ (.int .i64 k)).setCell ⟨g,j*3+1,none⟩ (.int .i64 m)).setCell ⟨g,j*3+2,none⟩ (.slice A ks.length c)) lo g (G.set j (.mk k m ks)):=by
 obtain ⟨h0,cur,f,h1,h2,h3,h4,h5⟩:=h;obtain ⟨fp,k1,k2,k3⟩:=hfr;have hg0:=(Array.getElem?_eq_some_iff.1 h1).1;have hg:w.heap[g]?=some (.cells cur 32 (0,0)):=(hb.block g hg0).trans h1;have far:∀b,b≠g→(((w.setCell ⟨g,j*3,none⟩ (.int .i64 k)).setCell ⟨g,j*3+1,none⟩ (.int .i64 m)).setCell ⟨g,j*3+2,none⟩ (.slice A ks.length c)).heap[b]?=w.heap[b]?:=fun b hbg=>by
  rw [qQ _ _ _ _ hbg,qQ _ _ _ _ hbg,qQ _ _ _ _ hbg]
 have hsp:G=G.take j++G[j]::G.drop (j+1):=by rw [← List.drop_eq_getElem_cons hj,List.take_append_drop]
 have hsp2:G.set j (.mk k m ks)=G.take j++Tm.mk k m ks::G.drop (j+1):=by rw [List.set_eq_take_append_cons_drop,if_pos hj]
 have h3':=h3;rw [hsp] at h3';obtain ⟨x0,x1,x2,f0,f1,f2,hx,hf,o0,o1,o2⟩:=oU h3';have l0:x0.length=j*3:=by rw [o0.length,List.length_take,Nat.min_eq_left (Nat.le_of_lt hj)]
 have l1:=o1.length;obtain ⟨p,q,r,rfl⟩:∃p q r,x1=[p,q,r]:=by
  match x1,l1 with
  | [p,q,r],_=>exact ⟨p,q,r,rfl⟩
 subst hf;have lt0:∀b,b∈f0++(f1++f2)→b<w0.heap.size:=fun b hb=>h3.lt b hb
 have nd:=List.nodup_append.1 h4;have nd2:=List.nodup_append.1 nd.2.1;refine ⟨h0,((cur.setIfInBounds (j*3) (.int .i64 k)).setIfInBounds (j*3+1) (.int .i64 m)).setIfInBounds (j*3+2) (.slice A ks.length c),f0++(fp++f2),?_,by simpa using h2,?_,?_,?_⟩
 ·simp [World.setCell,Array.getElem?_modify,hg]
 ·have e:(((cur.setIfInBounds (j*3) (.int .i64 k)).setIfInBounds (j*3+1) (.int .i64 m)).setIfInBounds (j*3+2) (.slice A ks.length c)).toList=x0++([.int .i64 k,.int .i64 m,.slice A ks.length c]++x2):=by
   simp only [Array.toList_setIfInBounds,hx,← l0]
   simp [List.set_append]
  rw [e,hsp2];have keep:∀b,b∈f0++(f1++f2)→(((w.setCell ⟨g,j*3,none⟩ (.int .i64 k)).setCell ⟨g,j*3+1,none⟩ (.int .i64 m)).setCell ⟨g,j*3+2,none⟩ (.slice A ks.length c)).heap[b]?=w0.heap[b]?:=fun b hm=>by
   rw [far b (by have:=h5 b hm;omega)];exact hb.block b (lt0 b hm)
  exact uU (o0.frame fun b hm=>keep b (by simp [hm])) (OwT.iff.2 ⟨A,c,rfl,hl,k1.frame fun b hm=>far b (by have:=k3 b hm;omega)⟩) (o2.frame fun b hm=>keep b (by simp [hm]))
 ·refine List.nodup_append.2 ⟨nd.1,List.nodup_append.2 ⟨k2,nd2.2.1,fun x hx y hy e=>?_⟩,fun x hx y hy e=>?_⟩
  ·have:=k3 x hx;have:=lt0 y (by simp [hy]);omega
  ·rcases List.mem_append.1 hy with hy|hy
   ·have:=k3 y hy;have:=lt0 x (by simp [hx]);omega
   ·exact nd.2.2 x hx y (List.mem_append.2 (.inr hy)) e
 ·intro b hm;rcases List.mem_append.1 hm with hm|hm
  ·exact h5 b (by simp [hm])
  ·rcases List.mem_append.1 hm with hm|hm
   ·have:=k3 b hm;omega
   ·exact h5 b (by simp [hm])
theorem Tab.fresh (h:Tab w lo g G){B:Nat}(hB:B≤g):Fresh B w (some ⟨g,0,none⟩) G:=by
 obtain ⟨h0,cur,f,h1,h2,h3,h4,h5⟩:=h;by_cases hts:G=[]
 ·subst hts;exact Fresh.nil
 ·refine ⟨g::f,.inr ⟨g,cur,_,f,hts,rfl,h1,rfl,by rw [List.take_of_length_le (by simp [h2])];exact h3⟩,List.nodup_cons.2 ⟨fun hm=>by have:=h5 g hm;omega,h4⟩,fun b hb=>?_⟩;rcases List.mem_cons.1 hb with rfl|hb
  ·exact hB
  ·have:=h5 b hb;omega
abbrev St:=List Tm × List Bool
def aSt:Tm:=.mk 0 0 []
def Tm.kids:Tm→List Tm | .mk _ _ ks=>ks
mutual
def mt (m:Nat)(add:Int):Int→Tm→Tm→St→Bool × St
 | d,.mk k n ks,u,st=>
  if k=1∧d≤n then
   (if n<d+m then
    (match bD (-d) 0 u with
     | none=>(false,st)
     | some low=>if st.2.getD (n - d).toNat false=true then (fX (st.1.getD (n - d).toNat aSt) low,st) else (true,(st.1.set (n - d).toNat low,st.2.set (n - d).toNat true)))
   else (u.k==1 && u.n==n - m+add,st))
  else if u.k=k∧u.n=n∧u.kids.length=ks.length then mtL m add k d 0 ks u.kids st else (false,st)
def mtL (m:Nat)(add:Int):Int→Int→Nat→List Tm→List Tm→St→Bool × St
 | k,d,i,t::ts,u::us,st=>if (mt m add (d+aM k i) t u st).1=true then mtL m add k d (i+1) ts us (mt m add (d+aM k i) t u st).2 else (false,(mt m add (d+aM k i) t u st).2)
 | _,_,_,_,_,st=>(true,st)
end
theorem aO {k n:Int}{ks:List Tm}(h:aE (.mk k n ks)=true){t:Tm}(ht:t∈ks):aE t=true:=by
 simp only [aE,Bool.and_eq_true,decide_eq_true_eq] at h⊢
 obtain ⟨q,hq,_,_,_,hk⟩:=bY h.1;refine ⟨rI (by omega) t (hk t ht),?_⟩;have:=cF ht;rw [Tm.size] at h;omega
theorem OnlyIn.of_below {fp:List Nat}{w w':World}(h:Bw w w'):OnlyIn fp w w':=⟨h.os,h.tape,h.output,h.size,fun b hb _=>h.block b hb⟩
theorem RdP.only {g sb:Nat}{w w':World}{A:Option Addr}{i:Nat}{ks:List Tm}(hr:RdP (fun b=>b≠g∧b≠sb) w A i ks)(ho:OnlyIn [g,sb] w w'):RdP (fun b=>b≠g∧b≠sb) w' A i ks:=
 hr.blocks fun b hb hl=>ho.block b hl (by simp [hb.1,hb.2])
def RdI (w:World)(A:Option Addr)(xs:List Int):Prop:=∀j (hj:j<xs.length),∃b off,A=some ⟨b,off,none⟩∧w.cell? ⟨b,off+j,none⟩=some (.int .i64 xs[j])
theorem RdI.keeps {w w':World}{A:Option Addr}{xs:List Int}(h:RdI w A xs)(hk:Keeps w w'):RdI w' A xs:=fun j hj=>by
 obtain ⟨b,off,hA,hc⟩:=h j hj;exact ⟨b,off,hA,hk _ _ hc⟩
theorem RdI.below {w w':World}{A:Option Addr}{xs:List Int}(h:RdI w A xs)(hb:Bw w w'):RdI w' A xs:=h.keeps (.of_below hb)
theorem RdI.alloc {w:World}{A:Option Addr}{xs:List Int}(h:RdI w A xs)(o:Obj):RdI (w.alloc o) A xs:=h.keeps (.alloc w o)
def mK:Tm→List Int→Option Tm
 | t,[]=>some t
 | t,i::is=>if 0≤i∧i<t.kids.length then mK (t.kids.getD i.toNat default) is else none
theorem qK:∀(xs ys:List Int) (t:Tm),mK t (xs++ys)=(mK t xs).bind (mK · ys)
 | [],ys,t=>rfl
 | i::is,ys,t=>by
  rw [List.cons_append,mK,mK];split
  ·exact qK is ys _
  ·rfl
theorem aMc {t u:Tm}{xs:List Int}{j:Nat}(hj:j<xs.length)(h:mK t (xs.take j)=some u):mK t (xs.take (j+1))=if 0≤xs[j]∧xs[j]<u.kids.length then some (u.kids.getD xs[j].toNat default) else none:=by
 rw [tI hj,qK,h,Option.bind_some,mK];split<;>rfl
theorem aLg {t:Tm}{xs:List Int}{j:Nat}(h:mK t (xs.take j)=none):mK t xs=none:=by
 rw [← List.take_append_drop j xs,qK,h];rfl
theorem pB {u:Tm}:∀{xs:List Int} {t:Tm},mK t xs=some u→aE t=true→aE u=true
 | [],t,h,hv=>by cases h;exact hv
 | i::is,t,h,hv=>by
  rw [mK] at h;split at h
  ·rename_i hh
   obtain ⟨k,n,ks⟩:=t;refine pB h ?_;have hlt:i.toNat<ks.length:=by have:=hh.2;simp only [Tm.kids] at this;omega
   rw [show (Tm.mk k n ks).kids=ks from rfl,List.getD_eq_getElem?_getD,qR hlt,Option.getD_some];exact aO hv (iC _)
  ·cases h
mutual
def eL:Tm→Option (List Int)
 | .mk k n ks=>if rdx k ks=0 then iQ 0 ks else some []
def iQ:Int→List Tm→Option (List Int)
 | _,[]=>none
 | i,t::ts=>match eL t with|some p=>some (i::p)|none=>iQ (i+1) ts
end
def bC (k:Int):Int:=if k=5∨k=15∨k=16 then 0 else if k=9 then 3 else if k=12 then 1 else -1
mutual
def bV:Tm→Option (List Int)
 | .mk k n ks=>if rdx k ks=0 then (if bC k<0 then none else (lI (bC k).toNat ks).map (bC k::·)) else some []
def lI:Nat→List Tm→Option (List Int)
 | _,[]=>none
 | 0,t::_=>bV t
 | i+1,_::ts=>lI i ts
end
def jV:Tm→List Int→Tm→Tm
 | _,[],u=>u
 | .mk k n ks,i::is,u=>.mk k n (ks.set i.toNat (jV (ks.getD i.toNat default) is u))
def vO (t:Tm):Option Tm:=if aE t=true then some t else none
def aI (ks:List Tm)(i:Nat):Tm:=ks.getD i default
def tX:Tm→Option Tm
 | .mk k n ks=>
  if rdx k ks=1 then fM 0 (aI ks 1) (aI (aI ks 0).ks 1)
  else if rdx k ks=2 then vO (aI ks 1)
  else if rdx k ks=3 then vO (.mk 5 0 [.mk 5 0 [aI ks 2,aI (aI ks 3).ks 0],.mk 9 0 [aI ks 0,aI ks 1,aI ks 2,aI (aI ks 3).ks 0]])
  else if rdx k ks=4 then vO (aI ks 2)
  else if rdx k ks=5 then vO (aI (aI ks 0).ks 1)
  else if rdx k ks=6 then vO (aI (aI ks 0).ks 2)
  else none
def mS (t:Tm)(p:List Int):Option Tm:=
 match mK t p with
 | none=>none
 | some u=>match tX u with|none=>none|some v=>vO (jV t p v)
def redI (find:Tm→Option (List Int)):Nat→Tm→Option Tm × Int
 | fuel,t=>match find t with
  | none=>(some t,0)
  | some p=>match fuel with
   | 0=>(none,1)
   | fuel+1=>match mS t p with
    | none=>(none,2)
    | some t'=>redI find fuel t'
def eP (fuel:Nat)(a b:Tm):Int:=
 if fX a b=true then 1 else
  if (redI eL fuel a).2≠0∨(redI eL fuel b).2≠0 then 3 else
   if fX ((redI eL fuel a).1.getD (.mk 0 0 [])) ((redI eL fuel b).1.getD (.mk 0 0 []))=true then 1 else 2
def Way (find:Tm→Option (List Int)):Prop:=∀t p,find t=some p→∃k n ks,mK t p=some (.mk k n ks)∧rdx k ks≠0
theorem rC {k n:Int}{ks:List Tm}{j:Nat}{p:List Int}(hj:j<ks.length):mK (.mk k n ks) ((j:Int)::p)=mK ks[j] p:=by
 rw [mK,if_pos ⟨by omega,by simpa [Tm.kids] using hj⟩];simp [Tm.kids,List.getD,qR hj]
theorem aKo:Way eL:=by
 have h:(∀t p,eL t=some p→∃k n ks,mK t p=some (.mk k n ks)∧rdx k ks≠0)∧
   (∀(ts:List Tm) (i:Nat) p,iQ i ts=some p→∃(j:Nat) (q:List Int) (h:j<ts.length),p=((i+j:Nat):Int)::q∧∃k n ks,mK ts[j] q=some (.mk k n ks)∧rdx k ks≠0):=by
  refine bA (fun k n ks ih p hp=>?_) (fun i p hp=>?_) (fun t ts h1 h2 i p hp=>?_)
  ·rw [eL] at hp;split at hp
   ·obtain ⟨j,q,hj,rfl,h⟩:=ih 0 p hp;rw [Nat.zero_add,rC hj];exact h
   ·rename_i hr
    injection hp with hp;subst hp;exact ⟨k,n,ks,rfl,hr⟩
  ·rw [iQ] at hp;cases hp
  ·rw [iQ] at hp;cases h:eL t with
   | some q=>
    rw [h] at hp;injection hp with hp;subst hp;exact ⟨0,q,by simp,by simp,h1 q h⟩
   | none=>
    rw [h] at hp;obtain ⟨j,q,hj,rfl,h3⟩:=h2 (i+1) p (by simpa using hp);refine ⟨j+1,q,by simp;omega,by congr 1;omega,?_⟩;simpa using h3
 exact h.1
theorem aHd:Way bV:=by
 have h:(∀t p,bV t=some p→∃k n ks,mK t p=some (.mk k n ks)∧rdx k ks≠0)∧
   (∀(ts:List Tm) (i:Nat) p,lI i ts=some p→∃h:i<ts.length,∃k n ks,mK ts[i] p=some (.mk k n ks)∧rdx k ks≠0):=by
  refine bA (fun k n ks ih p hp=>?_) (fun i p hp=>?_) (fun t ts h1 h2 i p hp=>?_)
  ·rw [bV] at hp;split at hp
   ·split at hp
    ·cases hp
    ·rename_i hm
     cases h:lI (bC k).toNat ks with
     | none=>rw [h] at hp;cases hp
     | some q=>
      rw [h] at hp;injection hp with hp;subst hp;obtain ⟨hj,h3⟩:=ih _ _ h;rw [show bC k=((bC k).toNat:Int) from by omega,rC (by simpa using hj)];simpa using h3
   ·rename_i hr
    injection hp with hp;subst hp;exact ⟨k,n,ks,rfl,hr⟩
  ·rw [lI] at hp;cases hp
  ·cases i with
   | zero=>rw [lI] at hp;exact ⟨by simp,by simpa using h1 p hp⟩
   | succ i=>
    rw [lI] at hp;obtain ⟨hj,h3⟩:=h2 i p hp;exact ⟨by simp;omega,by simpa using h3⟩
 exact h.1
theorem aBp {t u:Tm}(h:vO t=some u):aE u=true:=by
 unfold vO at h
 split at h
 ·injection h with h;subst h;assumption
 ·cases h
theorem aBa {x:Int}{u t v:Tm}(h:fM x u t=some v):aE v=true:=by
 unfold fM at h
 split at h
 ·split at h
  ·injection h with h;subst h;assumption
  ·cases h
 ·cases h
theorem aDw {t u:Tm}(h:tX t=some u):aE u=true:=by
 obtain ⟨k,n,ks⟩:=t;rw [tX] at h;split at h
 ·exact aBa h
 repeat (split at h;· exact aBp h)
 cases h
theorem qH {t u:Tm}{p:List Int}(h:mS t p=some u):aE u=true:=by
 unfold mS at h
 split at h
 ·cases h
 ·split at h
  ·cases h
  ·exact aBp h
theorem wI {find:Tm→Option (List Int)}:∀(fuel:Nat) (t u:Tm) (c:Int),aE t=true→redI find fuel t=(some u,c)→aE u=true
 | fuel,t,u,c,hv,h=>by
  rw [redI] at h;split at h
  ·injection h with h1 h2;injection h1 with h1;subst h1;exact hv
  ·split at h
   ·cases h
   ·split at h
    ·cases h
    ·exact wI _ _ _ _ (qH (by assumption)) h
def PathX (w:World)(A:Option Addr)(xs:List Int):Prop:=
 0<xs.length→∃b off,A=some ⟨b,off,none⟩∧∀(i:Nat) (u:Value),(xs.map (Value.int .i64))[i]?=some u→w.cell? ⟨b,off+i,none⟩=some u
theorem PathX.nil {w:World}{A:Option Addr}:PathX w A []:=fun h=>absurd h (Nat.lt_irrefl _)
theorem PathX.alloc {w:World}{A:Option Addr}{xs:List Int}(h:PathX w A xs)(o:Obj):PathX (w.alloc o) A xs:=by
 intro hm;obtain ⟨b,off,h3,h4⟩:=h hm;exact ⟨b,off,h3,fun i u hu=>Keeps.alloc w o _ _ (h4 i u hu)⟩
theorem PathX.rdi {w:World}{A:Option Addr}{xs:List Int}(h:PathX w A xs):RdI w A xs:=fun j hj=>by
 obtain ⟨b,off,h3,h4⟩:=h (by omega);exact ⟨b,off,h3,h4 j _ (by rw [List.getElem?_map,qR hj];rfl)⟩
theorem PathX.below {w w':World}{A:Option Addr}{xs:List Int}(h:PathX w A xs)(hb:Bw w w'):PathX w' A xs:=by
 intro hm;obtain ⟨b,off,h3,h4⟩:=h hm;exact ⟨b,off,h3,fun i u hu=>(cM hb) _ _ (h4 i u hu)⟩
theorem sS {w:World}{A:Option Addr}{xs:List Int}{m c:Nat}(h:PathX w A xs)(h1:xs.length=m)(hm:m≤1000)(x:Int)(ty:TypeId) :
  ∃A' c' w',(Builtin.append_ #[27,27] ty #[.slice (some ⟨w.heap.size,0,none⟩) 1 1,.slice A m c]).run prog (w.alloc (.cells #[.int .i64 x] 3)) = .ok (.slice A' (m+1) c') w'∧m+1≤c'∧PathX w' A' (x::xs)∧Bw w w':=by
 obtain ⟨i0,hi,hz0,hz1,hz2⟩:=info_parts aLv;have hown:(w.alloc (.cells #[.int .i64 x] 3)).ownsRow w.heap.size 3 1 (.slice (some ⟨w.heap.size,0,none⟩) 1 1) 1 [.int .i64 x]:=
  ⟨rfl,.inr ⟨w.heap.size,1,#[.int .i64 x],rfl,oL _,heap_alloc_new w _,oL _,by decide,rfl,rfl⟩⟩
 have h2:=h.alloc (.cells #[.int .i64 x] 3);have fin:∀(v':Value) (w':World),w'.ownsRow w.heap.size 3 1 v' (1+m) (.int .i64 x::xs.map (Value.int .i64))→(w.alloc (.cells #[.int .i64 x] 3)).grownBy w' (some w.heap.size)→
   ∃A' c',v' = .slice A' (m+1) c'∧m+1≤c'∧PathX w' A' (x::xs)∧Bw w w':=by
  intro v' w' ho hg;have hb:Bw w w':=bw1.grown hg (by simp) (fun k e=>by cases e;omega);rcases ho.2 with ⟨_,h0⟩|⟨g,cap,cur,rfl,hgb,hgc,hn,hmx,hcs,htk⟩
  ·omega
  ·refine ⟨some ⟨g,0,none⟩,cap,by rw [Nat.add_comm],by omega,fun _=>⟨g,0,rfl,fun i u hu=>?_⟩,hb⟩;rw [List.map_cons,← htk] at hu;have hu2:cur[i]?=some u:=by
    rw [List.getElem?_take] at hu;split at hu
    ·simpa using hu
    ·cases hu
   have hB:Blk w' g cur:=⟨3,hgc⟩;rw [Nat.zero_add];exact hB.at_ hu2
 have hcells:∀(ad:Addr),A=some ad→∀j u,(xs.map (Value.int .i64))[j]?=some u→(w.alloc (.cells #[.int .i64 x] 3)).cell? (ad.add j)=some u:=by
  intro ad e j u hu;have hj:j<xs.length:=by have:=(List.getElem?_eq_some_iff.1 hu).1;simpa using this
  obtain ⟨b,off,e2,hc⟩:=h2 (by omega);rw [e2] at e;cases e
  have:=hc j u hu;rwa [← Go.WideShapes.add_plain] at this
 rcases A with _|ad
 ·have hz:m=0:=by
   rcases Nat.eq_zero_or_pos m with h0|h0
   ·exact h0
   ·obtain ⟨b,off,e,_⟩:=h2 (by omega);cases e
  subst hz;have hx:xs=[]:=lEn h1;subst hx;obtain ⟨A',c',hv,hcc,hp,hb⟩:=fin _ _ hown (mJ _ _);refine ⟨A',c',_,?_,hcc,hp,hb⟩;rw [← hv];have hgc:=heap_alloc_new w (.cells #[.int .i64 x] 3);simp [Builtin.append_,run_underlying Tryz.underlying27,sizeOf,typeInfo,hi,Builtin.lenOf,Builtin.firstCells,storeCells]
 ·obtain ⟨v',w',hrun,ho,hg,_,hat⟩:=run_append_own_at (P:=prog) (w.alloc (.cells #[.int .i64 x] 3)) w.heap.size 27 ty 3 i0 _ 1 8 Tryz.underlying27 hi hz0 hz1 hz2 rfl (by omega) _ 1 _ hown ad m c (xs.map (Value.int .i64)) (by simp [h1]) (hcells ad rfl) (by
   intro u hu;obtain ⟨z,_,rfl⟩:=List.mem_map.1 hu;rfl) (by simp only [maxLen];omega) (by omega) (by simp)
  obtain ⟨A',c',rfl,hcc,hp,hb⟩:=fin v' w' (by simpa using ho) hg;exact ⟨A',c',w',hrun,hcc,hp,hb⟩
theorem dI {w:World}{A:Option Addr}{xs:List Int}{m c:Nat}(h:PathX w A xs)(h1:xs.length=m)(hm:m≤1000)(x:Int)
  {ops:Array Oper} {rest:List Oper} {o:Oper} {a:Act} {Q:Exit→Act→World→Prop} (hgd:o.guard=none) (s t:Operand)
  (ho : o.op = .call { callee := .builtin .append, args := #[s, t], argTypes := #[27, 27] }) (hs : a.eval s = .slice (some ⟨w.heap.size, 0, none⟩) 1 1) (hx : a.eval t = .slice A m c)
  (hk : ∀ A' c' w', m + 1 ≤ c' → PathX w' A' (x :: xs) → Bw w w' → wpList prog ops Q rest (a.put o.dst (.slice A' (m + 1) c')) w') :
  wpList prog ops Q (o::rest) a (w.alloc (.cells #[.int .i64 x] 3)):=by
 refine wpList_plain hgd fun K hK=>?_
 obtain ⟨A',c',w',hrun,h0,h2,h3⟩:=sS (c:=c) h h1 hm x o.type;unfold Oper.wp execOp
 simp only [ho,resolve,invoke,builtin,Sem.run_bind,Sem.run_pure,Result.andThen_ok,List.map_toArray,List.map_cons,List.map_nil,hs,hx,hrun]
 exact hK _ _ (hk A' c' w' h0 h2 h3)
def WayPost (o:Option (List Int))(d:Nat)(w:World)(e:Ending)(w':World):Prop:=
 ∃A m c,e = .returned (.tuple #[.slice A m c,.bool o.isSome])∧m≤d∧m≤c∧(∀p,o=some p→m=p.length∧PathX w' A p)∧Bw w w'
theorem WayPost.some_ {p:List Int}{d:Nat}{w:World}{e:Ending}{w':World}(h:WayPost (some p) d w e w') :
  ∃A m c,e = .returned (.tuple #[.slice A m c,.bool true])∧m≤d∧m≤c∧m=p.length∧PathX w' A p∧Bw w w':=by
 obtain ⟨A,m,c,he,h1,h2,h3,h4⟩:=h;exact ⟨A,m,c,he,h1,h2,(h3 p rfl).1,(h3 p rfl).2,h4⟩
theorem WayPost.none_ {d:Nat}{w:World}{e:Ending}{w':World}(h:WayPost none d w e w') :
  ∃A m c,e = .returned (.tuple #[.slice A m c,.bool false])∧Bw w w':=by
 obtain ⟨A,m,c,he,h1,h2,h3,h4⟩:=h;exact ⟨A,m,c,he,h4⟩
theorem outP_no:(∀t,(eL t=none↔nrm t=true))∧(∀(ts:List Tm) (i:Int),(iQ i ts=none↔aCm ts=true)):=by
 refine bA (fun k n ks ih=>?_) (fun i=>?_) (fun t ts h1 h2 i=>?_)
 ·rw [eL,nrm];split
  ·rename_i h
   rw [ih 0,h];simp
  ·rename_i h
   simp [h]
 ·simp [iQ,aCm]
 ·rw [iQ,aCm,Bool.and_eq_true,← h1,← h2 (i+1)];cases eL t<;>simp
theorem aBx {ks:List Tm}{p:List Int}:∀{j:Nat} {i:Int},(∀t,t∈ks.take j→nrm t=true)→(hj:j<ks.length)→eL ks[j]=some p→iQ i ks=some ((i+j)::p):=by
 induction ks with
 | nil=>intro j i _ hj;exact absurd hj (Nat.not_lt_zero _)
 | cons t ts ih=>
  intro j i hall hj hp;cases j with
  | zero=>rw [iQ];simp at hp;rw [hp];simp
  | succ j=>
   have h0:eL t=none:=(outP_no.1 t).2 (hall t (by simp));rw [iQ,h0];have:=ih (j:=j) (i:=i+1) (fun u hu=>hall u (by simp [hu])) (by simpa using hj) (by simpa using hp);rw [this];simp;omega
theorem rE (N:Nat):∀(d:Nat) (k n:Int) (ks:List Tm) (A:Option Addr) (c:Nat) (w:World),d≤30→aG ks<N→shape d (.mk k n ks)=true→aG ks≤1099511627775→Rd w A 0 ks→
  Calls prog 112 #[.agg (Ro k n A ks.length c)] w (WayPost (eL (.mk k n ks)) d w):=by
 induction N with
 | zero=>intro d k n ks A c w _ hN;exact absurd hN (Nat.not_lt_zero _)
 | succ N ih=>
 intro d k n ks A c w hd hN hsh hM hr;have hlen:=aJ ks;obtain ⟨d,rfl⟩:∃d',d=d'+1:=by cases d with|zero=>simp [shape] at hsh|succ d=>exact ⟨d,rfl⟩
 obtain ⟨ha,hm1,hm2,hkids⟩:=(bF d k n ks).1 hsh;have hkids:=aD hkids;have ha':=aD ha;clear ha hm1 hm2 hsh;by_cases hrd:rdx k ks=0
 ·have hz:eL (.mk k n ks)=iQ 0 ks:=by rw [eL,if_pos hrd]
  rw [hz];have hrd':=aD hrd;clear hz;generalize hoo:iQ 0 ks=oo
  have hoo':=aD hoo;clear hoo;go_enter func112,ntmps112;go_wp2_with (go_at_call 110;refine (cU k n ks A c _ (by omega) ha'.out (hr.alloc _)).mono ?_;rw [hrd];rintro e w1 ⟨rfl,hb1⟩;have hB1:=(aC w 32 (Ro k n A ks.length c) rfl).keep hb1;obtain ⟨p10,p11,p12⟩:=hB1.three;replace hb1:=bw1.trans (hb1.mono (by simp)))
  go_loopw [14] (fun i wr=>∃j:Nat,j≤ks.length∧i = .int .i64 j∧Hid (∀t,t∈ks.take j→nrm t=true)∧Bw w wr)
   (fun i _=>ks.length - (intOf i).toNat)
  case atStart=>exact ⟨0,Nat.zero_le _,rfl,aD (by simp),hb1⟩
  case round=>
   obtain ⟨j,hj,rfl,hall,hb⟩:=hrel;by_cases hlt:j<ks.length
   ·obtain ⟨b,off,k1,n1,ks1,A1,c1,rfl,hkj,hc1,hc2,hc3,hl1,hr1⟩:=(hr.below hb).at_ hlt;have hsz:=cF (iC hlt);have hs1:=hkids.out _ (iC hlt);rw [hkj] at hsz hs1;simp only [Tm.size] at hsz
    have H3:=aD hkj;have H4:=aD hs1;clear hkj hs1;cases ho1:eL (.mk k1 n1 ks1) with
    | none=>
     have hn1:nrm (.mk k1 n1 ks1)=true:=(outP_no.1 _).1 ho1;have hn1':=aD hn1;have ho1':=aD ho1;clear ho1 hn1;go_wp2_with (go_at_call 112;refine (ih d k1 n1 ks1 A1 c1 _ (by omega) (by omega) H4.out (by omega) (hr1.alloc _)).mono ?_;rw [ho1'.out];intro e w3 hp;obtain ⟨A3,m3,c3,rfl,hb3⟩:=hp.none_;replace hb3:=bw1.trans (hb3.mono (by simp)))
     go_roundw
     case rel=>exact ⟨j+1,hlt,by go_num,aD (aCi hlt hall.out (by rw [H3.out];exact hn1'.out)),hb.trans (hb3.mono hb.size)⟩
     case measure=>simp [intOf];omega
    | some p1=>
     have ho1':=aD ho1;clear ho1;go_wp2_with (first|(go_at_call 112;refine (ih d k1 n1 ks1 A1 c1 _ (by omega) (by omega) H4.out (by omega) (hr1.alloc _)).mono ?_;rw [ho1'.out];intro e w3 hp;obtain ⟨A3,m3,c3,rfl,hm3,hc3',hm3e,hp3,hb3⟩:=hp.some_;have hm3e':=aD hm3e.symm;clear hm3e;replace hb3:=bw1.trans (hb3.mono (by simp)))|(at_builtin;refine dI hp3 hm3e'.out (by omega) _ rfl _ _ rfl rfl rfl ?_;intro A4 c4 w4 hcc4 hp4 hb4))
     go_ret2
     have hfin:=aBx (i:=0) hall.out hlt (by rw [H3.out];exact ho1'.out);rw [hoo'.out] at hfin;refine ⟨A4,m3+1,c4,by rw [hfin];rfl,by omega,hcc4,?_,hb.trans ((hb3.trans (hb4.mono hb3.size)).mono hb.size)⟩;intro p hp;rw [hfin] at hp;injection hp with hp;subst hp;refine ⟨by rw [List.length_cons,hm3e'.out],by simpa using hp4⟩
   ·have hje:j=ks.length:=by omega
    go_wp2_with fail
    go_ret2
    have ha:=hall.out;rw [hje,List.take_length] at ha;have h2:oo=none:=by rw [← hoo'.out];exact (outP_no.2 ks 0).2 ((aCd ks).2 ha)
    refine ⟨none,0,0,by rw [h2];rfl,by omega,oL _,fun p hp=>(by rw [h2] at hp;cases hp),hb⟩
 ·have hne:(rdx k ks != 0)=true:=by simpa using hrd
  have hz:eL (.mk k n ks)=some []:=by rw [eL,if_neg hrd]
  rw [hz];have H:=aD hrd;clear hrd hz;go_enter func112,ntmps112;go_wp2_with (go_at_call 110;refine (cU k n ks A c _ (by omega) ha'.out (hr.alloc _)).mono ?_;rintro e w1 ⟨rfl,hb1⟩;replace hb1:=bw1.trans (hb1.mono (by simp)))
  go_ret2
  exact ⟨none,0,0,rfl,by omega,oL _,fun p hp=>(by injection hp with hp;subst hp;exact ⟨rfl,PathX.nil⟩),hb1⟩
end Go.Proofs.YtjlaenhcemacdaaGreat
