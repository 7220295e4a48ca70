/- Parts of the proof. No condition. -/
import Derived.Test.YtajjhldcjikkpaaGreatK8
import Derived.Deep.RegionHeld3
open Go.Proofs.Tryz
namespace Go.Proofs.YtajjhldcjikkpaaGreat
open Go.RowKit
set_option maxHeartbeats 4000000
set_option maxRecDepth 100000
set_option linter.unusedSimpArgs false
set_option linter.unusedVariables false
inductive Rs (α:Type) where
 | ok (a:α)
 | no (b:Bool)
def dL (b:Bool):Int:=if b=true then 1 else 2
def Rs.cd {α:Type}:Rs α→Int
 | .ok _=>0
 | .no b=>dL b
theorem aVm (b:Bool):dL b≠0:=by cases b<;>decide
def bd {α β:Type}(o:Option (Rs α))(f:α→Option (Rs β)):Option (Rs β):=
 match o with
 | none=>none
 | some (.no b)=>some (.no b)
 | some (.ok a)=>f a
theorem kA {α β:Type}(a:α)(f:α→Option (Rs β)):bd (some (.ok a)) f=f a:=rfl
theorem aO {α β:Type}{o:Option (Rs α)}{f:α→Option (Rs β)}{r:Rs β}(h:bd o f=some r):(∃b,o=some (.no b)∧r = .no b)∨∃a,o=some (.ok a)∧f a=some r:=by
 cases o with
 | none=>cases h
 | some x=>cases x with
  | no b=>injection h with h;exact .inl ⟨b,rfl,h.symm⟩
  | ok a=>exact .inr ⟨a,rfl,h⟩
def lU (s:Tm):Rs Tm:=if aE s=true then (match (redI bS 200 s).1 with|some o=>.ok o|none=>.no false) else .no false
def smR (a b:Tm):Rs Unit:=if aE a=true∧aE b=true then (if iP 200 a b=1 then .ok () else if iP 200 a b=2 then .no true else .no false) else .no false
abbrev aVy:=List Tm→Tm→Option (Rs Tm)
section
variable (rec_:aVy)(ctx:List Tm)
def aGm (h:Tm):Option (Rs Int):=if h.k=2 then some (.ok h.n) else some (.no true)
def iW (t:Tm):Option (Rs Int):=bd (rec_ ctx t) fun s=>bd (some (lU s)) aGm
def gU (kind:Int)(h:Tm):Option (Rs Tm):=if h.k=kind then some (.ok h) else some (.no true)
def xQ (t:Tm)(kind:Int):Option (Rs Tm):=bd (rec_ ctx t) fun s=>bd (some (lU s)) (gU kind)
def iL (t want:Tm):Option (Rs Unit):=bd (rec_ ctx t) fun s=>some (smR s want)
def uN (a b:Tm):Option (Rs Tm):=bd (iW rec_ ctx a) fun i=>bd (iW rec_ (ctx++[a]) b) fun j=>some (.ok (.mk 2 (if j<i then i else j) []))
def aXz (a b:Tm):Option (Rs Tm):=bd (iW rec_ ctx a) fun _=>bd (rec_ (ctx++[a]) b) fun u=>bd (uN rec_ ctx a u) fun _=>some (.ok (.mk 3 0 [a,u]))
def aXo (f u:Tm):Option (Rs Tm):=bd (xQ rec_ ctx f 3) fun h=>bd (iL rec_ ctx u (aI h.ks 0)) fun _=>some (.ok (dC u 0 0 (aI h.ks 1)))
def aFt (h:Tm):Option (Rs Unit):=if h.k=2 then some (.ok ()) else some (.no true)
def aFk (p from_:Tm):Option (Rs Unit):=bd (xQ rec_ ctx p 3) fun f=>bd (some (smR (aI f.ks 0) from_)) fun _=>bd (some (lU (aI f.ks 1))) aFt
def nT:Tm:=.mk 6 0 []
def kB (a b:Tm):Tm:=.mk 5 0 [a,b]
def kP (p:Tm):Tm:=.mk 3 0 [nT,.mk 3 0 [kB (eZ 1 0 p) (.mk 1 0 []),kB (eZ 2 0 p) (.mk 8 0 [.mk 1 1 []])]]
def aXg (p z s n:Tm):Option (Rs Tm):=bd (aFk rec_ ctx p nT) fun _=>bd (iL rec_ ctx z (kB p (.mk 7 0 []))) fun _=>bd (iL rec_ ctx s (kP p)) fun _=>bd (iL rec_ ctx n nT) fun _=>some (.ok (kB p n))
def aWn (a x y:Tm):Option (Rs Tm):=bd (iW rec_ ctx a) fun i=>bd (iL rec_ ctx x a) fun _=>bd (iL rec_ ctx y a) fun _=>some (.ok (.mk 2 i []))
def aWv (p e z:Tm):Option (Rs Tm):=bd (xQ rec_ ctx e 10) fun h=>bd (aFk rec_ ctx p (aI h.ks 0)) fun _=>bd (iL rec_ ctx z (kB p (aI h.ks 1))) fun _=>some (.ok (kB p (aI h.ks 2)))
def aTv (s a b:Tm):Option (Rs Tm):=bd (iW rec_ ctx s) fun _=>bd (some (lU s)) fun h=>bd (gU 13 h) fun h=>bd (iL rec_ ctx a (aI h.ks 0)) fun _=>bd (iL rec_ ctx b (dC a 0 0 (aI h.ks 1))) fun _=>some (.ok s)
def aQx (k:Int)(p:Tm):Option (Rs Tm):=bd (xQ rec_ ctx p 13) fun h=>if k=15 then some (.ok (aI h.ks 0)) else some (.ok (dC (.mk 15 0 [p]) 0 0 (aI h.ks 1)))
def aVd (t:Tm):Option (Rs Tm):=bd (iL rec_ ctx t nT) fun _=>some (.ok nT)
def aUr (a:Tm):Option (Rs Tm):=bd (rec_ ctx a) fun s=>bd (iW rec_ ctx s) fun _=>some (.ok (.mk 10 0 [s,a,a]))
def aDz (n:Int):Option (Rs Tm):=if (ctx.length:Int)≤n then some (.no true) else some (.ok (eZ (n+1) 0 (ctx.getD (ctx.length - 1 - n.toNat) default)))
def fS:Tm→Option (Rs Tm)
 | .mk k n ks=>
  if k=3∨k=13 then uN rec_ ctx (aI ks 0) (aI ks 1)
  else if k=4 then aXz rec_ ctx (aI ks 0) (aI ks 1)
  else if k=5 then aXo rec_ ctx (aI ks 0) (aI ks 1)
  else if k=9 then aXg rec_ ctx (aI ks 0) (aI ks 1) (aI ks 2) (aI ks 3)
  else if k=10 then aWn rec_ ctx (aI ks 0) (aI ks 1) (aI ks 2)
  else if k=12 then aWv rec_ ctx (aI ks 0) (aI ks 1) (aI ks 2)
  else if k=14 then aTv rec_ ctx (aI ks 0) (aI ks 1) (aI ks 2)
  else if k=1 then aDz ctx n
  else if k=2 then (if 3≤n then some (.no true) else some (.ok (.mk 2 (n+1) [])))
  else if k=6 then some (.ok (.mk 2 0 []))
  else if k=7 then some (.ok nT)
  else if k=8 then aVd rec_ ctx (aI ks 0)
  else if k=11 then aUr rec_ ctx (aI ks 0)
  else aQx rec_ ctx k (aI ks 0)
end
def eC (o:Tm):Option (Rs Tm):=if aE o=true then some (.ok o) else some (.no false)
def bJ:Nat→List Tm→Tm→Option (Rs Tm)
 | 0,_,_=>none
 | N+1,ctx,t=>if aE t=true∧ctx.length≤20 then bd (fS (bJ N) ctx t) eC else some (.no false)
theorem dQ {N:Nat}{ctx:List Tm}{t s:Tm}(h:bJ N ctx t=some (.ok s)):aE s=true:=by
 cases N with
 | zero=>cases h
 | succ N=>
  rw [bJ] at h;split at h
  ·rcases aO h with ⟨b,_,hb⟩|⟨a,_,ha⟩
   ·cases hb
   ·unfold eC at ha
    split at ha
    ·injection ha with ha;injection ha with ha;subst ha;assumption
    ·injection ha with ha;cases ha
  ·injection h with h;cases h
theorem eL {s o:Tm}(h:lU s = .ok o):aE s=true∧aE o=true∧redI bS 200 s=(some o,0):=by
 unfold lU at h
 split at h
 ·rename_i hv
  split at h
  ·rename_i o' he
   injection h with h;subst h;have h2:∀(f:Nat) (t:Tm),aE t=true→∀o,(redI bS f t).1=some o→aE o=true∧redI bS f t=(some o,0):=by
    intro f;induction f with
    | zero=>
     intro t ht o;rw [redI];cases bS t with
     | none=>intro h;injection h with h;subst h;exact ⟨ht,rfl⟩
     | some p=>intro h;cases h
    | succ f ih=>
     intro t ht o;rw [redI];cases bS t with
     | none=>intro h;injection h with h;subst h;exact ⟨ht,rfl⟩
     | some p=>
      simp only
      cases hc:lX t p with
      | none=>intro h;cases h
      | some t'=>
       refine ih t' ?_ o;unfold lX at hc
       split at hc
       ·cases hc
       ·split at hc
        ·cases hc
        ·unfold vO at hc
         split at hc
         ·injection hc with hc;subst hc;assumption
         ·cases hc
   have:=h2 200 s hv _ he;exact ⟨hv,this.1,this.2⟩
  ·cases h
 ·cases h
def aXu (w:World)(u:Tm)(e:Ending)(w':World):Prop:=
 ∃k n ks A c,u = .mk k n ks∧e = .returned (.agg (Ro k n A ks.length c))∧ks.length≤9223372036854775807∧Rd w A 0 ks∧Bw w w'
theorem aBk (k n:Int)(ks:List Tm)(A:Option Addr)(c:Nat)(xs:List Int)(P:Option Addr)(cp:Nat)(w:World)(hM:aH ks≤1000000000)(hx:xs.length≤9223372036854775807)(hr:Rd w A 0 ks)(hi:RdI w P xs){u:Tm}(hu:lC (.mk k n ks) xs=some u) :
  Calls prog 85 #[.agg (Ro k n A ks.length c),.slice P xs.length cp] w (aXu w u):=by
 have hlen:=aQ ks;have hu':=aD hu;clear hu;go_enter func85,ntmps85;go_wp2_with fail
 go_loopw [9] (fun i wr=>∃(j:Nat) (k1 n1:Int) (ks1:List Tm) (A1:Option Addr) (c1:Nat),j≤xs.length∧i = .int .i64 j∧Hid (lC (.mk k n ks) (xs.take j)=some (.mk k1 n1 ks1))∧ks1.length≤9223372036854775807∧Rd w A1 0 ks1∧Blk wr w.heap.size (Ro k1 n1 A1 ks1.length c1)∧Blk wr (w.heap.size+1) Zr∧Bw w wr)
  (fun i _ => xs.length - (intOf i).toNat)
 case atStart=>exact ⟨0,k,n,ks,A,c,Nat.zero_le _,rfl,aD rfl,by omega,hr,(aC _ _ _ rfl).alloc _,aC _ _ _ (by simp),bw2⟩
 case round=>
  obtain ⟨j,k1,n1,ks1,A1,c1,hj,rfl,hat,hl1,hr1,hB1,hB2,hb⟩:=hrel;have lB2:=hB2.lt;by_cases hlt:j<xs.length
  ·obtain ⟨b,off,rfl,hc⟩:=hi.below hb j hlt;have hnx:=aOj hlt hat.out;have hne:lC (.mk k n ks) (xs.take (j+1))≠none:=fun h=>by have:=aOw h;rw [hu'.out] at this;cases this
   generalize hxj:xs[j]=x at hc hnx
   have hxj':=aD hxj;clear hxj;by_cases hin:0≤x∧x<ks1.length
   ·obtain ⟨i,rfl⟩:∃i:Nat,x=(i:Int):=⟨x.toNat,by omega⟩;have hik:i<ks1.length:=by omega
    obtain ⟨b3,off3,k3,n3,ks3,A3,c3,rfl,hkj3,qE,rW,sR,hl3,hr3⟩:=hr1.at_ hik;have hst:lC (.mk k n ks) (xs.take (j+1))=some (.mk k3 n3 ks3):=by
     rw [hnx,if_pos (show 0≤(i:Int)∧(i:Int)<(Tm.mk k1 n1 ks1).kids.length from hin),Int.toNat_natCast,show (Tm.mk k1 n1 ks1).kids=ks1 from rfl,List.getD_eq_getElem?_getD,oE hik,Option.getD_some,hkj3]
    have hst':=aD hst;clear hkj3 hst hnx hne;have z2:=(bU hb) _ _ qE;have z3:=(bU hb) _ _ rW;have z4:=(bU hb) _ _ sR;have cc2:wr.cell? ⟨w.heap.size,2,none⟩=some (.slice (some ⟨b3,off3,none⟩) ks1.length c1):=hB1.at_ rfl;have cc0:wr.cell? ⟨w.heap.size,0,none⟩=some (.int .i64 k1):=hB1.at_ rfl;have cc1:wr.cell? ⟨w.heap.size,1,none⟩=some (.int .i64 n1):=hB1.at_ rfl;obtain ⟨f0,f1,f2⟩:=lF hB1;go_wp2_with fail
    go_roundw
    case rel=>exact ⟨j+1,k3,n3,ks3,A3,c3,by omega,by go_num,hst',hl3,hr3,((hB1.set_ 0 _).set_ 1 _).set_ 2 _,((hB2.far (by simp) _).far (by simp) _).far (by simp) _,(bT hb)⟩
    case measure=>simp [intOf];omega
   ·exact absurd (by rw [hnx,if_neg (show ¬(0≤x∧x<(Tm.mk k1 n1 ks1).kids.length) from hin)]) hne
  ·have hjl:j=xs.length:=by omega
   subst hjl;have hut:u = .mk k1 n1 ks1:=by have:=hat.out;rw [List.take_length,hu'.out] at this;exact Option.some.inj this
   subst hut;have cc0:wr.cell? ⟨w.heap.size,0,none⟩=some (.int .i64 k1):=hB1.at_ rfl;have cc1:wr.cell? ⟨w.heap.size,1,none⟩=some (.int .i64 n1):=hB1.at_ rfl;have cc2:wr.cell? ⟨w.heap.size,2,none⟩=some (.slice A1 ks1.length c1):=hB1.at_ rfl;have d0:wr.cell? ⟨w.heap.size+1,0,none⟩=some (.int .i64 0):=hB2.at_ rfl;have d1:wr.cell? ⟨w.heap.size+1,1,none⟩=some (.int .i64 0):=hB2.at_ rfl;have d2:wr.cell? ⟨w.heap.size+1,2,none⟩=some (.slice none 0 0):=hB2.at_ rfl;obtain ⟨e0,e1,e2⟩:=lF hB2;go_wp2_with fail
   refine bodyPost_ret (v:=.agg (Ro k1 n1 A1 ks1.length c1)) (by simp [results,results85,go_sem,d0,d1,d2]) rfl ⟨_,_,_,A1,c1,rfl,rfl,hl1,hr1,?_⟩;exact bT hb
def KD:Nat→Nat|0=>3|d+1=>3+4*KD d
def SD:Nat→Nat|0=>1|d+1=>1+4*SD d
theorem fN (k:Int):aK k≤4∧-1≤aK k:=by
 unfold aK;repeat' split
 all_goals omega
def aHb (B:Nat)(w:World)(r p q s D:Nat)(e:Ending)(w':World):Prop:=
 ∃(k n:Int) (ks:List Tm) (A:Option Addr) (c p':Nat),e = .returned (.agg (Ro k n A ks.length c))∧ks.length≤9223372036854775807∧aH ks+1≤s∧sN D (.mk k n ks)=true∧p'≤p+q∧Fresh w.heap.size w' A ks∧Rdr B w' r p'∧w.grownBy w' (some r)
def HD (d:Nat):Nat:=if d<2 then 1 else d
theorem aOv {d:Nat}(h:d<2):HD d=0+1:=if_pos h
theorem aIc {d:Nat}(h:1≤d):HD (d+1)=d+1:=if_neg (by omega)
theorem aWz {d:Nat}(h:1≤d):HD d≤d:=by unfold HD;split<;>omega
theorem aYv {d:Nat}(h:d≤4):HD d≤4:=by unfold HD;split<;>omega
def aBz (d:Nat):Prop:=∀(B r p:Nat) (w:World),p+KD d≤1000000000→B≤w.heap.size→Rdr B w r p→
 Calls prog 54 #[.pointer (some ⟨r,0,none⟩),.int .i64 d] w (aHb B w r p (KD d) (SD d) (HD d))
theorem Rdr.lt {B r p:Nat}{w:World}(h:Rdr B w r p):r<B:=by obtain ⟨_,_,_,_,_,h,_⟩:=h;exact h
theorem aTh (d:Nat):3≤KD d:=by cases d<;>simp [KD]
theorem aTr (d:Nat):d≤KD d:=by
 induction d with
 | zero=>simp [KD]
 | succ d ih=>rw [KD];omega
theorem aWd (d:Nat):1≤SD d:=by cases d<;>simp [SD]
theorem aKg {x:Int}(h:x∈([1,7,6,2,1]:List Int)):aK x=0:=by
 simp only [List.mem_cons,List.not_mem_nil,or_false] at h
 rcases h with rfl|rfl|rfl|rfl|rfl<;>decide
theorem vH {x:Int}(h:x∈([1,5,4,8,9,3,6,7,11,15,14,10,12,13,16,2]:List Int)):0≤aK x:=by
 simp only [List.mem_cons,List.not_mem_nil,or_false] at h
 rcases h with rfl|rfl|rfl|rfl|rfl|rfl|rfl|rfl|rfl|rfl|rfl|rfl|rfl|rfl|rfl|rfl<;>decide
theorem aEq (d:Nat)(hd:d<2):aBz d:=by
 intro B r p w hp hB hr;have hrl:=hr.lt;have hkd:=aTh d;have hsd:=aWd d;have rW:(d:Int)<2:=by omega
 go_enter func54,ntmps54
 go_wp2_with (first|(go_at_call 13;refine (jK [0,1,0,2,1,3] B r (p+1+1) (w2.heap.size+1) _ (by decide) (by decide) (by omega) (by simp;omega) ((hr2.alloc (by omega) _).alloc (by simp;omega) _) (aC _ 3 _ (by simp)) (by omega)).mono ?_;rintro e w3 ⟨nn,hn,rfl,hr3,hg3⟩;have hB63:Blk w3 w2.heap.size (Ro x 0 none 0 0):=((aC w2 25 (Ro x 0 none 0 0) rfl).alloc _).grown hg3 (by simp;omega);have hZ3:=((hZ2.alloc _).alloc _).grown hg3 (by simp;omega);have g3:w.grownBy w3 (some r):=bE (aM (aM g2 _) _) hg3;have s3:w2.heap.size+1+1≤w3.heap.size:=(by have:=hg3.size;simpa using this);have c1:=hB63.at_ (i:=1) rfl;have f1:=hB63.frozen 1)|(go_at_call 65;refine (jH _ _).mono ?_;rintro e w9 ⟨rfl,rfl⟩)|(go_at_call 13;refine (jK [1,7,6,2,1] B r (p+1) w1.heap.size _ (by decide) (by decide) (by omega) (by simp;omega) (hr1.alloc (by omega) _) (aC _ 3 _ rfl) (by omega)).mono ?_;rintro e w2 ⟨x,hx,rfl,hr2,hg2⟩;have hax:=aKg hx;have hZ2:=(hZ1.alloc _).grown hg2 (by simp;omega);have g2:w.grownBy w2 (some r):=bE (aM g1 _) hg2;have s2:w1.heap.size+1≤w2.heap.size:=(by have:=hg2.size;simpa using this))|(go_at_call 13;refine (jK [1,5,4,8,9,3,6,7,11,15,14,10,12,13,16,2] B r p (w.heap.size+1) _ (by decide) (by decide) (by omega) (by simp;omega) ((hr.alloc (by omega) _).alloc (by simp;omega) _) (aC _ 3 _ (by simp)) (by omega)).mono ?_;rintro e w1 ⟨x0,hx0,rfl,hr1,hg1⟩;have hax0:=vH hx0;have hZ1:Blk w1 w.heap.size Zr:=(((aC w 25 Zr rfl).alloc _)).grown hg1 (by simp;omega);have g1:w.grownBy w1 (some r):=bE (aM (aM (iM _ _) _) _) hg1;have s1:w.heap.size+1+1≤w1.heap.size:=(by have:=hg1.size;simpa using this)))
 ·refine aN ?_;intro wz hwz;have hB6:Blk wz w2.heap.size (Ro x nn none 0 0):=by rw [hwz];exact hB63.set_ 1 _
  have hZ:Blk wz w.heap.size Zr:=by rw [hwz];exact hZ3.far (by simp;omega) _
  have hRz:Rdr B wz r (p+1+1+1):=by rw [hwz];exact hr3.setCell (by simp;omega) _
  have hgz:w.grownBy wz (some r):=by rw [hwz];exact aG g3 (.inr (by simp;omega)) _
  have hs6:w2.heap.size<wz.heap.size:=hB6.lt;clear hwz;go_loopw [7] (fun i wr=>∃(j p':Nat) (ts:List Tm) (v:Value),(j:Int)≤aK x∧i = .int .i64 j∧ts.length=j∧aH ts≤j*0∧ts.all (sN 0)=true∧p'≤p+3+j*0∧Part (w2.heap.size+1) wr v ts∧Blk wr w2.heap.size #[.int .i64 x,.int .i64 nn,v]∧Blk wr w.heap.size Zr∧Rdr B wr r p'∧w.grownBy wr (some r)) (fun i _=>(aK x - intOf i).toNat)
  case atStart=>exact ⟨0,_,[],_,by omega,rfl,rfl,by simp [aH],rfl,by omega,Part.nil,hB6,hZ,hRz,hgz⟩
  case round=>
   obtain ⟨j,p',ts,v,hj,rfl,htl0,hts,h3s0,hp',hpt,hB3,hZr,hRr,hgr⟩:=hrel;have h3s:=aD h3s0;clear h3s0;have htl:=aD htl0;clear htl0;by_cases hlt:(j:Int)<aK x
   ·exact absurd hlt (by omega)
   ·have hje:(j:Int)=aK x:=by omega
    obtain ⟨Ar,cr,rfl,hfr⟩:=hpt.fresh;obtain ⟨c0,c1,c2⟩:=hB3.three;obtain ⟨z0,z1,z2,e0,e1,e2⟩:=bW hZr;have hw0:w.heap.size<wr.heap.size:=hZr.lt;have hne:r≠w.heap.size:=by omega
    have hj4:j≤4:=by have:=fN x;omega
    have hfin:Hid (aH ts+1≤SD d∧p'≤p+KD d):=⟨by omega,by omega⟩;go_wp2_with (go_at_call 64;refine (dF _ _).mono ?_;rintro e w9 ⟨rfl,rfl⟩)
    refine bodyPost_ret (v:=.agg (Ro x nn Ar ts.length cr)) (by simp [results,results54,go_sem,z0,z1,z2]) rfl ⟨x,nn,ts,Ar,cr,p',rfl,by have:=htl.out;omega,hfin.out.1,(by rw [aOv hd,sN,h3s.out,Bool.and_true];exact decide_eq_true (by first|omega|(simp only [List.mem_cons,List.not_mem_nil,or_false] at hn;omega))),hfin.out.2,?_,?_,?_⟩
    ·exact (mU hfr).mono (by omega)
    ·exact ((hRr.setCell (by simp;omega) _).setCell (by simp;omega) _).setCell (by simp;omega) _
    ·exact aG (aG (aG hgr (.inr (by simp)) _) (.inr (by simp)) _) (.inr (by simp)) _
 ·refine aN ?_;intro wz hwz;have hB6:Blk wz w2.heap.size (Ro x 0 none 0 0):=by rw [hwz];exact aC _ _ _ rfl
  have hZ:Blk wz w.heap.size Zr:=by rw [hwz];exact hZ2.alloc _
  have hRz:Rdr B wz r (p+1+1):=by rw [hwz];exact hr2.alloc (by omega) _
  have hgz:w.grownBy wz (some r):=by rw [hwz];exact aM g2 _
  have hs6:w2.heap.size<wz.heap.size:=hB6.lt;clear hwz;go_loopw [7] (fun i wr=>∃(j p':Nat) (ts:List Tm) (v:Value),(j:Int)≤aK x∧i = .int .i64 j∧ts.length=j∧aH ts≤j*0∧ts.all (sN 0)=true∧p'≤p+3+j*0∧Part (w2.heap.size+1) wr v ts∧Blk wr w2.heap.size #[.int .i64 x,.int .i64 0,v]∧Blk wr w.heap.size Zr∧Rdr B wr r p'∧w.grownBy wr (some r)) (fun i _=>(aK x - intOf i).toNat)
  case atStart=>exact ⟨0,_,[],_,by omega,rfl,rfl,by simp [aH],rfl,by omega,Part.nil,hB6,hZ,hRz,hgz⟩
  case round=>
   obtain ⟨j,p',ts,v,hj,rfl,htl0,hts,h3s0,hp',hpt,hB3,hZr,hRr,hgr⟩:=hrel;have h3s:=aD h3s0;clear h3s0;have htl:=aD htl0;clear htl0;by_cases hlt:(j:Int)<aK x
   ·exact absurd hlt (by omega)
   ·have hje:(j:Int)=aK x:=by omega
    obtain ⟨Ar,cr,rfl,hfr⟩:=hpt.fresh;obtain ⟨c0,c1,c2⟩:=hB3.three;obtain ⟨z0,z1,z2,e0,e1,e2⟩:=bW hZr;have hw0:w.heap.size<wr.heap.size:=hZr.lt;have hne:r≠w.heap.size:=by omega
    have hj4:j≤4:=by have:=fN x;omega
    have hfin:Hid (aH ts+1≤SD d∧p'≤p+KD d):=⟨by omega,by omega⟩;go_wp2_with (go_at_call 64;refine (dF _ _).mono ?_;rintro e w9 ⟨rfl,rfl⟩)
    refine bodyPost_ret (v:=.agg (Ro x 0 Ar ts.length cr)) (by simp [results,results54,go_sem,z0,z1,z2]) rfl ⟨x,0,ts,Ar,cr,p',rfl,by have:=htl.out;omega,hfin.out.1,(by rw [aOv hd,sN,h3s.out,Bool.and_true];exact decide_eq_true (by first|omega|(simp only [List.mem_cons,List.not_mem_nil,or_false] at hn;omega))),hfin.out.2,?_,?_,?_⟩
    ·exact (mU hfr).mono (by omega)
    ·exact ((hRr.setCell (by simp;omega) _).setCell (by simp;omega) _).setCell (by simp;omega) _
    ·exact aG (aG (aG hgr (.inr (by simp)) _) (.inr (by simp)) _) (.inr (by simp)) _
theorem aKt (d:Nat)(hd:1≤d)(ih:aBz d):aBz (d+1):=by
 intro B r p w hp hB hr;have ihx:∀(B r p:Nat) (w:World),p+KD d≤1000000000→B≤w.heap.size→Rdr B w r p→Calls prog 54 #[.pointer (some ⟨r,0,none⟩),.int .i64 d] w (aHb B w r p (KD d) (SD d) d):=fun B r p w h1 h2 h3=>(ih B r p w h1 h2 h3).mono fun e w1 h=>by
  obtain ⟨k,n,ks,A,c,p1,a1,a2,a3,a4,a5⟩:=h;exact ⟨k,n,ks,A,c,p1,a1,a2,a3,aGs (aWz hd) a4,a5⟩
 have hrl:=hr.lt;have hkd:=aTh d;have hkd1:KD (d+1)=3+4*KD d:=rfl;have hkd2:=aD hkd1;rw [hkd1] at hp;clear hkd1;have rW:¬((d:Int)+1<2):=by omega
 have sR:d≤KD d:=aTr d;have k1:IntKind.i64.wrap ((d:Int)+1 - 1)=d:=by rw [IntWalk.i64_in _ (by omega)];omega
 have k2:IntKind.i64.wrap (d:Int)=d:=IntWalk.i64_in _ (by omega);have k3:wrap64 ((d:Int)+1 - 1)=d:=by rw [IntWalk.wrap64_in _ (by omega)];omega
 have k4:wrap64 (d:Int)=d:=IntWalk.wrap64_in _ (by omega);go_enter func54,ntmps54;go_wp2_with (first|(go_at_call 13;refine (jK [0,1,0,2,1,3] B r (p+1) (w1.heap.size+1) _ (by decide) (by decide) (by omega) (by simp;omega) ((hr1.alloc (by omega) _).alloc (by simp;omega) _) (aC _ 3 _ (by simp)) (by omega)).mono ?_;rintro e w3 ⟨nn,hn,rfl,hr3,hg3⟩;have hB63:Blk w3 w1.heap.size (Ro x 0 none 0 0):=((aC w1 25 (Ro x 0 none 0 0) rfl).alloc _).grown hg3 (by simp;omega);have hZ3:=((hZ1.alloc _).alloc _).grown hg3 (by simp;omega);have g3:w.grownBy w3 (some r):=bE (aM (aM g1 _) _) hg3;have s3:w1.heap.size+1+1≤w3.heap.size:=(by have:=hg3.size;simpa using this);have c1:=hB63.at_ (i:=1) rfl;have f1:=hB63.frozen 1)|(go_at_call 65;refine (jH _ _).mono ?_;rintro e w9 ⟨rfl,rfl⟩)|(go_at_call 13;refine (jK [1,5,4,8,9,3,6,7,11,15,14,10,12,13,16,2] B r p (w.heap.size+1) _ (by decide) (by decide) (by omega) (by simp;omega) ((hr.alloc (by omega) _).alloc (by simp;omega) _) (aC _ 3 _ (by simp)) (by omega)).mono ?_;rintro e w1 ⟨x,hx0,rfl,hr1,hg1⟩;have hax0:=vH hx0;have hZ1:Blk w1 w.heap.size Zr:=(((aC w 25 Zr rfl).alloc _)).grown hg1 (by simp;omega);have g1:w.grownBy w1 (some r):=bE (aM (aM (iM _ _) _) _) hg1;have s1:w.heap.size+1+1≤w1.heap.size:=(by have:=hg1.size;simpa using this)))
 ·refine aN ?_;intro wz hwz;have hB6:Blk wz w1.heap.size (Ro x nn none 0 0):=by rw [hwz];exact hB63.set_ 1 _
  have hZ:Blk wz w.heap.size Zr:=by rw [hwz];exact hZ3.far (by simp;omega) _
  have hRz:Rdr B wz r (p+1+1):=by rw [hwz];exact hr3.setCell (by simp;omega) _
  have hgz:w.grownBy wz (some r):=by rw [hwz];exact aG g3 (.inr (by simp;omega)) _
  have hs6:w1.heap.size<wz.heap.size:=hB6.lt;clear hwz;go_loopw [7] (fun i wr=>∃(j p':Nat) (ts:List Tm) (v:Value),(j:Int)≤aK x∧i = .int .i64 j∧ts.length=j∧aH ts≤j*SD d∧ts.all (sN d)=true∧p'≤p+3+j*KD d∧Part (w1.heap.size+1) wr v ts∧Blk wr w1.heap.size #[.int .i64 x,.int .i64 nn,v]∧Blk wr w.heap.size Zr∧Rdr B wr r p'∧w.grownBy wr (some r)) (fun i _=>(aK x - intOf i).toNat)
  case atStart=>exact ⟨0,_,[],_,by omega,rfl,rfl,by simp [aH],rfl,by omega,Part.nil,hB6,hZ,hRz,hgz⟩
  case round=>
   obtain ⟨j,p',ts,v,hj,rfl,htl0,hts,h3s0,hp',hpt,hB3,hZr,hRr,hgr⟩:=hrel;have h3s:=aD h3s0;clear h3s0;have htl:=aD htl0;clear htl0;by_cases hlt:(j:Int)<aK x
   ·have hun:=aD hlt;have hj5:j≤4:=by have:=fN x;omega
    have hB3l:=hB3.lt;have c2:=hB3.at_ (i:=2) rfl;go_wp2_with (go_at_call 64;refine (dF _ _).mono ?_;rintro e w9 ⟨rfl,rfl⟩)
    have x2:=hB3.ruleG (g:=r) (by omega) (i:=2) rfl;have hsr:=hgr.size;refine bK (fun w'=>wr.grownBy w' (some r)) [0,1,2,3,4] [5,6] [7,8,9] [_,_,_,_,_] [_,_] [_,_,_] (by kernel_rfl) (by kernel_rfl) rfl rfl rfl (fun _ _ d _ _ h=>by cases d<;>exact h) (dR (iM _ _)) ?_;refine bV (aD ?_);refine bF ?_;go_wp2_with (go_at_call 54;(with_reducible refine (ihx B r p' _ (by have:=Nat.mul_le_mul_right (KD d) (show j≤3 by have:=fN x;omega);omega) (by simp;omega) hRr.drew).mono ?_);rintro e wq ⟨kq,nq,ksq,Aq,cq,pq,rfl,hlq,hsq,h3q,hqq,hfq,hRq,hgq⟩)
    have hxq:wr.grownBy wq (some r):=bE (dR (iM _ _)) hgq;have hwq:wr.heap.size≤wq.heap.size:=hxq.size;refine aP hxq (bF ?_);go_wp2_with fail
    refine aP (aM hxq _) (cZ ?_);refine fW (B:=w1.heap.size+1) (m:=j) hpt.drew (fun b h1 h2=>hgq.block b h2 (by simp;omega)) hwq (by simp;omega) hfq hlq htl.out (by have:=fN x;omega) rfl (.tmp 32) (.tmp 37) rfl rfl rfl ?_;intro A2 c2' w2 hp2 hb2 hg2;have q3:Blk w2 w1.heap.size #[.int .i64 x,.int .i64 nn,v]:=(hB3.grown hxq (by simp;omega)).below hb2 (by omega);have q2:Blk w2 w.heap.size Zr:=(hZr.grown hxq (by simp;omega)).below hb2 (by omega);have qR:=hRq.below hb2 (by omega);have d2:w2.cell? ⟨w1.heap.size,2,none⟩=some v:=q3.at_ rfl;have z3:=q3.frozen 2;have hgf:w.grownBy w2 (some r):=oT (bE hgr hxq) hb2 (by omega);clear x2 c2;go_wp2_with fail
    go_roundw
    case rel=>
     refine ⟨j+1,pq,ts++[.mk kq nq ksq],_,by omega,by go_num,by simp [htl.out],?_,(by rw [List.all_append,h3s.out,List.all_cons,h3q];rfl),?_,hp2.setCell (by simp) _,q3.set_ 2 _,q2.far (by simp;omega) _,qR.setCell (by simp;omega) _,aG hgf (.inr (by simp;omega)) _⟩
     ·rw [iK];simp only [aH,Tm.size];rw [Nat.succ_mul];omega
     ·rw [Nat.succ_mul];omega
    case measure=>simp [intOf];omega
   ·have hje:(j:Int)=aK x:=by omega
    obtain ⟨Ar,cr,rfl,hfr⟩:=hpt.fresh;obtain ⟨c0,c1,c2⟩:=hB3.three;obtain ⟨z0,z1,z2,e0,e1,e2⟩:=bW hZr;have hw0:w.heap.size<wr.heap.size:=hZr.lt;have hne:r≠w.heap.size:=by omega
    have hj4:j≤4:=by have:=fN x;omega
    have hfin:Hid (aH ts+1≤SD (d+1)∧p'≤p+KD (d+1)):=⟨by rw [SD];have:=Nat.mul_le_mul_right (SD d) hj4;omega,by rw [KD];have:=Nat.mul_le_mul_right (KD d) hj4;omega⟩;go_wp2_with (go_at_call 64;refine (dF _ _).mono ?_;rintro e w9 ⟨rfl,rfl⟩)
    refine bodyPost_ret (v:=.agg (Ro x nn Ar ts.length cr)) (by simp [results,results54,go_sem,z0,z1,z2]) rfl ⟨x,nn,ts,Ar,cr,p',rfl,by have:=htl.out;omega,hfin.out.1,(by rw [aIc hd,sN,h3s.out,Bool.and_true];exact decide_eq_true (by first|omega|(simp only [List.mem_cons,List.not_mem_nil,or_false] at hn;omega))),hfin.out.2,?_,?_,?_⟩
    ·exact (mU hfr).mono (by omega)
    ·exact ((hRr.setCell (by simp;omega) _).setCell (by simp;omega) _).setCell (by simp;omega) _
    ·exact aG (aG (aG hgr (.inr (by simp)) _) (.inr (by simp)) _) (.inr (by simp)) _
 ·refine aN ?_;intro wz hwz;have hB6:Blk wz w1.heap.size (Ro x 0 none 0 0):=by rw [hwz];exact aC _ _ _ rfl
  have hZ:Blk wz w.heap.size Zr:=by rw [hwz];exact hZ1.alloc _
  have hRz:Rdr B wz r (p+1):=by rw [hwz];exact hr1.alloc (by omega) _
  have hgz:w.grownBy wz (some r):=by rw [hwz];exact aM g1 _
  have hs6:w1.heap.size<wz.heap.size:=hB6.lt;clear hwz;go_loopw [7] (fun i wr=>∃(j p':Nat) (ts:List Tm) (v:Value),(j:Int)≤aK x∧i = .int .i64 j∧ts.length=j∧aH ts≤j*SD d∧ts.all (sN d)=true∧p'≤p+3+j*KD d∧Part (w1.heap.size+1) wr v ts∧Blk wr w1.heap.size #[.int .i64 x,.int .i64 0,v]∧Blk wr w.heap.size Zr∧Rdr B wr r p'∧w.grownBy wr (some r)) (fun i _=>(aK x - intOf i).toNat)
  case atStart=>exact ⟨0,_,[],_,by omega,rfl,rfl,by simp [aH],rfl,by omega,Part.nil,hB6,hZ,hRz,hgz⟩
  case round=>
   obtain ⟨j,p',ts,v,hj,rfl,htl0,hts,h3s0,hp',hpt,hB3,hZr,hRr,hgr⟩:=hrel;have h3s:=aD h3s0;clear h3s0;have htl:=aD htl0;clear htl0;by_cases hlt:(j:Int)<aK x
   ·have hun:=aD hlt;have hj5:j≤4:=by have:=fN x;omega
    have hB3l:=hB3.lt;have c2:=hB3.at_ (i:=2) rfl;go_wp2_with (go_at_call 64;refine (dF _ _).mono ?_;rintro e w9 ⟨rfl,rfl⟩)
    have x2:=hB3.ruleG (g:=r) (by omega) (i:=2) rfl;have hsr:=hgr.size;refine bK (fun w'=>wr.grownBy w' (some r)) [0,1,2,3,4] [5,6] [7,8,9] [_,_,_,_,_] [_,_] [_,_,_] (by kernel_rfl) (by kernel_rfl) rfl rfl rfl (fun _ _ d _ _ h=>by cases d<;>exact h) (dR (iM _ _)) ?_;refine bV (aD ?_);refine bF ?_;go_wp2_with (go_at_call 54;(with_reducible refine (ihx B r p' _ (by have:=Nat.mul_le_mul_right (KD d) (show j≤3 by have:=fN x;omega);omega) (by simp;omega) hRr.drew).mono ?_);rintro e wq ⟨kq,nq,ksq,Aq,cq,pq,rfl,hlq,hsq,h3q,hqq,hfq,hRq,hgq⟩)
    have hxq:wr.grownBy wq (some r):=bE (dR (iM _ _)) hgq;have hwq:wr.heap.size≤wq.heap.size:=hxq.size;refine aP hxq (bF ?_);go_wp2_with fail
    refine aP (aM hxq _) (cZ ?_);refine fW (B:=w1.heap.size+1) (m:=j) hpt.drew (fun b h1 h2=>hgq.block b h2 (by simp;omega)) hwq (by simp;omega) hfq hlq htl.out (by have:=fN x;omega) rfl (.tmp 32) (.tmp 37) rfl rfl rfl ?_;intro A2 c2' w2 hp2 hb2 hg2;have q3:Blk w2 w1.heap.size #[.int .i64 x,.int .i64 0,v]:=(hB3.grown hxq (by simp;omega)).below hb2 (by omega);have q2:Blk w2 w.heap.size Zr:=(hZr.grown hxq (by simp;omega)).below hb2 (by omega);have qR:=hRq.below hb2 (by omega);have d2:w2.cell? ⟨w1.heap.size,2,none⟩=some v:=q3.at_ rfl;have z3:=q3.frozen 2;have hgf:w.grownBy w2 (some r):=oT (bE hgr hxq) hb2 (by omega);clear x2 c2;go_wp2_with fail
    go_roundw
    case rel=>
     refine ⟨j+1,pq,ts++[.mk kq nq ksq],_,by omega,by go_num,by simp [htl.out],?_,(by rw [List.all_append,h3s.out,List.all_cons,h3q];rfl),?_,hp2.setCell (by simp) _,q3.set_ 2 _,q2.far (by simp;omega) _,qR.setCell (by simp;omega) _,aG hgf (.inr (by simp;omega)) _⟩
     ·rw [iK];simp only [aH,Tm.size];rw [Nat.succ_mul];omega
     ·rw [Nat.succ_mul];omega
    case measure=>simp [intOf];omega
   ·have hje:(j:Int)=aK x:=by omega
    obtain ⟨Ar,cr,rfl,hfr⟩:=hpt.fresh;obtain ⟨c0,c1,c2⟩:=hB3.three;obtain ⟨z0,z1,z2,e0,e1,e2⟩:=bW hZr;have hw0:w.heap.size<wr.heap.size:=hZr.lt;have hne:r≠w.heap.size:=by omega
    have hj4:j≤4:=by have:=fN x;omega
    have hfin:Hid (aH ts+1≤SD (d+1)∧p'≤p+KD (d+1)):=⟨by rw [SD];have:=Nat.mul_le_mul_right (SD d) hj4;omega,by rw [KD];have:=Nat.mul_le_mul_right (KD d) hj4;omega⟩;go_wp2_with (go_at_call 64;refine (dF _ _).mono ?_;rintro e w9 ⟨rfl,rfl⟩)
    refine bodyPost_ret (v:=.agg (Ro x 0 Ar ts.length cr)) (by simp [results,results54,go_sem,z0,z1,z2]) rfl ⟨x,0,ts,Ar,cr,p',rfl,by have:=htl.out;omega,hfin.out.1,(by rw [aIc hd,sN,h3s.out,Bool.and_true];exact decide_eq_true (by first|omega|(simp only [List.mem_cons,List.not_mem_nil,or_false] at hn;omega))),hfin.out.2,?_,?_,?_⟩
    ·exact (mU hfr).mono (by omega)
    ·exact ((hRr.setCell (by simp;omega) _).setCell (by simp;omega) _).setCell (by simp;omega) _
    ·exact aG (aG (aG hgr (.inr (by simp)) _) (.inr (by simp)) _) (.inr (by simp)) _
theorem aOi (d:Nat):aBz d:=by
 induction d with
 | zero=>exact aEq 0 (by omega)
 | succ d ih=>
  by_cases h:d=0
  ·subst h;exact aEq 1 (by omega)
  ·exact aKt d (by omega) ih
theorem own_rdp {w:World}{P:Nat→Prop}:(∀t xs fp,OwT w t xs fp→(∀b,b∈fp→P b)→∀g off i,P g→(∀j u,xs[j]?=some u→w.cell? ⟨g,off+i*3+j,none⟩=some u)→RdPC P w g off i t)∧
  (∀ ts xs fp, OwX w ts xs fp → (∀ b, b ∈ fp → P b) → ∀ g off i, P g → (∀ j u, xs[j]? = some u → w.cell? ⟨g, off + i * 3 + j, none⟩ = some u) → RdP P w (some ⟨g, off, none⟩) i ts) := by
 refine bO (fun k n ks ih xs fp h hP g off i hg hc=>?_) (fun xs fp h hP g off i hg hc=>RdP.nil) (fun t ts h1 h2 xs fp h hP g off i hg hc=>?_)
 ·obtain ⟨A,c,rfl,hl,h⟩:=OwT.iff.1 h;refine RdPC.iff.2 ⟨hg,hc 0 _ rfl,hc 1 _ rfl,A,c,hc 2 _ rfl,hl,?_⟩;rcases h with ⟨rfl,rfl⟩|⟨g',cur,e,f,hne,rfl,hg',rfl,hx⟩
  ·exact RdP.nil
  ·refine ih _ _ hx (fun b hb=>hP b (by simp [hb])) g' 0 0 (hP g' (by simp)) fun j u hu=>?_
   have e0:0+0*3+j=j:=by omega
   rw [e0,cell_of_row w g' j cur e (0,0) hg'];rw [List.getElem?_take] at hu;split at hu
   ·simpa using hu
   ·cases hu
 ·obtain ⟨x1,x2,f1,f2,rfl,rfl,ht,hx⟩:=OwX.cons_iff.1 h;have hl:=ht.length;refine RdP.cons_iff.2 ⟨⟨g,off,rfl,h1 _ _ ht (fun b hb=>hP b (by simp [hb])) g off i hg fun j u hu=>hc j u ?_⟩,h2 _ _ hx (fun b hb=>hP b (by simp [hb])) g off (i+1) hg fun j u hu=>?_⟩
  ·rw [List.getElem?_append_left (by have:=(List.getElem?_eq_some_iff.1 hu).1;omega)];exact hu
  ·have:=hc (3+j) u (by rw [List.getElem?_append_right (by omega),hl];simpa using hu);rw [show off+(i+1)*3+j=off+i*3+(3+j) from by omega];exact this
theorem Fresh.rdp {B:Nat}{w:World}{A:Option Addr}{ks:List Tm}(h:Fresh B w A ks):RdP (fun b=>B≤b∧b<w.heap.size) w A 0 ks:=by
 obtain ⟨fp,h,hn,hge⟩:=h;have hlt:=h.lt;rcases h with ⟨rfl,rfl⟩|⟨g,cur,e,f,hne,rfl,hg,rfl,hx⟩
 ·exact RdP.nil
 ·refine own_rdp.2 _ _ _ hx (fun b hb=>⟨hge b (by simp [hb]),hlt b (by simp [hb])⟩) g 0 0 ⟨hge g (by simp),hlt g (by simp)⟩ fun j u hu=>?_
  have e0:0+0*3+j=j:=by omega
  rw [e0,cell_of_row w g j cur e (0,0) hg];rw [List.getElem?_take] at hu;split at hu
  ·simpa using hu
  ·cases hu
theorem kd4 {d:Nat}(h:d≤4):KD d≤1023∧SD d≤341:=by
 have:d=0∨d=1∨d=2∨d=3∨d=4:=by omega
 rcases this with rfl|rfl|rfl|rfl|rfl<;>decide
theorem aJc {x:Int}(h:x∈([3,4,2,3,1]:List Int)):∃d:Nat,x=d∧d≤4:=by
 simp only [List.mem_cons,List.not_mem_nil,or_false] at h
 rcases h with rfl|rfl|rfl|rfl|rfl
 ·exact ⟨3,rfl,by omega⟩
 ·exact ⟨4,rfl,by omega⟩
 ·exact ⟨2,rfl,by omega⟩
 ·exact ⟨3,rfl,by omega⟩
 ·exact ⟨1,rfl,by omega⟩
theorem aPw (B r p:Nat)(w:World)(hp:p≤900000000)(hB:B≤w.heap.size)(hr:Rdr B w r p):Calls prog 35 #[.pointer (some ⟨r,0,none⟩)] w (aHb B w r p 1024 341 4):=by
 have hrl:=hr.lt;go_enter func35,ntmps35;go_wp2_with (first
  | (go_at_call 23;refine (bB _ _ _).mono ?_;rintro e w5 ⟨rfl,hb5⟩;have tok:True:=trivial;replace hZ:=hZ.keep hb5;have d0:=hZ.at_ (i:=0) rfl;have d1:=hZ.at_ (i:=1) rfl;have d2:=hZ.at_ (i:=2) rfl;obtain ⟨e0,e1,e2⟩:=lF hZ)
  | (go_at_call 21;refine (aU k n ks A c _ (by omega) (hf.rd.alloc _)).mono ?_;rintro e w4 ⟨rfl,hb4⟩;have hX:=(aC w2 25 (Ro k n A ks.length c) rfl).keep hb4;replace hZ:=(hZ.alloc _).keep hb4;have x0:=hX.at_ (i:=0) rfl;have x1:=hX.at_ (i:=1) rfl;have x2:=hX.at_ (i:=2) rfl;have d0:=hZ.at_ (i:=0) rfl;have d1:=hZ.at_ (i:=1) rfl;have d2:=hZ.at_ (i:=2) rfl;obtain ⟨e0,e1,e2⟩:=lF hZ;have lx:=hX.lt;have lz:=hZ.lt)
  | (go_at_call 54;refine (aOi d B r (p+1) _ (by omega) (by omega) hr1).mono ?_;rintro e w2 ⟨k,n,ks,A,c,p2,rfl,hl2,hs2,h32,hp2,hf,hr2,hg2⟩;replace hZ:=hZ.grown hg2 (by simp;omega);have lz2:=hZ.lt;have g2:=bE g1 hg2;have s2:=hg2.size)
  | (go_at_call 13;refine (jK [3,4,2,3,1] B r p (w.heap.size+1) _ (by decide) (by decide) (by omega) (by simp;omega) ((hr.alloc (by omega) _).alloc (by simp;omega) _) (aC _ 3 _ (by simp)) (by omega)).mono ?_;rintro e w1 ⟨x,hx,rfl,hr1,hg1⟩;obtain ⟨d,rfl,hd⟩:=aJc hx;have hkd:=kd4 hd;have hZ:Blk w1 w.heap.size Zr:=((aC w 25 Zr rfl).alloc _).grown hg1 (by simp;omega);have g1:w.grownBy w1 (some r):=bE (aM (aM (iM _ _) _) _) hg1;have s1:=g1.size;have lz1:=hZ.lt))
 ·have r4:=(hr2.alloc (by omega) (.cells (Ro k n A ks.length c) 25)).below hb4 (by simp;omega);have g4:=bI (aM g2 (.cells (Ro k n A ks.length c) 25)) hb4;have f4:=(hf.alloc (.cells (Ro k n A ks.length c) 25)).below hb4;refine bodyPost_ret (v:=.agg (Ro k n A ks.length c)) (by simp [results,results35,go_sem,d0,d1,d2]) rfl ⟨k,n,ks,A,c,p2,rfl,hl2,by omega,aGs (aYv hd) h32,by omega,?_,?_,?_⟩
  ·exact (((f4.setCell (by simp;omega) _).setCell (by simp;omega) _).setCell (by simp;omega) _).mono (by omega)
  ·exact ((r4.setCell (by simp;omega) _).setCell (by simp;omega) _).setCell (by simp;omega) _
  ·exact aG (aG (aG g4 (.inr (by simp)) _) (.inr (by simp)) _) (.inr (by simp)) _
 ·have r4:=((hr2.alloc (by omega) (.cells (Ro k n A ks.length c) 25)).below hb4 (by simp;omega)).below hb5 (by have:=hb4.size;simp at this;omega);have g4:=bI (bI (aM g2 (.cells (Ro k n A ks.length c) 25)) hb4) hb5;refine bodyPost_ret (v:=.agg (Ro 7 0 none 0 0)) (by simp [results,results35,go_sem,d0,d1,d2]) rfl ⟨7,0,[],none,0,p2,rfl,by simp,by simp [aH],rfl,by omega,Fresh.nil,?_,?_⟩
  ·exact ((r4.setCell (by simp;omega) _).setCell (by simp;omega) _).setCell (by simp;omega) _
  ·exact aG (aG (aG g4 (.inr (by simp)) _) (.inr (by simp)) _) (.inr (by simp)) _
def vb {α:Type}(t:Tm)(f:Option (Rs α)):Option (Rs α):=if aE t=true then f else none
theorem gM {α:Type}{t:Tm}{f:Option (Rs α)}{r:Rs α}(h:vb t f=some r):aE t=true∧f=some r:=by
 unfold vb at h
 split at h
 ·exact ⟨‹_›,h⟩
 ·cases h
theorem mR {t:Tm}{r:Rs Tm}(h:eC t=some r):(aE t=true∧r = .ok t)∨(aE t=false∧r = .no false):=by
 unfold eC at h
 split at h
 ·exact .inl ⟨‹_›,(Option.some.inj h).symm⟩
 ·exact .inr ⟨Bool.eq_false_iff.2 ‹_›,(Option.some.inj h).symm⟩
def oW (o:Option (Rs Tm)):Option (Rs Int):=bd o fun s=>bd (some (lU s)) aGm
def oA (o:Option (Rs Tm))(kind:Int):Option (Rs Tm):=bd o fun s=>bd (some (lU s)) (gU kind)
def iE (o:Option (Rs Tm))(want:Tm):Option (Rs Unit):=bd o fun s=>some (smR s want)
def faV (o:Option (Rs Tm))(t:Tm):Option (Rs Unit):=bd (oA o 3) fun f=>bd (some (smR (aI f.ks 0) t)) fun _=>bd (some (lU (aI f.ks 1))) aFt
def mM (rec_:Tm→Option (Rs Tm))(ctx:List Tm)(t:Tm)(ty:Nat→Option (Rs Tm)):Option (Rs Tm):=
 if t.k=1 then (if (ctx.length:Int)≤t.n then some (.no true) else eC (eZ (t.n+1) 0 (ctx.getD (ctx.length - 1 - t.n.toNat) default)))
 else if t.k=2 then (if t.n=3 then some (.no true) else some (.ok (.mk 2 (t.n+1) [])))
 else if t.k=6 then some (.ok (.mk 2 0 []))
 else if t.k=7 then some (.ok nT)
 else if t.k=8 then bd (iE (ty 0) nT) fun _=>some (.ok nT)
 else if t.k=3∨t.k=13 then bd (oW (ty 0)) fun i=>bd (oW (ty 1)) fun j=>some (.ok (.mk 2 (if j<i then i else j) []))
 else if t.k=4 then bd (oW (ty 0)) fun _=>bd (ty 1) fun u=>bd (rec_ (.mk 3 0 [aI t.ks 0,u])) fun _=>eC (.mk 3 0 [aI t.ks 0,u])
 else if t.k=5 then bd (oA (ty 0) 3) fun h=>bd (iE (ty 1) (aI h.ks 0)) fun _=>eC (dC (aI t.ks 1) 0 0 (aI h.ks 1))
 else if t.k=9 then bd (faV (ty 0) nT) fun _=>vb (kB (aI t.ks 0) (.mk 7 0 [])) (bd (iE (ty 1) (kB (aI t.ks 0) (.mk 7 0 []))) fun _=>vb (kP (aI t.ks 0)) (bd (iE (ty 2) (kP (aI t.ks 0))) fun _=>bd (iE (ty 3) nT) fun _=>eC (kB (aI t.ks 0) (aI t.ks 3))))
 else if t.k=10 then bd (oW (ty 0)) fun i=>bd (iE (ty 1) (aI t.ks 0)) fun _=>bd (iE (ty 2) (aI t.ks 0)) fun _=>some (.ok (.mk 2 i []))
 else if t.k=11 then bd (ty 0) fun s=>bd (oW (rec_ s)) fun _=>eC (.mk 10 0 [s,aI t.ks 0,aI t.ks 0])
 else if t.k=12 then bd (oA (ty 1) 10) fun e=>bd (faV (ty 0) (aI e.ks 0)) fun _=>vb (kB (aI t.ks 0) (aI e.ks 1)) (bd (iE (ty 2) (kB (aI t.ks 0) (aI e.ks 1))) fun _=>eC (kB (aI t.ks 0) (aI e.ks 2)))
 else if t.k=14 then bd (oW (ty 0)) fun _=>bd (some (lU (aI t.ks 0))) fun h=>bd (gU 13 h) fun h=>bd (iE (ty 1) (aI h.ks 0)) fun _=>vb (dC (aI t.ks 1) 0 0 (aI h.ks 1)) (bd (iE (ty 2) (dC (aI t.ks 1) 0 0 (aI h.ks 1))) fun _=>some (.ok (aI t.ks 0)))
 else if t.k=15 then bd (oA (ty 0) 13) fun h=>some (.ok (aI h.ks 0))
 else bd (oA (ty 0) 13) fun h=>eC (dC (.mk 15 0 [aI t.ks 0]) 0 0 (aI h.ks 1))
def gL (rec_:List Tm→Tm→Option (Rs Tm))(ctx:List Tm)(t:Tm)(i:Nat):Option (Rs Tm):=
 if aR t.k i=0 then rec_ ctx (aI t.ks i) else rec_ (ctx++[aI t.ks 0]) (aI t.ks i)
def nof {α:Type}(o:Option (Rs α)):Option (Rs Tm):=match o with|some (.ok _)=>some (.no false)|some (.no false)=>some (.no false)|_=>none
def kV (f:List Tm→Tm→Option (Rs Tm))(ctx:List Tm)(t:Tm):Option (Rs Tm):=
 if aE t=true then f ctx t else nof (oW (f (ctx++[aI t.ks 0]) (aI t.ks 1)))
theorem nI {f:List Tm→Tm→Option (Rs Tm)}{ctx:List Tm}{t:Tm}(h:aE t=true):kV f ctx t=f ctx t:=if_pos h
theorem aAw {α:Type}{o:Option (Rs α)}{r:Rs Tm}(h:nof o=some r):r = .no false∧((∃a,o=some (.ok a))∨o=some (.no false)):=by
 match o,h with
 | some (.ok a),h=>exact ⟨(Option.some.inj h).symm,.inl ⟨a,rfl⟩⟩
 | some (.no false),h=>exact ⟨(Option.some.inj h).symm,.inr rfl⟩
 | some (.no true),h=>cases h
 | none,h=>cases h
theorem wD {f:List Tm→Tm→Option (Rs Tm)}{ctx:List Tm}{t:Tm}{r:Rs Tm}(h:kV f ctx t=some r)(hv:aE t=false):nof (oW (f (ctx++[aI t.ks 0]) (aI t.ks 1)))=some r:=by
 rw [kV,if_neg (by rw [hv];decide)] at h;exact h
theorem sK {f:List Tm→Tm→Option (Rs Tm)}{ctx:List Tm}{t:Tm}{r:Rs Tm}(h:kV f ctx t=some r)(hv:aE t=false):r = .no false:=(aAw (wD h hv)).1
def bL:Nat→List Tm→Tm→Option (Rs Tm)
 | 0,_,_=>none
 | N+1,ctx,t=>if aE t=true∧ctx.length≤20 then mM (kV (bL N) ctx) ctx t (gL (bL N) ctx t) else if aE t=true then some (.no false) else none
def KE (W:World)(z:Nat)(w':World):Prop:=W.heap.size≤w'.heap.size∧∀b,b<W.heap.size→b≠z→w'.heap[b]?=W.heap[b]?
theorem KE.of {W w':World}(z:Nat)(h:Below W.heap.size W w'):KE W z w':=⟨h.size,fun b hb _=>h.block b hb⟩
theorem KE.set {W w':World}{z:Nat}(h:KE W z w')(o:Nat)(v:Value):KE W z (w'.setCell ⟨z,o,none⟩ v):=⟨by simp;exact h.1,fun b hb hz=>(oM _ ⟨z,o,none⟩ _ b hz).trans (h.2 b hb hz)⟩
theorem dZ {W:World}{z b o:Nat}{v:Value}(hc:W.cell? ⟨b,o,none⟩=some v)(hz:b≠z):∀w',KE W z w'→w'.cell? ⟨b,o,none⟩=some v:=fun w' h=>by
 have hb:=kY _ _ hc;rw [← hc];simp only [World.cell?,h.2 b hb hz]
theorem rk3 {v w:World}{z b p q r:Nat}{x y u:Value}(k:Below v.heap.size v w)(e:b≠z)(h1:v.cell? ⟨b,p,none⟩=some x)(h2:v.cell? ⟨b,q,none⟩=some y)(h3:v.cell? ⟨b,r,none⟩=some u):(∀t,KE w z t→t.cell? ⟨b,p,none⟩=some x)∧(∀t,KE w z t→t.cell? ⟨b,q,none⟩=some y)∧(∀t,KE w z t→t.cell? ⟨b,r,none⟩=some u):=by
 obtain ⟨a1,a2,a3⟩:=xY k h1 h2 h3;exact ⟨dZ a1 e,dZ a2 e,dZ a3 e⟩
theorem rkB {w:World}{z b:Nat}{x y u:Value}(h:Blk w b #[x,y,u])(e:b≠z):(∀t,KE w z t→t.cell? ⟨b,0,none⟩=some x)∧(∀t,KE w z t→t.cell? ⟨b,1,none⟩=some y)∧(∀t,KE w z t→t.cell? ⟨b,2,none⟩=some u):=⟨dZ h.three.1 e,dZ h.three.2.1 e,dZ h.three.2.2 e⟩
section
variable {P:Program}{ops:Array Oper}{Q:Exit→Act→World→Prop}
theorem gBk {id:Nat}{a:Act}(W:World)(z:Nat)(B T:List Nat)(n f:Nat){lT:List Oper}
  (h : ∀ q0, Below W.heap.size W q0 → KE W z q0 → cO P ops (KE W z) (fun a' => gC P ops Q (KE W z) B f (stp T (Array.replicate n false)) a' q0) lT a)
  (hm : P.follows .mixedOrders = true := by kernel_rfl) (hs : ops.size = n := by rfl) (hF : n = T.length + f := by rfl) (hsel : Region.noSelect ops = true := by kernel_rfl)
  (hl : oB ops T (Array.replicate n false) = some (stp T (Array.replicate n false)) := by kernel_rfl) (hpre : (B.all fun j => T.all fun i => pre ops ops.size j i) = true := by kernel_rfl) (hT : sQ ops T = lT := by exact rfl)
  (hQ : ∀ c (a : Act) d v w, Q (.panic c) (a.put d v) w → Q (.panic c) a w := by exact fun _ _ d _ _ h => by cases d <;> exact h) : (Code.region id ops true).wp P Q a W :=
 aDh _ B n hm hs (aBr T (KE.of z (fG _ _).drew) hF hsel hl hpre hT hQ (h W.drew (fG _ _).drew (KE.of z (fG _ _).drew)))
theorem xU {K:Act→World→Prop}{W q0 q1:World}{a:Act}{z:Nat}(b:Below W.heap.size W q0)(hb:Below q0.heap.size q0 q1)(h:Below W.heap.size W q1→q0.heap.size≤q1.heap.size→KE W z q1→K a q1):rJ (KE W z) K Q .normal a q1:=
 aP (KE.of z (b.trans (hb.mono b.size))) (h (b.trans (hb.mono b.size)) hb.size (KE.of z (b.trans (hb.mono b.size))))
end
def aVk (p:Nat→Prop)(w:World)(k n:Int)(ks:List Tm)(e:Ending)(w':World):Prop:=
 ∃A c,e = .returned (.agg (Ro k n A ks.length c))∧ks.length≤9223372036854775807∧RdP (fun b=>p b∨w.heap.size≤b) w' A 0 ks∧Bw w w'
theorem aAd {p:Nat→Prop}(k n:Int)(ks:List Tm)(A:Option Addr)(c:Nat)(i:Nat)(ku nu:Int)(us:List Tm)(U:Option Addr)(cu:Nat)(L:List Tm)(hL:L.length=ks.length)(hi:∀(j:Nat) (t:Tm),ks[j]?=some t→L[j]?=some (if j=i then .mk ku nu us else t))(w:World)(hM:aH ks≤1000000)(hlu:us.length≤9223372036854775807)(hr:Rd w A 0 ks)(hru:RdP p w U 0 us)(hpw:∀b,p b→b<w.heap.size) :
  Calls prog 93 #[.agg (Ro k n A ks.length c),.int .i64 i,.agg (Ro ku nu U us.length cu)] w (aVk p w k n L):=by
 have hlen:=aQ ks;have hL':=aD hL;have hi':=aD hi;clear hi hL;go_enter func93,ntmps93;go_wp2_with fail
 go_loopw [8] (fun jv wr=>∃(j:Nat) (v:Value),j≤ks.length∧jv = .int .i64 j∧PartR p (w.heap.size+4) wr v (L.take j)∧Blk wr (w.heap.size+1+1+1) #[.int .i64 k,.int .i64 n,v]∧Blk wr (w.heap.size+1+1) Zr∧Blk wr (w.heap.size+1) (Ro ku nu U us.length cu)∧Blk wr w.heap.size (Ro k n A ks.length c)∧Bw w wr)
  (fun jv _ => ks.length - (intOf jv).toNat)
 case atStart=>exact ⟨0,_,Nat.zero_le _,rfl,PartR.nil,aC _ _ _ (by simp),(aC _ _ _ (by simp)).alloc _,((aC _ _ _ (by simp)).alloc _).alloc _,(((aC _ _ _ rfl).alloc _).alloc _).alloc _,bw4⟩
 case round=>
  obtain ⟨j,v,hj,rfl,hp,hB3,hB2,hBu,hB1,hb⟩:=hrel;have c12:=hB1.at_ (i:=2) rfl;have hz:=hB3.lt;have sr:=hb.size;by_cases hlt:j<ks.length
  ·have hlL:j<L.length:=by have:=hL'.out;omega
   have htk:=aD (uQ hlL);have hte:=aD (show L[j]=if j=i then .mk ku nu us else ks[j] from by have:=hi'.out j ks[j] (oE hlt);rw [oE hlL] at this;injection this);have htl:(L.take j).length=j:=by rw [List.length_take];omega
   by_cases hji:j=i
   ·have q0:((j:Int)==(i:Int))=true:=by rw [hji];simp
    have hte2:=aD (hte.out.trans (if_pos hji));clear hji;obtain ⟨u0,u1,u2⟩:=hBu.three;have c32:=hB3.at_ (i:=2) rfl;have z3:=hB3.frozen 2;go_wp2_with (at_builtin;refine mD (lo:=p) (B:=w.heap.size+4) (m:=j) (k:=ku) (n:=nu) (ks:=us) (A:=U) (c:=cu) (q:=p) hp (by omega) (hru.below hb) (fun b hb=>⟨.inl hb,by have:=hpw b hb;omega,fun e=>by obtain ⟨xs,h1,_⟩:=hp;have:=(h1.lt b e).1;have:=hpw b hb;omega⟩) hlu htl (by omega) rfl _ _ rfl rfl (by show Value.slice (some ⟨wr.heap.size,0,none⟩) 1 1=_;simp) ?_;intro A2 c2 w2 hp2 hb2 hg2;have q3:Blk w2 (w.heap.size+1+1+1) #[.int .i64 k,.int .i64 n,v]:=hB3.below hb2 (by omega);have q2:Blk w2 (w.heap.size+1+1) Zr:=hB2.below hb2 (by omega);have qu:Blk w2 (w.heap.size+1) (Ro ku nu U us.length cu):=hBu.below hb2 (by omega);have q1':Blk w2 w.heap.size (Ro k n A ks.length c):=hB1.below hb2 (by omega);have c3:w2.cell? ⟨w.heap.size+1+1+1,2,none⟩=some v:=q3.at_ rfl;clear z3;have z3:=q3.frozen 2;have hbf:Bw w w2:=bQ hb hb2)
    go_roundw
    case rel=>exact ⟨j+1,_,by omega,by go_num,by rw [htk.out,hte2.out];exact hp2.setCell ⟨fun h=>by have h1:=hpw _ h;simp at h1;omega,by simp⟩ _,q3.set_ 2 _,q2.far (by simp) _,qu.far (by simp) _,q1'.far (by simp;omega) _,hbf.setCell (by simp;omega) _⟩
    case measure=>simp [intOf];omega
   ·have q0:((j:Int)==(i:Int))=false:=beq_eq_false_iff_ne.2 (by omega);have hte2:=aD (hte.out.trans (if_neg hji));clear hji;obtain ⟨b,off,k',n',ks',A',c',rfl,hkj,hc1,hc2,hc3,hl',hr'⟩:=(hr.below hb).at_ hlt;have hsz:=cM (iS hlt);rw [hkj] at hsz;simp only [Tm.size] at hsz
    have H3:=aD hkj;clear hkj;go_wp2_with fail
    have x2:=hB3.rule (i:=2) rfl;have b2:=hB1.rule (i:=2) rfl;obtain ⟨y0,y1,y2⟩:=rN hc1 hc2 hc3;refine bK (fun w'=>Bw wr w') [0,1,2,3,4,5,6] [7,8] [9,10,11] [_,_,_,_,_,_,_] [_,_] [_,_,_] (by kernel_rfl) (by kernel_rfl) rfl rfl rfl (fun _ _ d _ _ h=>by cases d<;>exact h) (fG _ _).drew ?_;refine bV (aD ?_);refine bF ?_;go_wp2_with (go_at_call 36;refine (eM _ k' n' ks' A' c' _ (qG _) (by omega) hr'.drew).mono ?_;rintro e w1 ⟨A1,c1,rfl,hl1,hf1,hb1⟩)
    have hx1:Bw wr w1:=(fG _ _).drew.trans hb1;have hpx:=hp.below hx1;refine aP hx1 (bF ?_);go_wp2_with fail
    refine aP (hx1.alloc hx1.size _) (cZ ?_);have hf1:Fresh wr.heap.size w1 A1 ks':=hf1;refine mD (lo:=p) (B:=w.heap.size+4) (m:=j) (q:=fun b=>wr.heap.size≤b∧b<w1.heap.size) hpx (by have:=hx1.size;omega) (Fresh.rdp hf1) (fun b hb=>⟨.inr (by omega),hb.2,fun e=>by obtain ⟨xs,h1,_⟩:=hp;have:=(h1.lt b e).2;omega⟩) hl1 htl (by omega) rfl (.tmp 31) (.tmp 38) rfl rfl rfl ?_;intro A2 c2 w2 hp2 hb2 hg2;have q3:Blk w2 (w.heap.size+1+1+1) #[.int .i64 k,.int .i64 n,v]:=(hB3.below hx1 (by omega)).below hb2 (by omega);have q2:Blk w2 (w.heap.size+1+1) Zr:=(hB2.below hx1 (by omega)).below hb2 (by omega);have qu:Blk w2 (w.heap.size+1) (Ro ku nu U us.length cu):=(hBu.below hx1 (by omega)).below hb2 (by omega);have q1':Blk w2 w.heap.size (Ro k n (some ⟨b,off,none⟩) ks.length c):=(hB1.below hx1 (by omega)).below hb2 (by omega);have c3:w2.cell? ⟨w.heap.size+1+1+1,2,none⟩=some v:=q3.at_ rfl;have z3:=q3.frozen 2;have hbf:Bw w w2:=(hb.trans (hx1.mono (by omega))).trans (hb2.mono (by omega));clear x2 y0 y1 y2 b2;go_wp2_with fail
    go_roundw
    case rel=>exact ⟨j+1,_,by omega,by go_num,by rw [htk.out,hte2.out,H3.out];exact hp2.setCell ⟨fun h=>by have h1:=hpw _ h;simp at h1;omega,by simp⟩ _,q3.set_ 2 _,q2.far (by simp) _,qu.far (by simp) _,q1'.far (by simp;omega) _,hbf.setCell (by simp;omega) _⟩
    case measure=>simp [intOf];omega
  ·have hjl:j=L.length:=by have:=hL'.out;omega
   have hjk:j=ks.length:=by omega
   rw [hjl,List.take_length] at hp;subst hjk;obtain ⟨Ar,cr,rfl,hfr⟩:=hp.rd;obtain ⟨c0,c1,c2⟩:=hB3.three;obtain ⟨d0,d1,d2,e0,e1,e2⟩:=bW hB2;clear hjl;have hzz:¬(p (w.heap.size+1+1)∨w.heap.size+4≤w.heap.size+1+1):=fun h=>h.elim (fun h=>by have:=hpw _ h;omega) (fun h=>by omega)
   go_wp2_with fail
   refine bodyPost_ret (v:=.agg (Ro k n Ar L.length cr)) (by simp [results,results93,go_sem,d0,d1,d2]) rfl ⟨Ar,cr,rfl,by have:=hL'.out;omega,?_,?_⟩
   ·exact (((hfr.setCell hzz _).setCell hzz _).setCell hzz _).mono (fun b hb=>hb.imp id (fun h=>by omega))
   ·exact bT hb
def aGj (v:Tm)(m:Nat)(w:World)(e:Ending)(w':World):Prop:=∃k n ks,v = .mk k n ks∧aVk (fun _=>False) w k n ks e w'∧aH ks+1≤m
theorem wN (n:Int)(t0 t1 t2 t3:Tm)(A:Option Addr)(c:Nat)(w:World)(hM:aH [t0,t1,t2,t3]≤400)(hrd:cH 9 [t0,t1,t2,t3]=2)(hr:Rd w A 0 [t0,t1,t2,t3]) :
  Calls prog 92 #[.agg #[.int .i64 9,.int .i64 n,.slice A ([t0,t1,t2,t3]:List Tm).length c]] w (aGj t1 190000 w):=by
 have hrd:=aD hrd;obtain ⟨b,off,k1,n1,ks1,A1,c1,hA,hk1,p1,q1,r1,hl1,hr1⟩:=hr.at_ (j:=1) (by simp);have hk1:t1 = .mk k1 n1 ks1:=hk1;subst hk1 hA;simp only [Nat.reduceMul,Nat.zero_mul,Nat.add_zero] at p1 q1 r1
 have hsz:aH ks1≤400:=by simp only [aH,Tm.size] at hM;omega
 go_enter func92,ntmps92;go_wp2_with (first
  | (go_at_call 36;have _t:=tok;refine (eM _ k1 n1 ks1 A1 c1 _ (qG _) (by omega) (hr1.keeps K1)).mono ?_;rintro e w2 ⟨A2,c2,rfl,hl2,hf2,hb2⟩;replace hZ:=hZ.keep hb2;obtain ⟨d0,d1,d2,e0,e1,e2⟩:=bW hZ;replace g1:=g1.trans (hb2.mono g1.size))
  | (go_at_call 91;refine (eF 9 n [t0,.mk k1 n1 ks1,t2,t3] _ c _ (by simp) rfl ((hr.alloc _).alloc _)).mono ?_;rw [hrd.out];rintro e w1 ⟨rfl,hb1⟩;have hB:Blk w1 w.heap.size #[.int .i64 9,.int .i64 n,.slice (some ⟨b,off,none⟩) ([t0,.mk k1 n1 ks1,t2,t3]:List Tm).length c]:=((aC w 25 _ rfl).alloc _).keep hb1;have hZ:=bH hb1;have g1:Bw w w1:=bQ bw2 hb1;have s1:=hZ.lt;have K1:=bU g1;have x2:=hB.at_ (i:=2) rfl;have tok:=trivial;replace p1:=K1 _ _ p1;replace q1:=K1 _ _ q1;replace r1:=K1 _ _ r1))
 refine bodyPost_ret (v:=.agg (Ro k1 n1 A2 ks1.length c2)) (by simp [results,results92,go_sem,d0,d1,d2]) rfl ⟨k1,n1,ks1,rfl,⟨A2,c2,rfl,hl2,?_,?_⟩,by omega⟩
 ·exact (Fresh.rdp (mU hf2)).mono (fun b hb=>.inr (by have h0:w1.drew.heap.size=w1.heap.size:=rfl;have:=hb.1;omega))
 ·exact bT g1
theorem xL (n:Int)(t0 t1 t2:Tm)(A:Option Addr)(c:Nat)(w:World)(hM:aH [t0,t1,t2]≤400)(hrd:cH 12 [t0,t1,t2]=4)(hr:Rd w A 0 [t0,t1,t2]) :
  Calls prog 92 #[.agg #[.int .i64 12,.int .i64 n,.slice A ([t0,t1,t2]:List Tm).length c]] w (aGj t2 190000 w):=by
 have hrd:=aD hrd;obtain ⟨b,off,k1,n1,ks1,A1,c1,hA,hk1,p1,q1,r1,hl1,hr1⟩:=hr.at_ (j:=2) (by simp);have hk1:t2 = .mk k1 n1 ks1:=hk1;subst hk1 hA;simp only [Nat.reduceMul,Nat.zero_mul,Nat.add_zero] at p1 q1 r1
 have hsz:aH ks1≤400:=by simp only [aH,Tm.size] at hM;omega
 go_enter func92,ntmps92;go_wp2_with (first
  | (go_at_call 36;have _t:=tok;refine (eM _ k1 n1 ks1 A1 c1 _ (qG _) (by omega) (hr1.keeps K1)).mono ?_;rintro e w2 ⟨A2,c2,rfl,hl2,hf2,hb2⟩;replace hZ:=hZ.keep hb2;obtain ⟨d0,d1,d2,e0,e1,e2⟩:=bW hZ;replace g1:=g1.trans (hb2.mono g1.size))
  | (go_at_call 91;refine (eF 12 n [t0,t1,.mk k1 n1 ks1] _ c _ (by simp) rfl ((hr.alloc _).alloc _)).mono ?_;rw [hrd.out];rintro e w1 ⟨rfl,hb1⟩;have hB:Blk w1 w.heap.size #[.int .i64 12,.int .i64 n,.slice (some ⟨b,off,none⟩) ([t0,t1,.mk k1 n1 ks1]:List Tm).length c]:=((aC w 25 _ rfl).alloc _).keep hb1;have hZ:=bH hb1;have g1:Bw w w1:=bQ bw2 hb1;have s1:=hZ.lt;have K1:=bU g1;have x2:=hB.at_ (i:=2) rfl;have tok:=trivial;replace p1:=K1 _ _ p1;replace q1:=K1 _ _ q1;replace r1:=K1 _ _ r1))
 refine bodyPost_ret (v:=.agg (Ro k1 n1 A2 ks1.length c2)) (by simp [results,results92,go_sem,d0,d1,d2]) rfl ⟨k1,n1,ks1,rfl,⟨A2,c2,rfl,hl2,?_,?_⟩,by omega⟩
 ·exact (Fresh.rdp (mU hf2)).mono (fun b hb=>.inr (by have h0:w1.drew.heap.size=w1.heap.size:=rfl;have:=hb.1;omega))
 ·exact bT g1
theorem yD (n n0:Int)(s0 s1 s2:Tm)(A:Option Addr)(c:Nat)(w:World)(hM:aH [.mk 14 n0 [s0,s1,s2]]≤400)(hr:Rd w A 0 [.mk 14 n0 [s0,s1,s2]]) :
  Calls prog 92 #[.agg #[.int .i64 15,.int .i64 n,.slice A ([.mk 14 n0 [s0,s1,s2]]:List Tm).length c]] w (aGj s1 190000 w):=by
 have hrd:=aD (show cH 15 [.mk 14 n0 [s0,s1,s2]]=5 from rfl);obtain ⟨b,off,k0',n0',ks0,A0,c0,hA,hk0,p0,q0,r0,hl0,hr0⟩:=hr.at_ (j:=0) (by simp);injection hk0 with h1 h2 h3;subst h1 h2 h3;obtain ⟨b1,off1,k1,n1,ks1,A1,c1,hA0,hk1,p1,q1,r1,hl1,hr1⟩:=hr0.at_ (j:=1) (by simp);have hk1:s1 = .mk k1 n1 ks1:=hk1;subst hk1 hA hA0;simp only [Nat.reduceMul,Nat.zero_mul,Nat.add_zero] at p0 q0 r0 p1 q1 r1
 have hsz:aH ks1≤400:=by simp only [aH,Tm.size] at hM;omega
 go_enter func92,ntmps92;go_wp2_with (first
  | (go_at_call 36;have _t:=tok;refine (eM _ k1 n1 ks1 A1 c1 _ (qG _) (by omega) (hr1.keeps K1)).mono ?_;rintro e w2 ⟨A2,c2,rfl,hl2,hf2,hb2⟩;replace hZ:=hZ.keep hb2;obtain ⟨d0,d1,d2,e0,e1,e2⟩:=bW hZ;replace g1:=g1.trans (hb2.mono g1.size))
  | (go_at_call 91;refine (eF 15 n [.mk 14 n0 [s0,.mk k1 n1 ks1,s2]] _ c _ (by simp) rfl ((hr.alloc _).alloc _)).mono ?_;rw [hrd.out];rintro e w1 ⟨rfl,hb1⟩;have hB:Blk w1 w.heap.size #[.int .i64 15,.int .i64 n,.slice (some ⟨b,off,none⟩) ([.mk 14 n0 [s0,.mk k1 n1 ks1,s2]]:List Tm).length c]:=((aC w 25 _ rfl).alloc _).keep hb1;have hZ:=bH hb1;have g1:Bw w w1:=bQ bw2 hb1;have s1:=hZ.lt;have K1:=bU g1;have x2:=hB.at_ (i:=2) rfl;have tok:=trivial;replace p0:=K1 _ _ p0;replace q0:=K1 _ _ q0;replace r0:=K1 _ _ r0;replace p1:=K1 _ _ p1;replace q1:=K1 _ _ q1;replace r1:=K1 _ _ r1))
 refine bodyPost_ret (v:=.agg (Ro k1 n1 A2 ks1.length c2)) (by simp [results,results92,go_sem,d0,d1,d2]) rfl ⟨k1,n1,ks1,rfl,⟨A2,c2,rfl,hl2,?_,?_⟩,by omega⟩
 ·exact (Fresh.rdp (mU hf2)).mono (fun b hb=>.inr (by have h0:w1.drew.heap.size=w1.heap.size:=rfl;have:=hb.1;omega))
 ·exact bT g1
theorem yJ (n n0:Int)(s0 s1 s2:Tm)(A:Option Addr)(c:Nat)(w:World)(hM:aH [.mk 14 n0 [s0,s1,s2]]≤400)(hr:Rd w A 0 [.mk 14 n0 [s0,s1,s2]]) :
  Calls prog 92 #[.agg #[.int .i64 16,.int .i64 n,.slice A ([.mk 14 n0 [s0,s1,s2]]:List Tm).length c]] w (aGj s2 190000 w):=by
 have hrd:=aD (show cH 16 [.mk 14 n0 [s0,s1,s2]]=6 from rfl);obtain ⟨b,off,k0',n0',ks0,A0,c0,hA,hk0,p0,q0,r0,hl0,hr0⟩:=hr.at_ (j:=0) (by simp);injection hk0 with h1 h2 h3;subst h1 h2 h3;obtain ⟨b1,off1,k1,n1,ks1,A1,c1,hA0,hk1,p1,q1,r1,hl1,hr1⟩:=hr0.at_ (j:=2) (by simp);have hk1:s2 = .mk k1 n1 ks1:=hk1;subst hk1 hA hA0;simp only [Nat.reduceMul,Nat.zero_mul,Nat.add_zero] at p0 q0 r0 p1 q1 r1
 have hsz:aH ks1≤400:=by simp only [aH,Tm.size] at hM;omega
 go_enter func92,ntmps92;go_wp2_with (first
  | (go_at_call 36;have _t:=tok;refine (eM _ k1 n1 ks1 A1 c1 _ (qG _) (by omega) (hr1.keeps K1)).mono ?_;rintro e w2 ⟨A2,c2,rfl,hl2,hf2,hb2⟩;replace hZ:=hZ.keep hb2;obtain ⟨d0,d1,d2,e0,e1,e2⟩:=bW hZ;replace g1:=g1.trans (hb2.mono g1.size))
  | (go_at_call 91;refine (eF 16 n [.mk 14 n0 [s0,s1,.mk k1 n1 ks1]] _ c _ (by simp) rfl ((hr.alloc _).alloc _)).mono ?_;rw [hrd.out];rintro e w1 ⟨rfl,hb1⟩;have hB:Blk w1 w.heap.size #[.int .i64 16,.int .i64 n,.slice (some ⟨b,off,none⟩) ([.mk 14 n0 [s0,s1,.mk k1 n1 ks1]]:List Tm).length c]:=((aC w 25 _ rfl).alloc _).keep hb1;have hZ:=bH hb1;have g1:Bw w w1:=bQ bw2 hb1;have s1:=hZ.lt;have K1:=bU g1;have x2:=hB.at_ (i:=2) rfl;have tok:=trivial;replace p0:=K1 _ _ p0;replace q0:=K1 _ _ q0;replace r0:=K1 _ _ r0;replace p1:=K1 _ _ p1;replace q1:=K1 _ _ q1;replace r1:=K1 _ _ r1))
 refine bodyPost_ret (v:=.agg (Ro k1 n1 A2 ks1.length c2)) (by simp [results,results92,go_sem,d0,d1,d2]) rfl ⟨k1,n1,ks1,rfl,⟨A2,c2,rfl,hl2,?_,?_⟩,by omega⟩
 ·exact (Fresh.rdp (mU hf2)).mono (fun b hb=>.inr (by have h0:w1.drew.heap.size=w1.heap.size:=rfl;have:=hb.1;omega))
 ·exact bT g1
theorem uS (n n0:Int)(s0 t:Tm)(k1 n1 ku nu:Int)(us:List Tm)(ks1:List Tm)(A:Option Addr)(c:Nat)(w:World)(ht:t = .mk k1 n1 ks1)(hM:aH [.mk 4 n0 [s0,t],.mk ku nu us]≤400)(hs:shape 30 t=true)(hsu:shape 30 (.mk ku nu us)=true)(hr:Rd w A 0 [.mk 4 n0 [s0,t],.mk ku nu us]) :
  Calls prog 92 #[.agg #[.int .i64 5,.int .i64 n,.slice A ([.mk 4 n0 [s0,t],.mk ku nu us]:List Tm).length c]] w (aGj (dC (.mk ku nu us) 0 0 t) 190000 w):=by
 subst ht;have hrd:=aD (show cH 5 [.mk 4 n0 [s0,.mk k1 n1 ks1],.mk ku nu us]=1 from rfl);obtain ⟨b,off,k0',n0',ks0,A0,c0,hA,hk0,p0,q0,r0,hl0,hr0⟩:=hr.at_ (j:=0) (by simp);injection hk0 with h1 h2 h3;subst h1 h2 h3;obtain ⟨b1,off1,k1',n1',ks1',A1,c1,hA0,hk1,p1,q1,r1,hl1,hr1⟩:=hr0.at_ (j:=1) (by simp);injection hk1 with h1 h2 h3;subst h1 h2 h3;obtain ⟨b',off',ku',nu',us',U,cu,hA',hk2,p2,q2,r2,hl2,hr2⟩:=hr.at_ (j:=1) (by simp);injection hk2 with h1 h2 h3;subst h1 h2 h3;subst hA hA0;injection hA' with hA';injection hA' with h1 h2;subst h1 h2;simp only [Nat.reduceMul,Nat.zero_mul,Nat.add_zero] at p0 q0 r0 p1 q1 r1 p2 q2 r2
 have hsz:aH ks1≤400∧aH us≤400∧(Tm.mk k1 n1 ks1).size+(Tm.mk ku nu us).size≤400:=by simp only [aH,Tm.size] at hM⊢;omega
 obtain ⟨k2,n2,ks2,h2⟩:=jF (dC (.mk ku nu us) 0 0 (.mk k1 n1 ks1));have hbig:aH ks2+1≤190000:=by
  have h3:=vX (.mk ku nu us) (m:=400) (by omega) (by omega) (.mk k1 n1 ks1) 0 0;rw [h2,Tm.size] at h3;have:(Tm.mk k1 n1 ks1).size*400≤400*400:=Nat.mul_le_mul_right _ (by omega);omega
 have h2':=aD h2;have hs':=aD hs;have hsu':=aD hsu;clear h2 hs hsu;go_enter func92,ntmps92;go_wp2_with (first
  | (go_at_call 91;refine (eF 5 n [.mk 4 n0 [s0,.mk k1 n1 ks1],.mk ku nu us] _ c _ (by simp) rfl ((hr.alloc _).alloc _)).mono ?_;rw [hrd.out];rintro e w1 ⟨rfl,hb1⟩;have hB:Blk w1 w.heap.size #[.int .i64 5,.int .i64 n,.slice (some ⟨b,off,none⟩) ([.mk 4 n0 [s0,.mk k1 n1 ks1],.mk ku nu us]:List Tm).length c]:=((aC w 25 _ rfl).alloc _).keep hb1;have hZ:=bH hb1;have g1:Bw w w1:=bQ bw2 hb1;have s1:=hZ.lt;have K1:=bU g1;have x2:=hB.at_ (i:=2) rfl;have tok:=trivial;replace p0:=K1 _ _ p0;replace q0:=K1 _ _ q0;replace r0:=K1 _ _ r0;replace p1:=K1 _ _ p1;replace q1:=K1 _ _ q1;replace r1:=K1 _ _ r1;replace p2:=K1 _ _ p2;replace q2:=K1 _ _ q2;replace r2:=K1 _ _ r2;skip))
 obtain ⟨y2,y3,y4⟩:=rN x2 r0 p1;obtain ⟨y5,y6,y7⟩:=rN q1 r1 p2;have y8:=aF q2;have y9:=aF r2;refine bK (fun w'=>Bw w1 w') [0,1,2,3,4,5,6,7,8,9,10] [11] [12] [_,_,_,_,_,_,_,_,_,_,_] [_] [_] (by kernel_rfl) (by kernel_rfl) rfl rfl rfl (fun _ _ d _ _ h=>by cases d<;>exact h) (fG _ _).drew ?_;refine bV (aD ?_);refine bF ?_;go_wp2_with (go_at_call 127;refine (xG ku nu us hsu'.out (by omega) _ k1 n1 ks1 _ _ _ _ 0 0 30 _ (qG _) (by omega) hs'.out (by omega) (by omega) (by omega) (by omega) (hr1.keeps K1).drew (hr2.keeps K1).drew k2 n2 ks2 h2'.out).mono ?_;rintro e w2 ⟨A2,c2,rfl,hl2,hf2,hb2⟩)
 have hx1:Bw w1 w2:=(fG _ _).drew.trans hb2;refine aP hx1 (cZ ?_);replace hZ:=hZ.keep hx1;obtain ⟨d0,d1,d2,e0,e1,e2⟩:=bW hZ;replace g1:=g1.trans (hx1.mono g1.size);clear y2 y3 y4 y5 y6 y7 y8 y9;go_wp2_with fail
 refine bodyPost_ret (v:=.agg (Ro k2 n2 A2 ks2.length c2)) (by simp [results,results92,go_sem,d0,d1,d2]) rfl ⟨k2,n2,ks2,h2'.out,⟨A2,c2,rfl,hl2,?_,?_⟩,hbig⟩
 ·exact (Fresh.rdp (mU hf2)).mono (fun b hb=>.inr (by have h0:w1.drew.heap.size=w1.heap.size:=rfl;have:=hb.1;omega))
 ·exact bT g1
def mQ:Prop:=∀(n n8:Int) (t0 t1 t2 m:Tm) (A:Option Addr) (c:Nat) (w:World),aH [t0,t1,t2,.mk 8 n8 [m]]≤400→Rd w A 0 [t0,t1,t2,.mk 8 n8 [m]]→
 Calls prog 92 #[.agg #[.int .i64 9,.int .i64 n,.slice A ([t0,t1,t2,.mk 8 n8 [m]]:List Tm).length c]] w (aGj (.mk 5 0 [.mk 5 0 [t2,m],.mk 9 0 [t0,t1,t2,m]]) 190000 w)
theorem aKh {ks:List Tm}(h:ks.length=1):∃a,ks=[a]:=List.length_eq_one_iff.1 h
theorem aJq {ks:List Tm}(h:ks.length=2):∃a b,ks=[a,b]:=by
 match ks,h with
 | [a,b],_=>exact ⟨a,b,rfl⟩
theorem aGe {ks:List Tm}(h:ks.length=3):∃a b c,ks=[a,b,c]:=by
 match ks,h with
 | [a,b,c],_=>exact ⟨a,b,c,rfl⟩
theorem aXq {ks:List Tm}(h:ks.length=4):∃a b c d,ks=[a,b,c,d]:=by
 match ks,h with
 | [a,b,c,d],_=>exact ⟨a,b,c,d,rfl⟩
theorem qH (hC:mQ)(d:Nat)(hd:d≤30)(k n:Int)(ks:List Tm)(A:Option Addr)(c:Nat)(w:World)(hM:aH ks≤400)(hs:shape d (.mk k n ks)=true)(hx:cH k ks≠0)(hr:Rd w A 0 ks) :
  Calls prog 92 #[.agg (Ro k n A ks.length c)] w (aGj (gG (.mk k n ks)) 190000 w):=by
 obtain ⟨d,rfl,ha,_,_,hk⟩:=bX hs;by_cases h5:k=5
 ·subst h5;obtain ⟨a,b,rfl⟩:=aJq (ks:=ks) (by have h:aK 5=2:=rfl;omega);obtain ⟨k0,n0,ls⟩:=a;have h4:k0=4:=by
   rcases Classical.em (k0=4) with h|h
   ·exact h
   ·exact absurd (by simp [cH,gV,Tm.k,h]) hx
  subst h4;obtain ⟨d,rfl,ha0,_,_,hk0⟩:=bX (hk (.mk 4 n0 ls) (by simp));obtain ⟨s0,t,rfl⟩:=aJq (ks:=ls) (by have h:aK 4=2:=rfl;omega);obtain ⟨ku,nu,us⟩:=b;obtain ⟨k1,n1,ks1⟩:=t;rw [show gG _=dC (.mk ku nu us) 0 0 (.mk k1 n1 ks1) from by simp [gG,cH,gV,Tm.k,Tm.ks,aI]];exact uS n n0 s0 _ k1 n1 ku nu us ks1 A c w rfl hM (eV (by omega) _ (hk0 _ (by simp))) (eV (by omega) _ (hk _ (by simp))) hr
 ·by_cases h9:k=9
  ·subst h9;obtain ⟨a,b,e,f,rfl⟩:=aXq (ks:=ks) (by have h:aK 9=4:=rfl;omega);obtain ⟨k3,n3,ls⟩:=f;by_cases h7:k3=7
   ·subst h7;rw [show gG _=b from by simp [gG,cH,gV,Tm.k,Tm.ks,aI]];exact wN n a b e _ A c w hM (by simp [cH,gV,Tm.k]) hr
   ·have h8:k3=8:=by
     rcases Classical.em (k3=8) with h|h
     ·exact h
     ·exact absurd (by simp [cH,gV,Tm.k,h,h7]) hx
    subst h8;obtain ⟨d,rfl,ha0,_,_,hk0⟩:=bX (hk (.mk 8 n3 ls) (by simp));obtain ⟨m,rfl⟩:=aKh (ks:=ls) (by have h:aK 8=1:=rfl;omega);rw [show gG _=(.mk 5 0 [.mk 5 0 [e,m],.mk 9 0 [a,b,e,m]]) from by simp [gG,cH,gV,Tm.k,Tm.ks,aI]];exact hC n n3 a b e m A c w hM hr
  ·by_cases h12:k=12
   ·subst h12;obtain ⟨a,b,e,rfl⟩:=aGe (ks:=ks) (by have h:aK 12=3:=rfl;omega);obtain ⟨k3,n3,ls⟩:=b;have h8:k3=11:=by
     rcases Classical.em (k3=11) with h|h
     ·exact h
     ·exact absurd (by simp [cH,gV,Tm.k,h]) hx
    subst h8;rw [show gG _=e from by simp [gG,cH,gV,Tm.k,Tm.ks,aI]];exact xL n a _ e A c w hM (by simp [cH,gV,Tm.k]) hr
   ·by_cases h15:k=15
    ·subst h15;obtain ⟨a,rfl⟩:=aKh (ks:=ks) (by have h:aK 15=1:=rfl;omega);obtain ⟨k3,n3,ls⟩:=a;have h8:k3=14:=by
      rcases Classical.em (k3=14) with h|h
      ·exact h
      ·exact absurd (by simp [cH,gV,Tm.k,h]) hx
     subst h8;obtain ⟨d,rfl,ha0,_,_,hk0⟩:=bX (hk (.mk 14 n3 ls) (by simp));obtain ⟨s0,s1,s2,rfl⟩:=aGe (ks:=ls) (by have h:aK 14=3:=rfl;omega);rw [show gG _=s1 from by simp [gG,cH,gV,Tm.k,Tm.ks,aI]];exact yD n n3 s0 s1 s2 A c w hM hr
    ·by_cases h16:k=16
     ·subst h16;obtain ⟨a,rfl⟩:=aKh (ks:=ks) (by have h:aK 16=1:=rfl;omega);obtain ⟨k3,n3,ls⟩:=a;have h8:k3=14:=by
       rcases Classical.em (k3=14) with h|h
       ·exact h
       ·exact absurd (by simp [cH,gV,Tm.k,h]) hx
      subst h8;obtain ⟨d,rfl,ha0,_,_,hk0⟩:=bX (hk (.mk 14 n3 ls) (by simp));obtain ⟨s0,s1,s2,rfl⟩:=aGe (ks:=ls) (by have h:aK 14=3:=rfl;omega);rw [show gG _=s2 from by simp [gG,cH,gV,Tm.k,Tm.ks,aI]];exact yJ n n3 s0 s1 s2 A c w hM hr
     ·exact absurd (tL ks (by omega)) hx
theorem tB:∀(ks:List Tm) (j:Nat) (t:Tm),aH (ks.set j t)≤aH ks+t.size
 | [],j,t=>by simp [aH]
 | a::ks,0,t=>by simp only [List.set_cons_zero,aH];omega
 | a::ks,j+1,t=>by have:=tB ks j t;simp only [List.set_cons_succ,aH];omega
theorem rdp_lt {p:Nat→Prop}{w:World}:(∀t b off i,RdPC p w b off i t→RdPC (fun b=>p b∧b<w.heap.size) w b off i t)∧(∀ks A i,RdP p w A i ks→RdP (fun b=>p b∧b<w.heap.size) w A i ks):=by
 refine bO (fun k n ks ih b off i hh=>?_) (fun _ _ _=>RdP.nil) (fun t ts h1 h2 A i hh=>?_)
 ·rw [RdPC.iff] at hh⊢;obtain ⟨h0,h1,h2,A,c,h3,h4,h5⟩:=hh;exact ⟨⟨h0,kY _ _ h1⟩,h1,h2,A,c,h3,h4,ih _ _ h5⟩
 ·rw [RdP.cons_iff] at hh⊢;obtain ⟨⟨b,off,hA,hc⟩,hr⟩:=hh;exact ⟨⟨b,off,hA,h1 _ _ _ hc⟩,h2 _ _ hr⟩
theorem RdP.lt_ {p:Nat→Prop}{w:World}{A:Option Addr}{i:Nat}{ks:List Tm}(h:RdP p w A i ks):RdP (fun b=>p b∧b<w.heap.size) w A i ks:=rdp_lt.2 _ _ _ h
theorem aPp (ks:List Tm)(j:Nat)(v:Tm):∀(i:Nat) (t:Tm),ks[i]?=some t→(ks.set j v)[i]?=some (if i=j then v else t):=by
 intro i t h;have hl:i<ks.length:=(List.getElem?_eq_some_iff.1 h).1;rw [List.getElem?_set];by_cases e:j=i
 ·subst e;rw [if_pos rfl,if_pos hl,if_pos rfl]
 ·rw [if_neg e,if_neg (fun h=>e h.symm),h]
def aRj (t0:Tm)(m:Nat)(w:World)(e:Ending)(w':World):Prop:=
 ∃(k n:Int) (ks:List Tm) (A:Option Addr) (c:Nat) (b:Bool),.mk k n ks=(dE t0).getD t0∧b=(dE t0).isSome∧e = .returned (.tuple #[.agg (Ro k n A ks.length c),.bool b])∧ks.length≤9223372036854775807∧aH ks+1≤m∧RdP (fun x=>if b=true then w.heap.size≤x else x<w.heap.size) w' A 0 ks∧Bw w w'
theorem aBh {o:Option Tm}{t u:Tm}(h:u=o.getD t){b:Bool}(hb:b=o.isSome)(hbt:b=true):o=some u:=by
 subst hbt;cases o with
 | none=>cases hb
 | some v=>rw [h];rfl
theorem aId {o:Option Tm}{b:Bool}(hb:b=o.isSome)(hbt:b=false):o=none:=by
 subst hbt;cases o with
 | none=>rfl
 | some v=>cases hb
theorem sV:∀(ks:List Tm) (j:Nat) (h:j<ks.length) (u:Tm),(∀i,(hi:i<ks.length)→i<j→dE ks[i]=none)→dE ks[j]=some u→jY ks=some (ks.set j u)
 | t::ts,0,h,u,hn,hs=>by rw [jY];simp only [List.getElem_cons_zero] at hs;rw [hs];rfl
 | t::ts,j+1,h,u,hn,hs=>by
  have h0:dE t=none:=hn 0 (by simp) (by omega);rw [jY,h0,sV ts j (by simpa using h) u (fun i hi hij=>hn (i+1) (by simpa using hi) (by omega)) (by simpa using hs)];rfl
theorem sX:∀(ks:List Tm),(∀i,(hi:i<ks.length)→dE ks[i]=none)→jY ks=none
 | [],_=>rfl
 | t::ts,hn=>by
  have h0:dE t=none:=hn 0 (by simp);rw [jY,h0,sX ts (fun i hi=>hn (i+1) (by simpa using hi))];rfl
theorem aJl (hC:mQ)(N:Nat):∀(d:Nat) (k n:Int) (ks:List Tm) (A:Option Addr) (c:Nat) (w:World),d≤30→aH ks<N→aH ks≤400→shape d (.mk k n ks)=true→Rd w A 0 ks→
  Calls prog 70 #[.agg (Ro k n A ks.length c),.bool false] w (aRj (.mk k n ks) (190000+401*d) w):=by
 induction N with
 | zero=>intro d k n ks A c w _ hN;exact absurd hN (Nat.not_lt_zero _)
 | succ N ih=>
 intro d k n ks A c w hd hN hM hs hr;have hlen:=aQ ks;obtain ⟨d,rfl,ha,_,_,hk⟩:=bX hs;have hk':=aD hk;have ha':=aD ha;have hs':=aD hs;clear hk ha hs;by_cases hx:cH k ks=0
 ·have hrd:=aD hx;clear hx;go_enter func70,ntmps70;go_wp2_with (go_at_call 91;refine (eF k n ks A c _ (by omega) ha'.out ((hr.alloc _).alloc _)).mono ?_;rw [hrd.out];rintro e w1 ⟨rfl,hb1⟩;have hB:=cV hb1;have hZ:=bH hb1;have g1:Bw w w1:=bQ bw2 hb1)
  go_loopw [6] (fun jv wr=>∃j:Nat,j≤ks.length∧Hid (∀i,(hi:i<ks.length)→i<j→dE ks[i]=none)∧jv = .int .i64 j∧Blk wr (w.heap.size+1) Zr∧Blk wr w.heap.size (Ro k n A ks.length c)∧Bw w wr)
   (fun jv _=>ks.length - (intOf jv).toNat)
  case atStart=>exact ⟨0,Nat.zero_le _,aD (fun i hi h=>absurd h (by omega)),rfl,hZ,hB,g1⟩
  case round=>
   clear hZ hB g1;obtain ⟨j,hj,hnj,rfl,hZ,hB,g1⟩:=hrel;obtain ⟨x0,x1,x2⟩:=hB.three;have sr:=g1.size;have lz0:=hZ.lt;by_cases hlt:j<ks.length
   ·obtain ⟨b,off,k',n',ks',A',c',rfl,hkj,hc1,hc2,hc3,hl',hr'⟩:=(hr.below g1).at_ hlt;have hsz:=cM (iS hlt);have hsk:=hk'.out _ (iS hlt);rw [hkj] at hsz hsk;simp only [Tm.size] at hsz
    have H4:=aD hsk;have H5:=aD hkj;clear hkj hsk;have bl:b<wr.heap.size:=kY _ _ hc1;go_wp2_with (first
     | (go_at_call 70;refine (ih d k' n' ks' A' c' _ (by omega) (by omega) (by omega) H4.out hr').mono ?_;rintro e w2 ⟨k2,n2,ks2,A2,c2,bb,hv2,hv3,rfl,hl2,hs2,hr2,hb2⟩;replace hv2:=aD hv2;replace hv3:=aD hv3;have hrw:=((hr.below g1).below hb2).alloc (.cells (Ro k2 n2 A2 ks2.length c2) 25);replace hZ:=(hZ.keep hb2).alloc (.cells (Ro k2 n2 A2 ks2.length c2) 25);replace hB:=(hB.keep hb2).alloc (.cells (Ro k2 n2 A2 ks2.length c2) 25);replace g1:=(g1.trans (hb2.mono g1.size)).alloc (by have:=hb2.size;omega) (.cells (Ro k2 n2 A2 ks2.length c2) 25);have hr2':=hr2.alloc (.cells (Ro k2 n2 A2 ks2.length c2) 25);have s2:=hb2.size;have hK2:=aC w2 25 (Ro k2 n2 A2 ks2.length c2) rfl;obtain ⟨y0,y1,y2⟩:=hK2.three;clear x0 x1 x2;obtain ⟨x0,x1,x2⟩:=hB.three;have tok:=trivial))
    ·have hbb:bb=true:=by assumption
     have hrx:RdP (fun x=>wr.heap.size≤x∧x<w2.heap.size) w2 A2 0 ks2:=(hr2.lt_).mono (fun x hx=>⟨by have h1:=hx.1;rw [hbb] at h1;simpa using h1,hx.2⟩);refine (aAd (p:=fun x=>wr.heap.size≤x∧x<w2.heap.size) k n ks _ c j k2 n2 ks2 A2 c2 (ks.set j (.mk k2 n2 ks2)) (by simp) (aPp ks j _) _ (by omega) hl2 hrw (hrx.alloc _) (fun x hx=>by have:=hx.2;simp;omega)).mono ?_;rintro e w3 ⟨A3,c3,rfl,hl3,hr3,hb3⟩;replace hZ:=hZ.keep hb3;obtain ⟨d0,d1,d2,e0,e1,e2⟩:=bW hZ;replace g1:=g1.trans (hb3.mono g1.size);go_wp2_with fail
     have hsz2:=tB ks j (.mk k2 n2 ks2);rw [Tm.size] at hsz2;refine bodyPost_ret (v:=.tuple #[.agg #[.int .i64 k,.int .i64 n,.slice A3 (ks.set j (.mk k2 n2 ks2)).length c3],.bool true]) (by simp [results,results70,go_sem,d0,d1,d2]) rfl ⟨k,n,ks.set j (.mk k2 n2 ks2),A3,c3,true,(by rw [dE,if_pos hrd.out,sV ks j hlt _ hnj.out (by rw [H5.out];exact aBh hv2.out hv3.out hbb)];rfl),(by rw [dE,if_pos hrd.out,sV ks j hlt _ hnj.out (by rw [H5.out];exact aBh hv2.out hv3.out hbb)];rfl),rfl,by simp;omega,by omega,?_,?_⟩
     ·have hr4:=hr3.mono (q:=fun x=>w.heap.size+2≤x) (fun x hx=>hx.elim (fun h=>by have:=h.1;omega) (fun h=>by simp at h;omega));exact (((hr4.setCell (by simp) _).setCell (by simp) _).setCell (by simp) _).mono (fun x hx=>by simp;omega)
     ·exact bT g1
    ·have hbb:bb=false:=by first|assumption|(cases bb with|false=>rfl|true=>simp_all)
     refine ⟨⟨j+1,by omega,aD (fun i hi hij=>?_),by go_num,hZ,hB,g1⟩,by simp [intOf];omega⟩;by_cases hij2:i=j
     ·subst hij2;rw [H5.out];exact aId hv3.out hbb
     ·exact hnj.out i hi (by omega)
   ·have hje:j=ks.length:=by omega
    subst hje;obtain ⟨d0,d1,d2,e0,e1,e2⟩:=bW hZ;go_wp2_with fail
    refine bodyPost_ret (v:=.tuple #[.agg (Ro k n A ks.length c),.bool false]) (by simp [results,results70,go_sem,d0,d1,d2]) rfl ⟨k,n,ks,A,c,false,(by rw [dE,if_pos hrd.out,sX ks (fun i hi=>hnj.out i hi hi)];rfl),(by rw [dE,if_pos hrd.out,sX ks (fun i hi=>hnj.out i hi hi)];rfl),rfl,by omega,by omega,?_,?_⟩
    ·exact ((((hr.rdp.below g1).setCell (by simp) _).setCell (by simp) _).setCell (by simp) _).mono (fun x hx=>by simpa using hx)
    ·exact bT g1
 ·have hq:(cH k ks==0)=false:=by simpa using hx
  have hc:=aD (fun w A c hr=>qH hC (d+1) hd k n ks A c w hM hs'.out hx hr);obtain ⟨rr,hrr⟩:∃rr,cH k ks=rr:=⟨_,rfl⟩;rw [hrr] at hq;have hrd:=aD hrr;have hst:=aD (show dE (.mk k n ks)=some (gG (.mk k n ks)) from by rw [dE,if_neg hx]);clear hx hrr;go_enter func70,ntmps70;go_wp2_with (first
   | (go_at_call 92;have _t:=tok;refine (hc.out _ A c hr1).mono ?_;rintro e w2 ⟨k2,n2,ks2,hv2,⟨A2,c2,rfl,hl2,hr2,hb2⟩,hs2⟩;replace hv2:=aD hv2;replace hZ:=hZ.keep hb2;obtain ⟨d0,d1,d2,e0,e1,e2⟩:=bW hZ;replace g1:=g1.trans (hb2.mono g1.size))
   | (go_at_call 91;refine (eF k n ks A c _ (by omega) ha'.out ((hr.alloc _).alloc _)).mono ?_;rw [hrd.out];rintro e w1 ⟨rfl,hb1⟩;have hB:=cV hb1;have hZ:=bH hb1;have g1:Bw w w1:=bQ bw2 hb1;have hr1:=hr.below g1;have s1:=hZ.lt;obtain ⟨x0,x1,x2⟩:=hB.three;have tok:=trivial))
  refine bodyPost_ret (v:=.tuple #[.agg (Ro k2 n2 A2 ks2.length c2),.bool true]) (by simp [results,results70,go_sem,d0,d1,d2]) rfl ⟨k2,n2,ks2,A2,c2,true,(by rw [hst.out,hv2.out];rfl),(by rw [hst.out];rfl),rfl,hl2,by omega,?_,?_⟩
  ·exact ((((hr2.mono (q:=fun x=>w.heap.size+2≤x) (fun x hx=>hx.elim (fun h=>h.elim) (fun h=>by omega))).setCell (by simp) _).setCell (by simp) _).setCell (by simp) _).mono (fun x hx=>by simp;omega)
  ·exact bT g1
theorem vK {b:Bool}(h:(!b)=false):b=true:=by cases b with|true=>rfl|false=>cases h
theorem xF {b:Bool}(h:(!b)=true):b=false:=by cases b with|false=>rfl|true=>cases h
def mY (t:Tm):Tm × Nat:=match dE t with|none=>(t,0)|some u=>if aE u=true then (u,1) else (.mk 0 0 [],2)
theorem aKr {t:Tm}(h:dE t=none):mY t=(t,0):=by rw [mY,h]
theorem zI {t u:Tm}(h:dE t=some u)(hv:aE u=true):mY t=(u,1):=by rw [mY,h];exact if_pos hv
theorem wQ {t u:Tm}(h:dE t=some u)(hv:aE u=false):mY t=(.mk 0 0 [],2):=by rw [mY,h];exact if_neg (by simp [hv])
theorem aGq {t:Tm}{f:Nat}(h:(mY t).2=0):dJ f t=(some (mY t).1,0):=by
 unfold mY at h⊢
 rw [dJ];cases hs:dE t with
 | none=>rfl
 | some u=>rw [hs] at h;simp only at h;split at h<;>cases h
theorem aFx {t:Tm}(h:(mY t).2≠0):dJ 0 t=(none,1):=by
 unfold mY at h
 rw [dJ];cases hs:dE t with
 | none=>rw [hs] at h;exact absurd rfl h
 | some u=>rfl
theorem aFe {t:Tm}{f:Nat}(h:(mY t).2=2):dJ (f+1) t=(none,2):=by
 unfold mY at h
 rw [dJ];cases hs:dE t with
 | none=>rw [hs] at h;cases h
 | some u=>
  rw [hs] at h;simp only at h⊢
  split at h
  ·cases h
  ·rename_i hv;rw [if_neg hv]
theorem aFw {t:Tm}{f:Nat}(h0:(mY t).2≠0)(h2:(mY t).2≠2):dJ (f+1) t=dJ f (mY t).1:=by
 unfold mY at h0 h2⊢
 rw [dJ];cases hs:dE t with
 | none=>rw [hs] at h0;exact absurd rfl h0
 | some u=>
  rw [hs] at h0 h2;simp only at h0 h2⊢
  split at h2
  ·rename_i hv;simp only [if_pos hv]
  ·exact absurd rfl h2
def aTg (R:Option Tm × Int)(w:World)(e:Ending)(w':World):Prop:=
 ∃(k n:Int) (ks:List Tm) (A:Option Addr) (c:Nat),R.1.getD (.mk 0 0 []) = .mk k n ks∧e = .returned (.tuple #[.agg (Ro k n A ks.length c),.int .i64 R.2])∧ks.length≤9223372036854775807∧RdP (fun x=>w.heap.size≤x) w' A 0 ks∧Bw w w'
def aYj (t0:Tm)(w:World)(e:Ending)(w':World):Prop:=
 ∃(k n:Int) (ks:List Tm) (A:Option Addr) (c code:Nat),.mk k n ks=(mY t0).1∧code=(mY t0).2∧e = .returned (.tuple #[.agg (Ro k n A ks.length c),.int .i64 code])∧code≤2∧ks.length≤9223372036854775807∧aH ks≤400∧(code≠2→aE (.mk k n ks)=true)∧RdP (fun x=>w.heap.size≤x) w' A 0 ks∧Bw w w'
theorem aMp (hC:mQ)(k n:Int)(ks:List Tm)(A:Option Addr)(c:Nat)(w:World)(hv:aE (.mk k n ks)=true)(hl:ks.length≤9223372036854775807)(hr:Rd w A 0 ks) :
  Calls prog 47 #[.agg (Ro k n A ks.length c),.bool false] w (aYj (.mk k n ks) w):=by
 have hM:=aJ hv;have hsh:=aD (aW hv);have hv':=aD hv;clear hv;go_enter func47,ntmps47;go_wp2_with (go_at_call 70;refine (aJl hC _ 30 k n ks A c _ (by omega) (qG _) hM hsh.out (((hr.alloc _).alloc _))).mono ?_;rintro e w1 ⟨k2,n2,ks2,A2,c2,bb,hx2,hx3,rfl,hl2,hs2,hr2,hb1⟩;replace hx2:=aD hx2;replace hx3:=aD hx3;have hB:=(((aC w 25 (Ro k n A ks.length c) rfl).alloc (.cells Zr 25)).keep hb1).alloc (.cells (Ro k2 n2 A2 ks2.length c2) 25);have hZ:Blk (w1.alloc (.cells (Ro k2 n2 A2 ks2.length c2) 25)) (w.heap.size+1) Zr:=((aC (w.alloc (.cells (Ro k n A ks.length c) 25)) 25 Zr (by simp)).keep hb1).alloc _;have g1:Bw w w1:=bQ bw2 hb1;have s1:w.heap.size+2≤w1.heap.size:=(by have:=hb1.size;simpa using this);have g2:=g1.alloc g1.size (.cells (Ro k2 n2 A2 ks2.length c2) 25);have hK:=aC w1 25 (Ro k2 n2 A2 ks2.length c2) rfl;obtain ⟨x0,x1,x2⟩:=hB.three;obtain ⟨y0,y1,y2⟩:=hK.three)
 ·have hbf:bb=false:=xF (by assumption);have ho:=aD (aKr (aId hx3.out hbf));refine (eM _ k n ks A c _ (qG _) (by omega) ((hr.below g1).alloc _)).mono ?_;rintro e w3 ⟨A3,c3,rfl,hl3,hf3,hb3⟩;replace hZ:=hZ.keep hb3;obtain ⟨d0,d1,d2,e0,e1,e2⟩:=bW hZ;replace g2:=g2.trans (hb3.mono g2.size);go_wp2_with fail
  refine bodyPost_ret (v:=.tuple #[.agg (Ro k n A3 ks.length c3),.int .i64 0]) (by simp [results,results47,go_sem,d0,d1,d2]) rfl ⟨k,n,ks,A3,c3,0,(by rw [ho.out]),(by rw [ho.out]),rfl,by omega,hl3,by omega,fun _=>hv'.out,?_,?_⟩
  ·exact (Fresh.rdp (mU hf3)).mono (fun b hb=>by have:=hb.1;simp at this;omega)
  ·exact bT g2
 ·have hbb:bb=true:=vK (by assumption);have hst:=aD (aBh hx2.out hx3.out hbb);have hrx:RdP (fun x=>w.heap.size+2≤x) w1 A2 0 ks2:=hr2.mono (fun x hx=>by rw [hbb] at hx;simp at hx;omega);clear hr2;obtain ⟨vv,hvv0⟩:∃vv,aE (.mk k2 n2 ks2)=vv:=⟨_,rfl⟩;have hvv:=aD hvv0;refine (aU k2 n2 ks2 A2 c2 _ (by omega) (hrx.alloc _).rd).mono ?_;rw [hvv0];rintro e w3 ⟨rfl,hb3⟩;clear hvv0;replace hZ:=hZ.keep hb3;replace hK:=hK.keep hb3;clear y0 y1 y2;obtain ⟨y0,y1,y2⟩:=hK.three;obtain ⟨d0,d1,d2,e0,e1,e2⟩:=bW hZ;replace g2:=g2.trans (hb3.mono g2.size);have hrx3:=(hrx.alloc (.cells (Ro k2 n2 A2 ks2.length c2) 25)).below hb3;cases vv with
  | false=>
   go_wp2_with fail
   refine bodyPost_ret (v:=.tuple #[.agg Zr,.int .i64 2]) (by simp [results,results47,go_sem,d0,d1,d2]) rfl ⟨0,0,[],none,0,2,(by rw [wQ hst.out hvv.out]),(by rw [wQ hst.out hvv.out]),rfl,by omega,by simp,by simp [aH],fun h=>absurd rfl h,RdP.nil,?_⟩;exact bT g2
  | true=>
   have hs400:=aJ hvv.out;go_wp2_with fail
   refine bodyPost_ret (v:=.tuple #[.agg (Ro k2 n2 A2 ks2.length c2),.int .i64 1]) (by simp [results,results47,go_sem,d0,d1,d2]) rfl ⟨k2,n2,ks2,A2,c2,1,(by rw [zI hst.out hvv.out]),(by rw [zI hst.out hvv.out]),rfl,by omega,hl2,hs400,fun _=>hvv.out,?_,?_⟩
   ·exact (((hrx3.setCell (by simp) _).setCell (by simp) _).setCell (by simp) _).mono (fun b hb=>by omega)
   ·exact bT g2
theorem dY (hC:mQ)(k n:Int)(ks:List Tm)(A:Option Addr)(c:Nat)(F:Nat)(hF:F≤1000)(w:World)(hv:aE (.mk k n ks)=true)(hl:ks.length≤9223372036854775807)(hr:Rd w A 0 ks) :
  Calls prog 24 #[.agg (Ro k n A ks.length c),.int .i64 F,.bool false] w (aTg (dJ F (.mk k n ks)) w):=by
 obtain ⟨R,hR⟩:∃R,dJ F (.mk k n ks)=R:=⟨_,rfl⟩;rw [hR];replace hR:=aD hR;go_enter func24,ntmps24;go_wp2_with fail
 go_loopw [1,8,9] (fun fv _ _ wr=>∃(f:Nat) (k n:Int) (ks:List Tm) (A:Option Addr) (c:Nat),f≤F∧Hid (dJ f (.mk k n ks)=R)∧fv = .int .i64 f∧aE (.mk k n ks)=true∧ks.length≤9223372036854775807∧Blk wr w.heap.size (Ro k n A ks.length c)∧Blk wr (w.heap.size+1) Zr∧RdP (fun b=>b<w.heap.size∨w.heap.size+2≤b) wr A 0 ks∧Bw w wr)
  (fun fv _ _ _ => (intOf fv).toNat)
 case atStart=>exact ⟨F,k,n,ks,A,c,pS _,hR,rfl,hv,hl,(aC _ _ _ rfl).alloc _,aC _ _ _ (by simp),((hr.rdp.alloc _).alloc _).mono (fun b hb=>.inl hb),bw2⟩
 case round=>
  clear hv hl hr hR;obtain ⟨f,k,n,ks,A,c,hf,hRf,rfl,hv,hl,hB,hZ,hrd,hb⟩:=hrel;have hv':=aD hv;clear hv;obtain ⟨x0,x1,x2⟩:=hB.three;have lz0:=hZ.lt;go_wp2_with (go_at_call 47;refine (aMp hC k n ks A c _ hv'.out hl hrd.rd).mono ?_;rintro e w1 ⟨k2,n2,ks2,A2,c2,code,hx2,hx3,rfl,hcd,hl2,hs2,hv2,hr2,hb1⟩;replace hB:=(hB.keep hb1).alloc (.cells (Ro k2 n2 A2 ks2.length c2) 25);replace hZ:=(hZ.keep hb1).alloc (.cells (Ro k2 n2 A2 ks2.length c2) 25);have s1:=hb1.size;have g1:=(hb.trans (hb1.mono hb.size)).alloc (by have:=hb.size;omega) (.cells (Ro k2 n2 A2 ks2.length c2) 25);have hK:=aC w1 25 (Ro k2 n2 A2 ks2.length c2) rfl;have hr3:=(hr2.alloc (.cells (Ro k2 n2 A2 ks2.length c2) 25)).mono (q:=fun b=>w.heap.size+2≤b) (fun b hb=>by omega);have hv3:=aD hv2;replace hx2:=aD hx2;replace hx3:=aD hx3;clear hv2 x0 x1 x2;obtain ⟨x0,x1,x2⟩:=hB.three;obtain ⟨y0,y1,y2⟩:=hK.three;obtain ⟨d0,d1,d2,e0,e1,e2⟩:=bW hZ;obtain ⟨z0,z1,z2⟩:=lF hB)
  ·have hc0:code=0:=by rename_i h0;have:=eq_of_beq h0;omega
   obtain rfl:R=(some (.mk k2 n2 ks2),0):=by rw [← hRf.out,aGq (by rw [← hx3.out];exact hc0),← hx2.out]
   refine bodyPost_ret (v:=.tuple #[.agg (Ro k2 n2 A2 ks2.length c2),.int .i64 0]) (by simp [results,results24,go_sem,d0,d1,d2]) rfl ⟨k2,n2,ks2,A2,c2,rfl,rfl,hl2,?_,?_⟩
   ·exact (((hr3.setCell (by simp) _).setCell (by simp) _).setCell (by simp) _).mono (fun b hb=>by omega)
   ·exact bT g1
  ·have hcb:((code:Int)==0)=false:=by assumption
   have hc0:¬(code:Int)=0:=ne_of_beq_false hcb;obtain rfl:f=0:=by omega
   obtain rfl:R=(none,1):=by rw [← hRf.out,aFx (by rw [← hx3.out];omega)]
   refine bodyPost_ret (v:=.tuple #[.agg Zr,.int .i64 1]) (by simp [results,results24,go_sem,d0,d1,d2]) rfl ⟨0,0,[],none,0,rfl,rfl,by simp,RdP.nil,?_⟩;exact bT g1
  ·have hc2:(code:Int)=2:=by rename_i h0;exact eq_of_beq h0
   obtain ⟨f,rfl⟩:∃g,f=g+1:=⟨f - 1,by omega⟩;obtain rfl:R=(none,2):=by rw [← hRf.out,aFe (by rw [← hx3.out];omega)]
   refine bodyPost_ret (v:=.tuple #[.agg Zr,.int .i64 2]) (by simp [results,results24,go_sem,d0,d1,d2]) rfl ⟨0,0,[],none,0,rfl,rfl,by simp,RdP.nil,?_⟩;exact bT g1
  ·have hc2:¬(code:Int)=2:=by rename_i h0;exact ne_of_beq_false h0
   have hcb:((code:Int)==0)=false:=by assumption
   have hc0:¬(code:Int)=0:=ne_of_beq_false hcb;have hf1:1≤f:=by omega
   have hRg:dJ (f - 1) (.mk k2 n2 ks2)=R:=by rw [← hRf.out,show f=(f - 1)+1 from by omega,aFw (by rw [← hx3.out];omega) (by rw [← hx3.out];omega),← hx2.out];rfl
   refine ⟨⟨f - 1,k2,n2,ks2,A2,c2,by omega,aD hRg,by go_num,hv3.out (by omega),hl2,((hB.set_ 0 _).set_ 1 _).set_ 2 _,((hZ.far (by simp) _).far (by simp) _).far (by simp) _,(((hr3.setCell (by simp) _).setCell (by simp) _).setCell (by simp) _).mono (fun b hb=>.inr hb),(bT g1)⟩,by simp [intOf];omega⟩
theorem RdX.oneCell {p:Nat→Prop}{w:World}:∀{ts:List Tm} {xs:List Value},RdX p w ts xs→∀u,u∈xs→u.oneCell'=true
 | [],xs,h,u,hu=>by have h:xs=[]:=h;subst h;cases hu
 | .mk k n ks::ts,xs,h,u,hu=>by
  obtain ⟨A,c,ys,rfl,hl,hr,hx⟩:=h;simp only [List.mem_cons] at hu
  rcases hu with rfl|rfl|rfl|hu
  ·rfl
  ·rfl
  ·rfl
  ·exact hx.oneCell u hu
theorem tH {w:World}{us:List Tm}{x1:List Value}{g:Nat}{lo:Nat→Prop}(hg:w.heap[g]?=some (.cells #[] 25 (0,0)))(hlo:∀b,lo b→b<g)(hgw:g<w.heap.size)
  (ht : RdX lo w us x1) (hlen : us.length ≤ 1099511627776) (ad : Addr) (c : Nat) (hc : ∀ j u, x1[j]? = some u → w.cell? (ad.add j) = some u) (ty : TypeId) :
  ∃A c' w',(Builtin.append_ #[23,23] ty #[.slice (some ⟨g,0,none⟩) 0 0,.slice (some ad) us.length c]).run prog w = .ok (.slice A us.length c') w'∧RdP (fun b=>lo b∨g≤b) w' A 0 us∧w.grownBy w' (some g):=by
 obtain ⟨i,hi,hz,hz1,hz2⟩:=info_parts lM;have k1:w.ownsRow g 25 3 (.slice (some ⟨g,0,none⟩) 0 0) 0 []:=⟨by simp,.inr ⟨g,0,#[],rfl,pS _,hg,pS _,by simp [maxLen],by simp,by simp⟩⟩;obtain ⟨v',w',hrun,hown,hgr,_,hat⟩:=run_append_own_at (P:=prog) w g 23 ty 25 i _ 3 40 Tryz.underlying23 hi hz hz1 hz2 rfl (by omega) _ 0 [] k1 ad us.length c x1 ht.length hc ht.oneCell
  (by simp only [maxLen]; omega) (by omega) (by omega)
 rw [Nat.zero_add,List.nil_append] at hown;obtain ⟨h2,h3⟩:=hown;rcases h3 with ⟨rfl,h0⟩|⟨g',cap,cur,rfl,hb',hg',_,_,_,htk⟩
 ·have:us=[]:=lEn h0;subst this;exact ⟨none,0,w',hrun,RdP.nil,hgr⟩
 ·refine ⟨_,_,w',hrun,RdX.rdp (.inr hb') (ht.keep (fun b hb=>.inl hb) fun b hb hl=>hgr.block b hl (fun e=>by injection e with e;have e:b=g:=e;have:=hlo b hb;omega)) fun j u hu=>?_,hgr⟩;rw [show 0+0*3+j=j by omega,cell_of_row w' g' j cur 25 (0,0) hg'];rw [← htk,List.getElem?_take] at hu;split at hu
  ·simpa using hu
  ·cases hu
theorem pY {w:World}{us:List Tm}{x1:List Value}{g:Nat}{lo:Nat→Prop}(hg:w.heap[g]?=some (.cells #[] 25 (0,0)))(hlo:∀b,lo b→b<g)(hgw:g<w.heap.size)
  (ht : RdX lo w us x1) (hlen : us.length ≤ 1099511627776) (ad : Addr) (c : Nat) (hc : ∀ j u, x1[j]? = some u → w.cell? (ad.add j) = some u)
  {ops:Array Oper} {rest:List Oper} {o:Oper} {a:Act} {Q:Exit→Act→World→Prop} (hgd:o.guard=none) (s x:Operand)
  (ho : o.op = .call { callee := .builtin .append, args := #[s, x], argTypes := #[23, 23] }) (hse : a.eval s = .slice (some ⟨g, 0, none⟩) 0 0) (hx : a.eval x = .slice (some ad) us.length c)
  (h : ∀ A' c' w', RdP (fun b => lo b ∨ g ≤ b) w' A' 0 us → w.grownBy w' (some g) → wpList prog ops Q rest (a.put o.dst (.slice A' us.length c')) w') :
  wpList prog ops Q (o::rest) a w:=by
 refine wpList_plain hgd fun K hK=>?_
 obtain ⟨A',c',w',hrun,h2,h3⟩:=tH hg hlo hgw ht hlen ad c hc o.type;unfold Oper.wp execOp
 simp only [ho,resolve,invoke,builtin,Sem.run_bind,Sem.run_pure,Result.andThen_ok,List.map_toArray,List.map_cons,List.map_nil,hse,hx,hrun]
 exact hK _ _ (h A' c' w' h2 h3)
theorem fZ {p:Nat→Prop}{w:World}{us:List Tm}{x1:List Value}(k:Int)(ht:RdX p w us x1)(hpw:∀b,p b→b<w.heap.size)(hlen:us.length≤1099511627776)(g c:Nat)(hb:Blk w g x1.toArray) :
  Calls prog 31 #[.int .i64 k,.slice (some ⟨g,0,none⟩) us.length c] w (aVk p w k 0 us):=by
 have hgl:=hb.lt;go_enter func31,ntmps31;have H1:=aD (show ((w.alloc (.cells Zr 25)).alloc (.cells #[] 25)).heap[w.heap.size+1]?=some (.cells #[] 25 (0,0)) by simpa using heap_alloc_new (w.alloc (.cells Zr 25)) (.cells #[] 25));have H2:=aD (show RdX p ((w.alloc (.cells Zr 25)).alloc (.cells #[] 25)) us x1 from ht.keep (fun _ h=>h) fun b hb _=>(Below.heap_alloc _ _ b (by have:=hpw b hb;simp;omega)).trans (Below.heap_alloc _ _ b (hpw b hb)));have H3:=aD (show ∀j u,x1[j]?=some u→((w.alloc (.cells Zr 25)).alloc (.cells #[] 25)).cell? (Addr.add ⟨g,0,none⟩ j)=some u from fun j u hj=>by
  have:=((hb.alloc (.cells Zr 25)).alloc (.cells #[] 25)).at_ (i:=j) (v:=u) (by simpa using hj);rw [tE];exact this)
 go_wp2_with (at_builtin;(refine pY (us:=us) (x1:=x1) (g:=w.heap.size+1) (lo:=p) H1.out (fun b hb=>by have:=hpw b hb;omega) (by simp) H2.out hlen ⟨g,0,none⟩ c H3.out rfl _ _ rfl rfl rfl ?_);intro A' c' w2 hfr hg2;have hT:Blk w2 w.heap.size Zr:=((aC w 25 Zr rfl).alloc _).grown hg2 (by simp);have d0:=hT.at_ (i:=0) rfl;have d1:=hT.at_ (i:=1) rfl;have d2:=hT.at_ (i:=2) rfl;obtain ⟨e0,e1,e2⟩:=lF hT;have hb2:Bw w w2:=bw2.trans ⟨hg2.os,hg2.tape,hg2.output,hg2.size,fun b hb=>hg2.block b (by simp;omega) (fun e=>by injection e with e;omega)⟩)
 have hzz:¬(p w.heap.size∨w.heap.size+1≤w.heap.size):=fun h=>h.elim (fun h=>by have:=hpw _ h;omega) (fun h=>by omega)
 refine bodyPost_ret (v:=.agg (Ro k 0 A' us.length c')) (by simp [results,results31,go_sem,d0,d1,d2]) rfl ⟨A',c',rfl,by omega,?_,(bT hb2)⟩;exact (((hfr.setCell hzz _).setCell hzz _).setCell hzz _).mono (fun b hb=>hb.imp id (fun h=>by omega))
structure Fr (w:World) (k n:Int) (ks:List Tm) (A:Option Addr) (c:Nat) (ku nu:Int) (us:List Tm) (U:Option Addr) (cu:Nat) (wx:World):Prop where
 h0:Blk wx w.heap.size (Ro k n A ks.length c)
 h1:Blk wx (w.heap.size+1) (Ro ku nu U us.length cu)
 h2:Blk wx (w.heap.size+1+1) Zr
 hb:Bw w wx
section
variable {w:World}{k n:Int}{ks:List Tm}{A:Option Addr}{c:Nat}{ku nu:Int}{us:List Tm}{U:Option Addr}{cu:Nat}{wx wy:World}
theorem Fr.below (h:Fr w k n ks A c ku nu us U cu wx)(hb:Bw wx wy):Fr w k n ks A c ku nu us U cu wy:=⟨h.h0.keep hb,h.h1.keep hb,h.h2.keep hb,h.hb.trans (hb.mono h.hb.size)⟩
theorem Fr.alloc (h:Fr w k n ks A c ku nu us U cu wx)(o:Obj):Fr w k n ks A c ku nu us U cu (wx.alloc o):=h.below (bw1)
theorem Fr.drew (h:Fr w k n ks A c ku nu us U cu wx):Fr w k n ks A c ku nu us U cu wx.drew:=h.below (fG _ _).drew
theorem Fr.size (h:Fr w k n ks A c ku nu us U cu wx):w.heap.size+1+1<wx.heap.size:=h.h2.lt
theorem Fr.far (h:Fr w k n ks A c ku nu us U cu wx)(hb:Below (w.heap.size+3) wx wy):Fr w k n ks A c ku nu us U cu wy:=⟨h.h0.below hb (by omega),h.h1.below hb (by omega),h.h2.below hb (by omega),h.hb.trans (hb.mono (by omega))⟩
end
def EmpR (w:World)(g:Nat):Prop:=w.heap[g]?=some (.cells #[] 25 (0,0))
theorem EmpR.new {n:Nat}(w:World)(h:n=w.heap.size):EmpR (w.alloc (.cells #[] 25)) n:=by subst h;exact heap_alloc_new w _
theorem EmpR.lt {w:World}{g:Nat}(h:EmpR w g):g<w.heap.size:=(Array.getElem?_eq_some_iff.1 h).1
theorem EmpR.alloc {w:World}{g:Nat}(h:EmpR w g)(o:Obj):EmpR (w.alloc o) g:=(Below.heap_alloc w o g h.lt).trans h
theorem EmpR.drew {w:World}{g:Nat}(h:EmpR w g):EmpR w.drew g:=h
theorem qD {B n:Nat}{w w':World}{v:Value}{xs:List Value}(h:w.ownsRow B 25 3 v n xs)(hk:∀g,v.ownBlock=some g→w'.heap[g]?=w.heap[g]?):w'.ownsRow B 25 3 v n xs:=by
 refine ⟨h.1,?_⟩;rcases h.2 with hn|⟨g,cap,cur,rfl,hb,hg,r⟩
 ·exact .inl hn
 ·exact .inr ⟨g,cap,cur,rfl,hb,(hk g rfl).trans hg,r⟩
def P2 (B:Nat)(E:Nat→Prop)(w:World)(v1 v2:Value)(b:Nat):Prop:=B≤b∧b<w.heap.size∧v1.ownBlock≠some b∧v2.ownBlock≠some b∧¬E b
structure Rows2 (B:Nat) (E:Nat→Prop) (w:World) (v1 v2:Value) (l r:List Tm):Prop where
 body:∃xs ys,w.ownsRow B 25 3 v1 l.length xs∧w.ownsRow B 25 3 v2 r.length ys∧RdX (P2 B E w v1 v2) w l xs∧RdX (P2 B E w v1 v2) w r ys
 apart:∀g,v1.ownBlock=some g→v2.ownBlock≠some g
 e1:∀g,v1.ownBlock=some g→¬E g
 e2:∀g,v2.ownBlock=some g→¬E g
section
variable {B:Nat}{E E':Nat→Prop}{w w':World}{v1 v2:Value}{l r:List Tm}
theorem Rows2.symm (h:Rows2 B E w v1 v2 l r):Rows2 B E w v2 v1 r l:=by
 obtain ⟨⟨xs,ys,h1,h2,h3,h4⟩,h5,h6,h7⟩:=h;have hp:∀b,P2 B E w v1 v2 b→P2 B E w v2 v1 b:=fun b hb=>⟨hb.1,hb.2.1,hb.2.2.2.1,hb.2.2.1,hb.2.2.2.2⟩
 exact ⟨⟨ys,xs,h2,h1,h4.keep hp fun _ _ _=>rfl,h3.keep hp fun _ _ _=>rfl⟩,fun g hg hg'=>h5 g hg' hg,h7,h6⟩
theorem Rows2.nil:Rows2 B E w (.slice none 0 0) (.slice none 0 0) [] []:=⟨⟨[],[],World.ownsRow_nil _ _ _ _,World.ownsRow_nil _ _ _ _,rfl,rfl⟩,fun g hg=>(by cases hg),fun g hg=>(by cases hg),fun g hg=>(by cases hg)⟩
theorem Rows2.own (h:Rows2 B E w v1 v2 l r):(∀g,v1.ownBlock=some g→B≤g∧g<w.heap.size)∧(∀g,v2.ownBlock=some g→B≤g∧g<w.heap.size):=by
 obtain ⟨⟨xs,ys,h1,h2,_⟩,_⟩:=h;exact ⟨fun g hg=>h1.lt g hg,fun g hg=>h2.lt g hg⟩
theorem Rows2.mono (h:Rows2 B E w v1 v2 l r)(he:∀b,b<w.heap.size→E' b→E b):Rows2 B E' w v1 v2 l r:=by
 have ho:=h.own;obtain ⟨⟨xs,ys,h1,h2,h3,h4⟩,h5,h6,h7⟩:=h;have hp:∀b,P2 B E w v1 v2 b→P2 B E' w v1 v2 b:=fun b hb=>⟨hb.1,hb.2.1,hb.2.2.1,hb.2.2.2.1,fun e=>hb.2.2.2.2 (he b hb.2.1 e)⟩
 exact ⟨⟨xs,ys,h1,h2,h3.keep hp fun _ _ _=>rfl,h4.keep hp fun _ _ _=>rfl⟩,h5,fun g hg e=>h6 g hg (he g (ho.1 g hg).2 e),fun g hg e=>h7 g hg (he g (ho.2 g hg).2 e)⟩
theorem Rows2.frame (h:Rows2 B E w v1 v2 l r)(hs:w.heap.size≤w'.heap.size)(hk:∀b,B≤b→b<w.heap.size→¬E b→w'.heap[b]?=w.heap[b]?):Rows2 B E w' v1 v2 l r:=by
 have ho:=h.own;obtain ⟨⟨xs,ys,h1,h2,h3,h4⟩,h5,h6,h7⟩:=h;have hp:∀b,P2 B E w v1 v2 b→P2 B E w' v1 v2 b:=fun b hb=>⟨hb.1,rO hb.2.1 hs,hb.2.2⟩
 exact ⟨⟨xs,ys,qD h1 fun g hg=>hk g (ho.1 g hg).1 (ho.1 g hg).2 (h6 g hg),qD h2 fun g hg=>hk g (ho.2 g hg).1 (ho.2 g hg).2 (h7 g hg),h3.keep hp fun b hb hl=>hk b hb.1 hl hb.2.2.2.2,h4.keep hp fun b hb hl=>hk b hb.1 hl hb.2.2.2.2⟩,h5,h6,h7⟩
theorem Rows2.below (h:Rows2 B E w v1 v2 l r)(hb:Bw w w'):Rows2 B E w' v1 v2 l r:=h.frame hb.size fun b _ hl _=>hb.block b hl
theorem Rows2.alloc (h:Rows2 B E w v1 v2 l r)(o:Obj):Rows2 B E (w.alloc o) v1 v2 l r:=h.below (bw1)
theorem Rows2.drew (h:Rows2 B E w v1 v2 l r):Rows2 B E w.drew v1 v2 l r:=h.below (fG _ _).drew
theorem Rows2.setCell (h:Rows2 B E w v1 v2 l r){a:Addr}(ha:a.block<B∨E a.block∨w.heap.size≤a.block)(u:Value):Rows2 B E (w.setCell a u) v1 v2 l r:=h.frame (by simp) fun b hb hl he=>oM w a u b (by
 rcases ha with ha|ha|ha
 ·omega
 ·exact fun e=>he (e▸ha)
 ·omega)
theorem Rows2.grown {row:Option Nat}(h:Rows2 B E w v1 v2 l r)(hg:w.grownBy w' row)(hr:∀g,row=some g→g<B∨E g):Rows2 B E w' v1 v2 l r:=h.frame hg.size fun b hb hl he=>hg.block b hl (fun e=>by
 rcases hr b e.symm with h1|h1
 ·omega
 ·exact he h1)
theorem uD {p:Nat→Prop}{B n:Nat}{w:World}{v:Value}{ts:List Tm}{xs:List Value}(h1:w.ownsRow B 25 3 v ts.length xs)(h2:RdX p w ts xs)(hp:∀b,p b→B≤b):∃A c,v = .slice A ts.length c∧RdP (fun b=>B≤b) w A 0 ts:=by
 rcases h1.2 with ⟨rfl,h0⟩|⟨g,cap,cur,rfl,hb,hg,_,_,_,htk⟩
 ·have:ts=[]:=lEn h0;subst this;exact ⟨none,0,rfl,RdP.nil⟩
 ·refine ⟨_,_,rfl,RdX.rdp hb (h2.keep hp fun _ _ _=>rfl) fun j u hu=>?_⟩;rw [show 0+0*3+j=j by omega,cell_of_row w g j cur 25 (0,0) hg];rw [← htk,List.getElem?_take] at hu;split at hu
  ·simpa using hu
  ·cases hu
theorem Rows2.rd (h:Rows2 B E w v1 v2 l r):∃A1 c1 A2 c2,v1 = .slice A1 l.length c1∧v2 = .slice A2 r.length c2∧RdP (fun b=>B≤b) w A1 0 l∧RdP (fun b=>B≤b) w A2 0 r:=by
 obtain ⟨⟨xs,ys,h1,h2,h3,h4⟩,h5,_⟩:=h;obtain ⟨A1,c1,e1,r1⟩:=uD (n:=0) h1 h3 fun b hb=>hb.1
 obtain ⟨A2,c2,e2,r2⟩:=uD (n:=0) h2 h4 fun b hb=>hb.1
 exact ⟨A1,c1,A2,c2,e1,e2,r1,r2⟩
theorem RdX.take {p:Nat→Prop}{w:World}{us:List Tm}:∀{ts:List Tm} {xs:List Value},RdX p w (ts++us) xs→RdX p w ts (xs.take (ts.length*3))
 | [],xs,h=>by simp [RdX]
 | .mk k n ks::ts,xs,h=>by
  obtain ⟨A,c,ys,rfl,hl,hr,hx⟩:=h;refine ⟨A,c,ys.take (ts.length*3),?_,hl,hr,hx.take⟩;rw [List.length_cons,Nat.succ_mul];simp [List.take]
theorem rX {n m c:Nat}{A:Option Addr}{xs:List Value}(h:w.ownsRow B 25 3 (.slice A n c) n xs)(hm:m≤n):w.ownsRow B 25 3 (.slice A m c) m (xs.take (m*3)):=by
 refine ⟨by rw [List.length_take,h.1];omega,?_⟩;rcases h.2 with ⟨e,h0⟩|⟨g,cap,cur,e,hb,hg,h1,h2,h3,h4⟩
 ·injection e with e1 e2 e3;subst e1 e3;obtain rfl:m=0:=by omega
  exact .inl ⟨rfl,rfl⟩
 ·injection e with e1 e2 e3;subst e1 e3;exact .inr ⟨g,c,cur,rfl,hb,hg,by omega,h2,h3,by rw [← h4,List.take_take,Nat.min_eq_left (by omega)]⟩
theorem Rows2.take {A1 A2:Option Addr}{c1 c2:Nat}{m1 m2:List Tm}(h:Rows2 B E w (.slice A1 (l++m1).length c1) (.slice A2 (r++m2).length c2) (l++m1) (r++m2)):Rows2 B E w (.slice A1 l.length c1) (.slice A2 r.length c2) l r:=by
 obtain ⟨⟨xs,ys,h1,h2,h3,h4⟩,h5,h6,h7⟩:=h;have e1:∀n m,(Value.slice A1 n c1).ownBlock=(Value.slice A1 m c1).ownBlock:=fun n m=>by cases A1<;>rfl
 have e2:∀n m,(Value.slice A2 n c2).ownBlock=(Value.slice A2 m c2).ownBlock:=fun n m=>by cases A2<;>rfl
 have hp:∀b,P2 B E w (.slice A1 (l++m1).length c1) (.slice A2 (r++m2).length c2) b→P2 B E w (.slice A1 l.length c1) (.slice A2 r.length c2) b:=fun b hb=>⟨hb.1,hb.2.1,by rw [e1 _ (l++m1).length];exact hb.2.2.1,by rw [e2 _ (r++m2).length];exact hb.2.2.2.1,hb.2.2.2.2⟩
 refine ⟨⟨_,_,rX h1 (by simp),rX h2 (by simp),(h3.take).keep hp fun _ _ _=>rfl,(h4.take).keep hp fun _ _ _=>rfl⟩,fun g hg hg'=>h5 g ?_ ?_,fun g hg=>h6 g ?_,fun g hg=>h7 g ?_⟩
 ·rw [e1 _ l.length];exact hg
 ·rw [e2 _ r.length];exact hg'
 ·rw [e1 _ l.length];exact hg
 ·rw [e2 _ r.length];exact hg
end
structure Chg (gf:Nat) (v1 v2:Value) (w w':World):Prop where
 os:w'.os=w.os
 tape:w'.tape=w.tape
 output:w'.output=w.output
 size:w.heap.size≤w'.heap.size
 block:∀b,b<w.heap.size→b≠gf→v1.ownBlock≠some b→v2.ownBlock≠some b→w'.heap[b]?=w.heap[b]?
theorem Chg.of_below {gf:Nat}{v1 v2:Value}{w w':World}(h:Bw w w'):Chg gf v1 v2 w w':=⟨h.os,h.tape,h.output,h.size,fun b hb _ _ _=>h.block b hb⟩
def OwnTo (w:World)(v v':Value):Prop:=v'.ownBlock=v.ownBlock∨∃g,w.heap.size≤g∧v'.ownBlock=some g
theorem OwnTo.refl (w:World)(v:Value):OwnTo w v v:=.inl rfl
def S3 (gf g1 g2:Nat)(c0 c1 c2:Array Value)(w:World):Prop:=Blk w gf c0∧Blk w g1 c1∧Blk w g2 c2
theorem S3.alloc {gf g1 g2:Nat}{c0 c1 c2:Array Value}{w:World}(h:S3 gf g1 g2 c0 c1 c2 w)(o:Obj):S3 gf g1 g2 c0 c1 c2 (w.alloc o):=⟨h.1.alloc o,h.2.1.alloc o,h.2.2.alloc o⟩
theorem S3.grown {gf g1 g2:Nat}{c0 c1 c2:Array Value}{w w':World}{row:Option Nat}(h:S3 gf g1 g2 c0 c1 c2 w)(hg:w.grownBy w' row)(h0:some gf≠row)(h1:some g1≠row)(h2:some g2≠row):S3 gf g1 g2 c0 c1 c2 w':=⟨h.1.grown hg h0,h.2.1.grown hg h1,h.2.2.grown hg h2⟩
theorem Chg.alloc {gf:Nat}{v1 v2:Value}{w w':World}(h:Chg gf v1 v2 w w')(o:Obj):Chg gf v1 v2 w (w'.alloc o):=⟨h.os,h.tape,h.output,Nat.le_trans h.size (by simp),fun b hb h1 h2 h3=>(Below.heap_alloc w' o b (rO hb h.size)).trans (h.block b hb h1 h2 h3)⟩
theorem Chg.drew {gf:Nat}{v1 v2:Value}{w w':World}(h:Chg gf v1 v2 w w'):Chg gf v1 v2 w w'.drew:=⟨h.os,h.tape,h.output,h.size,h.block⟩
theorem Chg.set {gf:Nat}{v1 v2:Value}{w w':World}(h:Chg gf v1 v2 w w'){p:Addr}(hp:p.block=gf∨w.heap.size≤p.block)(u:Value):Chg gf v1 v2 w (w'.setCell p u):=
 ⟨h.os,h.tape,h.output,by simpa using h.size,fun b hb h1 h2 h3=>(oM w' p u b (by rcases hp with e|e;exact fun e'=>h1 (e'.trans e);omega)).trans (h.block b hb h1 h2 h3)⟩
theorem cK {S:World→Prop}{K:Act→World→Prop}{Q:Exit→Act→World→Prop}{a:Act}{w:World}(h:∀wx,wx=w→rJ S K Q .normal a wx):rJ S K Q .normal a w:=h w rfl
theorem aWg {w:World}{g:Nat}{x y:Value}(h:Blk w g #[x,y]):w.cell? ⟨g,0,none⟩=some x∧w.cell? ⟨g,1,none⟩=some y:=⟨h.at_ (i:=0) rfl,h.at_ (i:=1) rfl⟩
end Go.Proofs.YtajjhldcjikkpaaGreat
