/- Parts of the proof. No condition. -/
import Derived.Test.YtddkehjdjfmhmaaGreatK23
import Derived.Test.YtddkehjdjfmhmaaGreatK25
open Go.Proofs.Tryz
namespace Go.Proofs.YtddkehjdjfmhmaaGreat
open Go.RowKit
set_option maxHeartbeats 8000000
set_option maxRecDepth 100000
set_option linter.unusedSimpArgs false
set_option linter.unusedVariables false
theorem eR {N:Nat}{ctx:List Tm}{t s:Tm}(h:bZ N ctx t=some (.ok s)):∃M,N=M+1∧aE t=true∧fT (bZ M) ctx t=some (.ok s)∧aE s=true:=by
 have hv:=cO h;cases N with
 | zero=>cases h
 | succ M=>
  rw [bZ] at h;split at h
  ·rename_i hh
   obtain ⟨o,ho,hs⟩:=bU h;unfold aJm at hs
   split at hs
   ·have:=dH hs;subst this;exact ⟨M,rfl,hh.1,ho,hv⟩
   ·injection hs with hs;cases hs
  ·injection h with h;cases h
theorem aJp {k n:Int}{ks:List Tm}(h:k=2∨k=3∨k=10∨k=13):bS (.mk k n ks)=none:=by
 have h1:cT k ks=0:=by rcases h with rfl|rfl|rfl|rfl<;>simp [cT]
 have h2:fB k<0:=by rcases h with rfl|rfl|rfl|rfl<;>decide
 rw [bS,if_pos h1,if_pos h2]
theorem aPo {k n:Int}{ks:List Tm}(h:k=2∨k=3∨k=10∨k=13)(hv:aE (.mk k n ks)=true):yL (.mk k n ks) = .ok (.mk k n ks):=by
 unfold yL
 rw [if_pos hv,redI,aJp h]
theorem yI {s o:Tm}(hk:s.k=2∨s.k=3∨s.k=10∨s.k=13)(h:yL s = .ok o):o=s:=by
 obtain ⟨k,n,ks⟩:=s;have hv:=(eT h).1;have hk':k=2∨k=3∨k=10∨k=13:=hk;rw [aPo hk' hv] at h;injection h with h;exact h.symm
theorem vM {N:Nat}{ctx:List Tm}{t h:Tm}{kind:Int}(hs:uE (bZ N) ctx t kind=some (.ok h)):∃s,bZ N ctx t=some (.ok s)∧yL s = .ok h:=by
 obtain ⟨s,h1,hs⟩:=bU hs;obtain ⟨o,h2,hs⟩:=bU hs;injection h2 with h2;unfold zW at hs
 split at hs
 ·have:=dH hs;subst this;exact ⟨s,h1,h2⟩
 ·injection hs with hs;cases hs
theorem aEh {N:Nat}{ctx:List Tm}{a b u:Tm}(h:bZ N ctx (.mk 4 0 [a,b])=some (.ok u)):∃M v,bZ M (ctx++[a]) b=some (.ok v)∧u = .mk 3 0 [a,v]:=by
 obtain ⟨M,rfl,_,hk,_⟩:=eR h;rw [fT,if_neg (by decide),if_pos rfl] at hk;obtain ⟨_,_,hk⟩:=bU hk;obtain ⟨v,hv,hk⟩:=bU hk;obtain ⟨_,_,hk⟩:=bU hk;have:=dH hk;exact ⟨M,v,hv,this.symm⟩
def aNt:Tm:=.mk 4 0 [kN,kN]
def tyN (x:NT):Tm:=match x.idx with|none=>kN|some u=>.mk 5 0 [aNt,u.tm]
theorem gD (n:Nat):List.replicate n kN++[kN]=List.replicate (n+1) kN:=(List.replicate_succ' ..).symm
theorem zL (x:NT):∀(n N:Nat) (s:Tm),bZ N (List.replicate n kN) x.tm=some (.ok s)→s=tyN x:=by
 induction x with
 | var i=>
  intro n N s h;obtain ⟨M,rfl,_,hk,_⟩:=eR h;simp only [NT.tm,fT,Int.reduceEq,if_false,if_true,or_self] at hk
  unfold aFf at hk
  split at hk
  ·injection hk with hk;cases hk
  ·rename_i hl
   have:=dH hk;rw [← this];have hlt:n - 1 - i<n:=by simp at hl;omega
   rw [show (List.replicate n kN).getD ((List.replicate n kN).length - 1 - ((i:Nat):Int).toNat) default=kN by simp [List.getD,hlt]];simp [kN,jM,dY,tyN,NT.idx]
 | zero=>
  intro n N s h;obtain ⟨M,rfl,_,hk,_⟩:=eR h;simp only [NT.tm,fT,Int.reduceEq,if_false,if_true,or_self] at hk
  exact (dH hk).symm
 | suc a _=>
  intro n N s h;obtain ⟨M,rfl,_,hk,_⟩:=eR h;simp only [NT.tm,fT,Int.reduceEq,if_false,if_true,or_self] at hk
  obtain ⟨_,_,hk⟩:=bU hk;exact (dH hk).symm
 | app b a h1 h2=>
  intro n N s h;obtain ⟨M,rfl,_,hk,_⟩:=eR h;simp only [NT.tm,fT,Int.reduceEq,if_false,if_true,or_self] at hk
  obtain ⟨hh,hs,hk⟩:=bU hk;obtain ⟨_,_,hk⟩:=bU hk;obtain ⟨u,hu,hd⟩:=vM hs;obtain ⟨L,v,hv,rfl⟩:=aEh hu;have:=yI (.inr (.inl rfl)) hd;subst this;rw [show ([kN]:List Tm)=[kN] from rfl,gD] at hv;have hty:=h1 (n+1) L v hv;have:=dH hk;rw [← this];show jB a.tm 0 0 v=_
  rw [hty];unfold tyN
  rw [NT.idx];cases b.idx with
  | none=>simp [kN,jB,dQ]
  | some w=>
   have:=NT.tm_sub w a 0;simp only [Option.map_some]
   rw [← this];simp [aNt,kN,jB,dQ,aO,binds]
 | elim z s m _ _ _=>
  intro n N t h;obtain ⟨M,rfl,_,hk,_⟩:=eR h;simp only [NT.tm,fT,Int.reduceEq,if_false,if_true,or_self] at hk
  obtain ⟨_,_,hk⟩:=bU hk;obtain ⟨_,_,hk⟩:=bU hk;obtain ⟨_,_,hk⟩:=bU hk;obtain ⟨_,_,hk⟩:=bU hk;exact (dH hk).symm
 | part q a b _ _=>
  intro n N t h;obtain ⟨M,rfl,_,hk,_⟩:=eR h;have key:∀k:Int,aRo (bZ M) (List.replicate n kN) k (.mk 14 0 [.mk 13 0 [kN,kN],a.tm,b.tm])=some (.ok t)→t=kN:=by
   intro k hk;obtain ⟨hh,hs,hk⟩:=bU hk;obtain ⟨u,hu,hd⟩:=vM hs;obtain ⟨L,rfl,_,hu2,_⟩:=eR hu;simp only [fT,Int.reduceEq,if_false,if_true,or_self] at hu2
   obtain ⟨_,_,hu2⟩:=bU hu2;obtain ⟨_,_,hu2⟩:=bU hu2;obtain ⟨_,_,hu2⟩:=bU hu2;obtain ⟨_,_,hu2⟩:=bU hu2;obtain ⟨_,_,hu2⟩:=bU hu2;have:=dH hu2;subst this;have:=yI (.inr (.inr (.inr rfl))) hd;subst this;split at hk
   ·exact (dH hk).symm
   ·rw [← dH hk];simp [aL,Tm.ks,kN,jB,dQ]
  cases q with
  | false=>simp only [NT.tm,fT,Int.reduceEq,if_false,if_true,or_self] at hk;exact key 15 hk
  | true=>simp only [NT.tm,fT,Int.reduceEq,if_false,if_true,or_self] at hk;exact key 16 hk
 | mov x z h1 _=>
  intro n N t h;obtain ⟨M,rfl,_,hk,_⟩:=eR h;simp only [NT.tm,fT,Int.reduceEq,if_false,if_true,or_self] at hk
  obtain ⟨hh,hs,hk⟩:=bU hk;obtain ⟨_,_,hk⟩:=bU hk;obtain ⟨_,_,hk⟩:=bU hk;obtain ⟨u,hu,hd⟩:=vM hs;obtain ⟨L,rfl,_,hu2,_⟩:=eR hu;simp only [aL,List.getD_cons_succ,List.getD_cons_zero,fT,Int.reduceEq,if_false,if_true,or_self] at hu2
  obtain ⟨v,hv,hu2⟩:=bU hu2;obtain ⟨_,_,hu2⟩:=bU hu2;have:=dH hu2;subst this;have:=yI (.inr (.inr (.inl rfl))) hd;subst this;first
   | exact (dH hk).symm
   | (obtain ⟨_,_,hk⟩:=bU hk;exact (dH hk).symm)
/-! the inference ends -/
theorem aKb {ctx:List Tm}{t:Tm}(h:aE t=false):Ends ctx t:=⟨1,.no false,by rw [bZ,if_neg (by rw [h];rintro ⟨h,-⟩;cases h)]⟩
theorem gZ (ctx:List Tm):Ends ctx default:=aKb (by decide)
theorem mA (ctx:List Tm)(k n:Int):Ends ctx (.mk k n []):=by
 refine kE (fun i _=>gZ _) (fun _ N u h=>?_) (fun _ N u h=>?_)
 ·obtain ⟨_,_,hv,_⟩:=eR h;exact absurd hv (by decide)
 ·obtain ⟨_,_,hv,_⟩:=eR h;exact absurd hv (by decide)
theorem aBr {ctx:List Tm}{k n:Int}{a:Tm}(hb:binds k=false)(ha:Ends ctx a)(h11:k=11→∀N u,bZ N ctx a=some (.ok u)→Ends ctx u):Ends ctx (.mk k n [a]):=by
 have h4:k≠4:=by rintro rfl;cases hb
 refine kE (fun i hi=>?_) (fun h=>absurd h h4) h11;rw [cxo,if_neg (by rw [hb];rintro ⟨-,h⟩;cases h)];rcases (show i=0∨i=1∨i=2∨i=3 by omega) with rfl|rfl|rfl|rfl
 ·exact ha
 ·exact gZ _
 ·exact gZ _
 ·exact gZ _
theorem aPd {ctx:List Tm}{k n:Int}{a b:Tm}(hb:binds k=false)(h11:k≠11)(ha:Ends ctx a)(hbb:Ends ctx b):Ends ctx (.mk k n [a,b]):=by
 have h4:k≠4:=by rintro rfl;cases hb
 refine kE (fun i hi=>?_) (fun h=>absurd h h4) (fun h=>absurd h h11);rw [cxo,if_neg (by rw [hb];rintro ⟨-,h⟩;cases h)];rcases (show i=0∨i=1∨i=2∨i=3 by omega) with rfl|rfl|rfl|rfl
 ·exact ha
 ·exact hbb
 ·exact gZ _
 ·exact gZ _
theorem aEc {ctx:List Tm}{k n:Int}{a b c:Tm}(hb:binds k=false)(h11:k≠11)(ha:Ends ctx a)(hbb:Ends ctx b)(hc:Ends ctx c):Ends ctx (.mk k n [a,b,c]):=by
 have h4:k≠4:=by rintro rfl;cases hb
 refine kE (fun i hi=>?_) (fun h=>absurd h h4) (fun h=>absurd h h11);rw [cxo,if_neg (by rw [hb];rintro ⟨-,h⟩;cases h)];rcases (show i=0∨i=1∨i=2∨i=3 by omega) with rfl|rfl|rfl|rfl
 ·exact ha
 ·exact hbb
 ·exact hc
 ·exact gZ _
theorem aSw {ctx:List Tm}{k n:Int}{a b c d:Tm}(hb:binds k=false)(h11:k≠11)(ha:Ends ctx a)(hbb:Ends ctx b)(hc:Ends ctx c)(hd:Ends ctx d):Ends ctx (.mk k n [a,b,c,d]):=by
 have h4:k≠4:=by rintro rfl;cases hb
 refine kE (fun i hi=>?_) (fun h=>absurd h h4) (fun h=>absurd h h11);rw [cxo,if_neg (by rw [hb];rintro ⟨-,h⟩;cases h)];rcases (show i=0∨i=1∨i=2∨i=3 by omega) with rfl|rfl|rfl|rfl
 ·exact ha
 ·exact hbb
 ·exact hc
 ·exact hd
theorem aBd {ctx:List Tm}{k n:Int}{a b:Tm}(hb:binds k=true)(ha:Ends ctx a)(hbb:Ends (ctx++[a]) b)(h4:k=4→∀N u,bZ N (ctx++[a]) b=some (.ok u)→Ends (ctx++[a]) u):Ends ctx (.mk k n [a,b]):=by
 have h11:k≠11:=by rintro rfl;cases hb
 refine kE (fun i hi=>?_) h4 (fun h=>absurd h h11);rcases (show i=0∨i=1∨i=2∨i=3 by omega) with rfl|rfl|rfl|rfl
 ·rw [cxo,if_neg (by rintro ⟨h,-⟩;cases h)];exact ha
 ·rw [cxo,if_pos ⟨rfl,hb⟩];exact hbb
 ·rw [cxo,if_neg (by rintro ⟨h,-⟩;cases h)];exact gZ _
 ·rw [cxo,if_neg (by rintro ⟨h,-⟩;cases h)];exact gZ _
theorem jY (ctx:List Tm):Ends ctx kN:=mA _ _ _
theorem aTj {N:Nat}{ctx:List Tm}{u:Tm}(h:bZ N ctx kN=some (.ok u)):u = .mk 2 0 []:=by
 obtain ⟨M,rfl,_,hk,_⟩:=eR h;simp only [kN,fT,Int.reduceEq,if_false,if_true,or_self] at hk
 exact (dH hk).symm
theorem qU (ctx:List Tm):Ends ctx aNt:=aBd rfl (jY _) (jY _) fun _ N u h=>by rw [aTj h];exact mA _ _ _
theorem rI (ctx:List Tm):Ends ctx (.mk 13 0 [kN,kN]):=aBd rfl (jY _) (jY _) fun h=>absurd h (by decide)
theorem tR {n:Nat}{x:NT}(h:∀u,x.idx=some u→Ends (List.replicate n kN) u.tm):Ends (List.replicate n kN) (tyN x):=by
 unfold tyN
 cases hx:x.idx with
 | none=>exact jY _
 | some u=>exact aPd rfl (by decide) (qU _) (h u hx)
theorem oO {n:Nat}{b:NT}(h:Ends (List.replicate (n+1) kN) b.tm)(hu:∀u,b.idx=some u→Ends (List.replicate (n+1) kN) u.tm):Ends (List.replicate n kN) (.mk 4 0 [kN,b.tm]):=by
 refine aBd rfl (jY _) (by rw [gD];exact h) (fun _ N u h=>?_);rw [gD] at h⊢;rw [zL b _ _ _ h];exact tR hu
theorem uB {n:Nat}{s:NT}(h:Ends (List.replicate (n+2) kN) s.tm)(hu:∀u,s.idx=some u→Ends (List.replicate (n+2) kN) u.tm):Ends (List.replicate n kN) (.mk 4 0 [kN,.mk 4 0 [kN,s.tm]]):=by
 refine aBd rfl (jY _) (by rw [gD];exact oO h hu) (fun _ N u h2=>?_);rw [gD] at h2⊢;obtain ⟨M,v,hv,rfl⟩:=aEh h2;rw [gD] at hv;rw [zL s _ _ _ hv];exact aBd rfl (jY _) (by rw [gD];exact tR hu) (fun h=>absurd h (by decide))
theorem dG {n:Nat}{x:NT}(h:NT.Gd n x):Ends (List.replicate n kN) x.tm∧∀u,x.idx=some u→Ends (List.replicate n kN) u.tm:=by
 induction h with
 | var h=>exact ⟨mA _ _ _,fun u hu=>by cases hu⟩
 | zero=>exact ⟨mA _ _ _,fun u hu=>by cases hu⟩
 | suc h ih=>exact ⟨aBr rfl ih.1 (fun h=>absurd h (by decide)),fun u hu=>by cases hu⟩
 | @app n b a h1 h2 h3 i1 i2 i3=>
  refine ⟨aPd rfl (by decide) (oO i1.1 i1.2) i2.1,fun u hu=>?_⟩;rw [NT.idx] at hu;cases hb:b.idx with
  | none=>rw [hb] at hu;cases hu
  | some v=>rw [hb] at hu;injection hu with hu;subst hu;exact (i3 v hb).1
 | elim h1 h2 h3 i1 i2 i3=>
  exact ⟨aSw rfl (by decide) (qU _) i1.1 (uB i2.1 i2.2) i3.1,fun u hu=>by injection hu with hu;subst hu;exact i3.1⟩
 | @part n q a b h1 h2 i1 i2=>
  refine ⟨?_,fun u hu=>by cases hu⟩;cases q with
  | false=>exact aBr rfl (aEc rfl (by decide) (rI _) i1.1 i2.1) (fun h=>absurd h (by decide))
  | true=>exact aBr rfl (aEc rfl (by decide) (rI _) i1.1 i2.1) (fun h=>absurd h (by decide))
 | @mov n x z h1 h2 i1 i2=>
  refine ⟨aEc rfl (by decide) (qU _) (aBr rfl i1.1 (fun _ N u hu=>?_)) i2.1,fun u hu=>by injection hu with hu;subst hu;exact i1.1⟩;rw [zL x _ _ _ hu];exact tR i1.2
theorem rZ (w:World)(lo:Nat→Prop){B:Nat}(hB:B≤w.heap.size):PartR lo B (w.alloc (.cells #[] 25)) (.slice (some ⟨w.heap.size,0,none⟩) 0 0) []:=
 ⟨[],⟨by simp,.inr ⟨_,0,#[],rfl,hB,heap_alloc_new w _,iD _,by simp [maxLen],by simp,by simp⟩⟩,rfl⟩
theorem aKu {w0 w:World}{A:Option Addr}{ks:List Tm}(hr:Rd w0 A 0 ks)(hw:w0.heap.size≤w.heap.size)(hb:Bw w0 (w.alloc (.cells #[] 25))):RdP (zT (w.alloc (.cells #[] 25)) (.slice (some ⟨w.heap.size,0,none⟩) 0 0)) (w.alloc (.cells #[] 25)) A 0 ks:=
 (hr.rdp.below hb).mono (fun b hb=>⟨by simp;omega,fun e=>by
  have e2:w.heap.size=b:=by injection e
  omega⟩)
theorem aSa {N:Nat}{ctx:List Tm}{t s:Tm}{c:Int}(h:itR N ctx t=some (c,some s)):c=0∧aE t=true∧tF ctx=true:=by
 unfold itR at h
 split at h
 ·rename_i hv
  split at h
  ·cases h
  ·split at h
   ·split at h
    ·cases h
    ·injection h with h;cases h
    ·injection h with h;injection h with h1 h2;exact ⟨h1.symm,hv.2,hv.1⟩
   ·injection h with h;cases h
 ·injection h with h;cases h
theorem aRn {N:Nat}{ctx:List Tm}{t:Tm}{c:Int}(h:itR N ctx t=some (c,none)):c≠0:=by
 unfold itR at h
 split at h
 ·split at h
  ·cases h
  ·split at h
   ·split at h
    ·cases h
    ·injection h with h;injection h with h;rw [← h];exact aJs _
    ·injection h with h;cases h
   ·injection h with h;injection h with h;rw [← h];assumption
 ·injection h with h;injection h with h;rw [← h];decide
def aUl (w:World)(R:Int × List Tm)(e:Ending)(w':World):Prop:=
 ∃A c,e = .returned (.tuple #[.slice A R.2.length c,.int .i64 R.1])∧PartR (fun _=>False) w.heap.size w' (.slice A R.2.length c) R.2∧Bw w w'
theorem PartR.mono_ {B B':Nat}{w:World}{v:Value}{ts:List Tm}(h:PartR (fun _=>False) B w v ts)(hB:B'≤B):PartR (fun _=>False) B' w v ts:=by
 obtain ⟨xs,h1,h2⟩:=h;have h3:w.ownsRow B' 25 3 v ts.length xs:=by
  refine ⟨h1.1,?_⟩;rcases h1.2 with hn|⟨g,cap,cur,rfl,hb,hg,r⟩
  ·exact .inl hn
  ·exact .inr ⟨g,cap,cur,rfl,by omega,hg,r⟩
 exact ⟨xs,h3,h2.keep (fun b hb=>⟨hb.1.imp id (fun h=>by omega),hb.2⟩) (fun b _ _=>rfl)⟩
theorem sS {w w1 w2:World}{v:Value}{g:Nat}(h:Bw w w1)(hg:w1.grownBy w2 v.ownBlock)(ho:∀b,v.ownBlock=some b→w.heap.size≤b):Bw w w2:=
 ⟨hg.os.trans h.os,hg.tape.trans h.tape,hg.output.trans h.output,Nat.le_trans h.size hg.size,fun k hk=>(hg.block k (kT hk h.size) (fun e=>by have:=ho k e.symm;omega)).trans (h.block k hk)⟩
theorem wL (N:Nat)(ctx:List Tm)(C:Option Addr)(cc:Nat)(k n:Int)(ks:List Tm)(A:Option Addr)(c:Nat)(R:Int × List Tm)(w:World)(hs:anR N ctx (.mk k n ks)=some R)(hcc:ctx.length≤cc)(hszc:aG ctx≤1000000)(hsz:aG ks≤1000000)(hrc:Rd w C 0 ctx)(hr:Rd w A 0 ks) :
  Calls prog 16 #[.slice C ctx.length cc,.agg (Ro k n A ks.length c)] w (aUl w R):=by
 unfold anR at hs
 cases hit:itR N ctx (.mk k n ks) with
 | none=>rw [hit] at hs;cases hs
 | some ir=>
  obtain ⟨co,oo⟩:=ir;have hI:=aD (fun (w:World) (hrc:Rd w C 0 ctx) (hr:Rd w A 0 ks)=>uO N ctx C cc k n ks A c _ w hit hcc hszc hsz hrc hr);rw [hit] at hs;cases oo with
  | none=>
   injection hs with hs;subst hs;have qc:(co != 0)=true:=by simpa using aRn hit
   clear hit;go_enter func16,ntmps16;go_wp2_with (go_at_call 49;refine (hI.out _ (hrc.alloc _) (hr.alloc _)).mono ?_;rintro e w1 ⟨rfl,hb1⟩;have hT1:=nJ hb1;have g1:Bw w w1:=bW bw1 hb1;have g2:=g1.alloc g1.size (.cells Zr 25))
   go_ret2
   exact ⟨_,_,rfl,by simpa using rZ (w1.alloc (.cells Zr 25)) (fun _=>False) (B:=w.heap.size) g2.size,g2.alloc g2.size _⟩
  | some s1'=>
   obtain ⟨k1,n1,s1⟩:=s1';obtain ⟨rfl,hv,hf⟩:=aSa hit;have hfi:=uU hf;have hM:=aI hv;simp only at hs
   cases hn:eN N ctx (.mk k n ks) with
   | none=>rw [hn] at hs;cases hs
   | some rr=>
    rw [hn] at hs;have hN:=aD (fun (w' w2:World) (g:Nat) (hgg:g=w2.heap.size) (hw:w'=w2.alloc (.cells #[] 25)) (hb:w.heap.size≤w2.heap.size) (hrc:Rd w2 C 0 ctx) (hr:Rd w2 A 0 ks)=>by
     have hb2:Bw w2 (w2.alloc (.cells #[] 25)):=bw1;have:=aHo N w2.heap.size (aG ks+1) ctx k n ks rr C cc A c [] (some ⟨w2.heap.size,0,none⟩) 0 (w2.alloc (.cells #[] 25)) (by omega) hn hv hfi.1 (by omega) (by simp;omega) (by simp) (aKu hrc (iD _) hb2) (aKu hr (iD _) hb2) (rZ _ _ (iD _));rw [← hw,← hgg] at this;exact (this:Calls prog 50 #[.slice (some ⟨g,0,none⟩) 0 0,.slice C ctx.length cc,.agg (Ro k n A ks.length c)] w' (aTg (.slice (some ⟨g,0,none⟩) 0 0) g w' [] rr)))
    cases rr with
    | no b=>
     injection hs with hs;subst hs;have qb:=fO b;clear hit hv hf hfi hn;go_enter func16,ntmps16;go_wp2_with (first
      | (go_at_call 50;have _t:=tok;refine (hN.out _ (w1.alloc (.cells (Ro k1 n1 A1 s1.length c1) 25)) _ (by simp) rfl (by have:=g2.size;omega) (hrc.below g2) (hr.below g2)).mono ?_;rintro e w3 ⟨A5,l5,c5,rfl,hg⟩;have g3:Bw w w3:=sS (g:=0) (g2.alloc g2.size (.cells #[] 25)) hg (fun b hb=>by have e2:w1.heap.size+1=b:=(by injection hb);have:=g1.size;omega))
      | (go_at_call 49;refine (hI.out _ (hrc.alloc _) (hr.alloc _)).mono ?_;rintro e w1 ⟨A1,c1,rfl,hl1,r1,hb1⟩;have hT1:=nJ hb1;have g1:Bw w w1:=bW bw1 hb1;have g2:=g1.alloc g1.size (.cells (Ro k1 n1 A1 s1.length c1) 25);have hT2:=hT1.alloc (.cells (Ro k1 n1 A1 s1.length c1) 25);have ltw:=hT1.lt;obtain ⟨x0,x1,x2⟩:=hT2.three;have tok:=trivial))
     go_ret2
     exact ⟨_,_,rfl,rZ w3 (fun _=>False) (B:=w.heap.size) g3.size,g3.alloc g3.size _⟩
    | ok ns=>
     injection hs with hs;subst hs;clear hit hv hf hfi hn;go_enter func16,ntmps16;go_wp2_with (first
      | (go_at_call 50;have _t:=tok;refine (hN.out _ (w1.alloc (.cells (Ro k1 n1 A1 s1.length c1) 25)) _ (by simp) rfl (by have:=g2.size;omega) (hrc.below g2) (hr.below g2)).mono ?_;rintro e w3 ⟨A5,c5,rfl,hP,hg,ho⟩;have g3:Bw w w3:=sS (g:=0) (g2.alloc g2.size (.cells #[] 25)) hg (fun b hb=>by have e2:w1.heap.size+1=b:=(by injection hb);have:=g1.size;omega))
      | (go_at_call 49;refine (hI.out _ (hrc.alloc _) (hr.alloc _)).mono ?_;rintro e w1 ⟨A1,c1,rfl,hl1,r1,hb1⟩;have hT1:=nJ hb1;have g1:Bw w w1:=bW bw1 hb1;have g2:=g1.alloc g1.size (.cells (Ro k1 n1 A1 s1.length c1) 25);have hT2:=hT1.alloc (.cells (Ro k1 n1 A1 s1.length c1) 25);have ltw:=hT1.lt;obtain ⟨x0,x1,x2⟩:=hT2.three;have tok:=trivial))
     go_ret2
     exact ⟨A5,c5,rfl,hP.mono_ (by have:=g2.size;simp at this;omega),g3⟩
theorem aOn (N:Nat):(∀(t:Tm) (ctx:List Tm),Le (eN N ctx t) (eN (N+1) ctx t))∧∀(ts:List Tm) (ctx:List Tm) (k:Int) (t0:Tm) (i:Nat),Le (fX N ctx k t0 i ts) (fX (N+1) ctx k t0 i ts):=by
 refine bM (fun k n ks ih ctx=>?_) (fun ctx k t0 i=>?_) (fun t ts h1 h2 ctx k t0 i=>?_)
 ·rw [eN,eN];exact dP (tZ N _ _) fun _=>dP (ih _ _ _ _) fun _=>Le.refl _
 ·rw [fX,fX];exact Le.refl _
 ·rw [fX,fX];exact dP (h1 _) fun _=>dP (h2 _ _ _ _) fun _=>Le.refl _
theorem aHp {N M:Nat}(h:N≤M)(ctx:List Tm)(t:Tm):Le (eN N ctx t) (eN M ctx t):=by
 induction M with
 | zero=>rw [show N=0 by omega];exact Le.refl _
 | succ M ih=>
  by_cases hN:N=M+1
  ·rw [hN];exact Le.refl _
  ·exact fun r hr=>(aOn M).1 t ctx r (ih (by omega) r hr)
def EndsN (ctx:List Tm)(t:Tm):Prop:=∃N r,eN N ctx t=some r
theorem EndsN.at_ {ctx:List Tm}{t:Tm}(h:EndsN ctx t):∃N,∀M,N≤M→Df (eN M ctx t):=by
 obtain ⟨N,r,h⟩:=h;exact ⟨N,fun M hM=>⟨r,aHp hM _ _ _ h⟩⟩
def cxn (ctx:List Tm)(k:Int)(t0:Tm)(i:Nat):List Tm:=if ((i:Int)==1 && binds k)=true then ctx++[t0] else ctx
theorem aPh:∀(ts:List Tm) (ctx:List Tm) (k:Int) (t0:Tm) (i:Nat),(∀j,(hj:j<ts.length)→EndsN (cxn ctx k t0 (i+j)) ts[j])→∃N,∀M,N≤M→Df (fX M ctx k t0 i ts)
 | [],ctx,k,t0,i,_=>⟨0,fun M _=>by rw [fX];exact bP _⟩
 | t::ts,ctx,k,t0,i,h=>by
  obtain ⟨N1,g1⟩:=(h 0 (by simp)).at_;obtain ⟨N2,g2⟩:=aPh ts ctx k t0 (i+1) (fun j hj=>by have:=h (j+1) (by simpa using hj);rwa [show i+(j+1)=i+1+j by omega] at this);refine ⟨N1+N2,fun M hM=>?_⟩;rw [fX];exact dJ (g1 M (by omega)) fun _ _=>dJ (g2 M (by omega)) fun _ _=>bP _
theorem iT {ctx:List Tm}{k n:Int}{ks:List Tm}(h:Ends ctx (.mk k n ks))(hk:∀j,(hj:j<ks.length)→EndsN (cxn ctx k (aL ks 0) j) ks[j]):EndsN ctx (.mk k n ks):=by
 obtain ⟨N1,g1⟩:=h.at_;obtain ⟨N2,g2⟩:=aPh ks ctx k (aL ks 0) 0 (fun j hj=>by rw [Nat.zero_add];exact hk j hj);have:Df (eN (N1+N2) ctx (.mk k n ks)):=by
  rw [eN];exact dJ (g1 _ (by omega)) fun _ _=>dJ (g2 _ (by omega)) fun _ _=>bP _
 obtain ⟨r,hr⟩:=this;exact ⟨_,r,hr⟩
theorem yK {ctx:List Tm}{k:Int}{t0:Tm}{i:Nat}(hb:binds k=false):cxn ctx k t0 i=ctx:=by rw [cxn,hb,Bool.and_false,if_neg (by decide)]
theorem en0 (ctx:List Tm)(k n:Int):EndsN ctx (.mk k n []):=iT (mA _ _ _) fun j hj=>absurd hj (by simp)
theorem en1 {ctx:List Tm}{k n:Int}{a:Tm}(hb:binds k=false)(h:Ends ctx (.mk k n [a]))(ha:EndsN ctx a):EndsN ctx (.mk k n [a]):=iT h fun j hj=>by
 rw [yK hb];match j,hj with
 | 0,_=>exact ha
theorem en2 {ctx:List Tm}{k n:Int}{a b:Tm}(hb:binds k=false)(h:Ends ctx (.mk k n [a,b]))(h0:EndsN ctx a)(h1:EndsN ctx b):EndsN ctx (.mk k n [a,b]):=iT h fun j hj=>by
 rw [yK hb];match j,hj with
 | 0,_=>exact h0
 | 1,_=>exact h1
theorem en3 {ctx:List Tm}{k n:Int}{a b c:Tm}(hb:binds k=false)(h:Ends ctx (.mk k n [a,b,c]))(h0:EndsN ctx a)(h1:EndsN ctx b)(h2:EndsN ctx c):EndsN ctx (.mk k n [a,b,c]):=iT h fun j hj=>by
 rw [yK hb];match j,hj with
 | 0,_=>exact h0
 | 1,_=>exact h1
 | 2,_=>exact h2
theorem en4 {ctx:List Tm}{k n:Int}{a b c d:Tm}(hb:binds k=false)(h:Ends ctx (.mk k n [a,b,c,d]))(h0:EndsN ctx a)(h1:EndsN ctx b)(h2:EndsN ctx c)(h3:EndsN ctx d):EndsN ctx (.mk k n [a,b,c,d]):=iT h fun j hj=>by
 rw [yK hb];match j,hj with
 | 0,_=>exact h0
 | 1,_=>exact h1
 | 2,_=>exact h2
 | 3,_=>exact h3
theorem enB {ctx:List Tm}{k n:Int}{a b:Tm}(hb:binds k=true)(h:Ends ctx (.mk k n [a,b]))(h0:EndsN ctx a)(h1:EndsN (ctx++[a]) b):EndsN ctx (.mk k n [a,b]):=iT h fun j hj=>by
 match j,hj with
 | 0,_=>rw [cxn,if_neg (by simp)];exact h0
 | 1,_=>rw [cxn,if_pos (by rw [hb];rfl)];exact h1
theorem vG (ctx:List Tm):EndsN ctx kN:=en0 _ _ _
theorem aJx (ctx:List Tm):EndsN ctx aNt:=enB rfl (qU _) (vG _) (vG _)
theorem aId (ctx:List Tm):EndsN ctx (.mk 13 0 [kN,kN]):=enB rfl (rI _) (vG _) (vG _)
theorem aSq {n:Nat}{x:NT}(h:NT.Gd n x):EndsN (List.replicate n kN) x.tm:=by
 have hE:=(dG h).1;induction h with
 | var h=>exact en0 _ _ _
 | zero=>exact en0 _ _ _
 | suc h ih=>exact en1 rfl hE (ih (dG h).1)
 | @app n b a h1 h2 h3 i1 i2 i3=>
  exact en2 rfl hE (enB rfl (oO (dG h1).1 (dG h1).2) (vG _) (by rw [gD];exact i1 (dG h1).1)) (i2 (dG h2).1)
 | @elim n z s m h1 h2 h3 i1 i2 i3=>
  refine en4 rfl hE (aJx _) (i1 (dG h1).1) (enB rfl (uB (dG h2).1 (dG h2).2) (vG _) ?_) (i3 (dG h3).1);rw [gD];exact enB rfl (oO (dG h2).1 (dG h2).2) (vG _) (by rw [gD];exact i2 (dG h2).1)
 | @part n q a b h1 h2 i1 i2=>
  have h3:Ends (List.replicate n kN) (.mk 14 0 [.mk 13 0 [kN,kN],a.tm,b.tm]):=aEc rfl (by decide) (rI _) (dG h1).1 (dG h2).1;cases q with
  | false=>exact en1 rfl hE (en3 rfl h3 (aId _) (i1 (dG h1).1) (i2 (dG h2).1))
  | true=>exact en1 rfl hE (en3 rfl h3 (aId _) (i1 (dG h1).1) (i2 (dG h2).1))
 | @mov n x z h1 h2 i1 i2=>
  have h3:Ends (List.replicate n kN) (.mk 11 0 [x.tm]):=aBr rfl (dG h1).1 (fun _ N u hu=>by rw [zL x _ _ _ hu];exact tR (dG h1).2);exact en3 rfl hE (aJx _) (en1 rfl h3 (i1 (dG h1).1)) (i2 (dG h2).1)
theorem aIq {N:Nat}{ctx:List Tm}(h:∀j,j<ctx.length→Df (bZ N (ctx.take j) (ctx.getD j default))):∀m,m≤ctx.length→Df (ccG N ctx m)
 | 0,_=>bP _
 | m+1,hm=>by
  rw [ccG];obtain ⟨r,hr⟩:=nB (h (ctx.length - (m+1)) (by omega));rw [hr];cases r with
  | no b=>exact bP _
  | ok l=>exact aIq h m (by omega)
theorem aSg {N:Nat}{ctx:List Tm}{t:Tm}(hc:∀j,j<ctx.length→Df (bZ N (ctx.take j) (ctx.getD j default)))(h1:Df (bZ N ctx t))(h2:Df (eN N ctx t)):Df (anR N ctx t):=by
 have hi:Df (itR N ctx t):=by
  unfold itR
  split
  ·obtain ⟨c,hc⟩:=aIq hc ctx.length (iD _);rw [hc];simp only
   split
   ·obtain ⟨r,hr⟩:=h1;rw [hr];cases r<;>exact bP _
   ·exact bP _
  ·exact bP _
 unfold anR
 obtain ⟨⟨c,o⟩,hi⟩:=hi;rw [hi];cases o with
 | none=>exact bP _
 | some s=>
  obtain ⟨r,hr⟩:=h2;simp only
  rw [hr];cases r<;>exact bP _
theorem aJa:(prs0.all fun t=>(anR 40 [] t).isSome)=true∧(prs1.all fun t=>(anR 40 aNd t).isSome)=true∧(prs2.all fun t=>(anR 40 aOq t).isSome)=true∧(prs3.all fun t=>(anR 40 aNc t).isSome)=true:=⟨by kernel_rfl,by kernel_rfl,by kernel_rfl,by kernel_rfl⟩
theorem aLh {ctx:List Tm}{t:Tm}(h:mQ ctx t):∃N R,anR N ctx t=some R:=by
 rcases h with ⟨m,hm,rfl,x,hx,-,rfl⟩|⟨us,hp,hu⟩
 ·have hg:=NT.gd_any x m hx;obtain ⟨N1,g1⟩:=(dG hg).1.at_;obtain ⟨N2,g2⟩:=(aSq hg).at_;have hc:∀j,j<m→Ends ((List.replicate m kN).take j) ((List.replicate m kN).getD j default):=fun j hj=>by
   rw [show (List.replicate m kN).getD j default=kN by simp [List.getD,hj]];exact jY _
  have hN3:∃N,∀j,j<m→∀M,N≤M→Df (bZ M ((List.replicate m kN).take j) ((List.replicate m kN).getD j default)):=by
   have:∀l,l≤m→∃N,∀j,j<l→∀M,N≤M→Df (bZ M ((List.replicate m kN).take j) ((List.replicate m kN).getD j default)):=by
    intro l;induction l with
    | zero=>intro _;exact ⟨0,fun j hj=>absurd hj (by omega)⟩
    | succ l ih=>
     intro hl;obtain ⟨N,hN⟩:=ih (by omega);obtain ⟨N',hN'⟩:=(hc l (by omega)).at_;refine ⟨N+N',fun j hj M hM=>?_⟩;by_cases h:j<l
     ·exact hN j h M (by omega)
     ·obtain rfl:j=l:=by omega
      exact hN' M (by omega)
   exact this m (iD _)
  obtain ⟨N3,g3⟩:=hN3;obtain ⟨R,hR⟩:=aSg (N:=N1+N2+N3) (ctx:=List.replicate m kN) (t:=x.tm) (fun j hj=>g3 j (by simpa using hj) _ (by omega)) (g1 _ (by omega)) (g2 _ (by omega));exact ⟨_,R,hR⟩
 ·obtain ⟨p0,p1,p2,p3⟩:=aJa;have key:∀{c:List Tm} {l:List Tm},(l.all fun t=>(anR 40 c t).isSome)=true→t∈l→∃N R,anR N c t=some R:=fun h ht=>by
   have:=List.all_eq_true.1 h _ ht;obtain ⟨R,hR⟩:=Option.isSome_iff_exists.1 this;exact ⟨40,R,hR⟩
  rcases hp with ⟨rfl,rfl⟩|⟨rfl,rfl⟩|⟨rfl,rfl⟩|⟨rfl,rfl⟩
  ·exact key p0 hu
  ·exact key p1 hu
  ·exact key p2 hu
  ·exact key p3 hu
def gV:Tm→List Int→Nat
 | _,[]=>0
 | t,i::is=>1+aG (t.kids.take i.toNat)+gV (t.kids.getD i.toNat default) is
theorem aBk {ks:List Tm}{i:Nat}(hi:i<ks.length):aG (ks.take i)+(ks.getD i default).size≤aG ks:=by
 have h1:=gN ks i hi;have h2:=dB ks (i+1);rw [List.getD_eq_getElem?_getD,iG hi,Option.getD_some];omega
theorem uJ {u:Tm}:∀{xs:List Int} {t:Tm},eP t xs=some u→gV t xs+u.size≤t.size
 | [],t,h=>by cases h;simp [gV]
 | i::is,t,h=>by
  rw [eP] at h;split at h
  ·rename_i hh
   obtain ⟨k,n,ks⟩:=t;have h1:=uJ h;simp only [Tm.kids] at h1 hh
   have h2:=aBk (ks:=ks) (i:=i.toNat) (by omega);rw [gV,Tm.size];simp only [Tm.kids]
   omega
  ·cases h
def fC (t:Tm)(notes:List Tm)(xs:List Int):Option Tm:=
 if (gK t xs).isSome=true∧notes.length=t.size then (if aE (notes.getD (gV t xs) default)=true then some (notes.getD (gV t xs) default) else none) else none
theorem nO (k n:Int)(ks:List Tm)(A:Option Addr)(c:Nat)(notes:List Tm)(B:Option Addr)(cb:Nat)(xs:List Int)(P:Option Addr)(cp:Nat)(w:World)(hM:aG ks≤1048576)(hMn:aG notes≤1048576)(hx:xs.length≤1048576)(hr:Rd w A 0 ks)(hrB:Rd w B 0 notes)(hi:RdI w P xs) :
  Calls prog 6 #[.agg (Ro k n A ks.length c),.slice B notes.length cb,.slice P xs.length cp] w (oX w (fC (.mk k n ks) notes xs)):=by
 have hlen:=aJ ks;have hlenB:=aJ notes;cases hta:gK (.mk k n ks) xs with
 | none=>
  have hz:fC (.mk k n ks) notes xs=none:=by rw [fC,if_neg];rintro ⟨h,-⟩;rw [hta] at h;cases h
  rw [hz];have hta':=aD hta;clear hz hta;go_enter func6,ntmps6;go_wp2_with (go_at_call 27;refine (nK k n ks A c xs P cp _ hM (by omega) ((hr.alloc _).alloc _) ((hi.alloc _).alloc _)).mono ?_;rw [hta'.out];intro e w1 hgo;obtain ⟨he,hb1⟩:=iX hgo;subst he;clear hgo;have hB1:=cM hb1;obtain ⟨p0,p1,p2⟩:=hB1.three;have hT1:=bA hb1;obtain ⟨d0,d1,d2,e0,e1,e2⟩:=cA hT1;have lB:=hB1.lt;have lT:=hT1.lt;replace hb1:Bw w w1:=bw2.trans (hb1.mono (by simp;omega)))
  have y:=fun (o:Obj)=>(((((hT1.set_ 0 (.int .i64 0)).set_ 1 (.int .i64 0)).set_ 2 (.slice none 0 0)).alloc o:Blk _ _ Zr)).three
  refine bodyPost_ret (v:=.tuple #[dC,.bool false]) (by simp [results,results6,go_sem,d0,d1,d2,dC,y]) rfl ⟨rfl,?_⟩;first
   | exact (bV hb1).alloc (by have:=hb1.size;simp;omega) _
   | exact ((((hb1.alloc hb1.size _)).setCell (by simp) _).setCell (by simp) _).setCell (by simp) _
 | some u=>
  have hv:aE (.mk k n ks)=true:=by
   unfold gK at hta;split at hta
   ·assumption
   ·cases hta
  have hat:eP (.mk k n ks) xs=some u:=by rw [gK,if_pos hv] at hta;exact hta
  have hsz:=cF hv;rw [Tm.size] at hsz;replace hsz:=aD hsz;obtain ⟨ku,nu,us⟩:=u;by_cases hln:notes.length=aG ks+1
  ·have hid:=uJ hat
   have hnn:fC (.mk k n ks) notes xs=if aE (notes.getD (gV (.mk k n ks) xs) default)=true then some (notes.getD (gV (.mk k n ks) xs) default) else none:=by rw [fC,if_pos ⟨by rw [hta];rfl,hln⟩]
   rw [hnn];have hIl:gV (.mk k n ks) xs<notes.length:=by rw [hln];simp only [Tm.size] at hid;omega
   generalize hI:gV (.mk k n ks) xs=I at hid hIl
   have hta':=aD hta;have hat':=aD hat
   have hI':=aD hI;have hln':=aD hln;have q1:((notes.length:Int) != ((aG ks+1:Nat):Int))=false:=by simp [hln]
   have q1b:((notes.length:Int) != (aG ks:Int)+1)=false:=by simp [hln]
   have hsz2:=hsz.out;obtain ⟨oo,hoo⟩:∃oo,(if aE (notes.getD I default)=true then some (notes.getD I default) else none)=oo:=⟨_,rfl⟩;rw [hoo];have hoo':=aD hoo;clear hta hat hI hnn hoo hid;go_enter func6,ntmps6;go_wp2_with (first|(go_at_call 28;refine (pH k n ks A c _ (by have:=hsz.out;omega) ((hr.below hb1).alloc _)).mono ?_;rintro e w2 ⟨rfl,hb2⟩;have hB2:=(hB1.alloc _).keep hb2;have hT2:=(hT1.alloc _).keep hb2;clear d0 d1 d2 p0 p1 p2 e0 e1 e2;obtain ⟨d0,d1,d2,e0,e1,e2⟩:=cA hT2;replace hb2:Bw w w2:=(hb1.alloc hb1.size _).trans (hb2.mono (by have:=hb1.size;simp;omega)))|(go_at_call 27;refine (nK k n ks A c xs P cp _ hM (by omega) ((hr.alloc _).alloc _) ((hi.alloc _).alloc _)).mono ?_;rw [hta'.out];intro e w1 hgo;obtain ⟨A1,c1,rfl,hl1,hf1,hb1⟩:=dE hgo;clear hgo;have hB1:=cM hb1;obtain ⟨p0,p1,p2⟩:=hB1.three;have hT1:=bA hb1;obtain ⟨d0,d1,d2,e0,e1,e2⟩:=cA hT1;have lB:=hB1.lt;have lT:=hT1.lt;replace hb1:Bw w w1:=bw2.trans (hb1.mono (by simp;omega))))
   have hB3:=hB2;have hT3:=hT2;go_loopw [10,11] (fun a i wr=>∃(j acc:Nat) (k1 n1:Int) (ks1:List Tm) (A1:Option Addr) (c1:Nat),j≤xs.length∧i = .int .i64 j∧a = .int .i64 acc∧Hid (eP (.mk k1 n1 ks1) (xs.drop j)=some (.mk ku nu us))∧Hid (acc+gV (.mk k1 n1 ks1) (xs.drop j)=I)∧acc+aG ks1≤aG ks∧ks1.length≤9223372036854775807∧Rd w A1 0 ks1∧Blk wr w.heap.size (Ro k1 n1 A1 ks1.length c1)∧Blk wr (w.heap.size+1) Zr∧Bw w wr) (fun _ i _=>xs.length - (intOf i).toNat)
   case atStart=>exact ⟨0,0,k,n,ks,A,c,Nat.zero_le _,rfl,rfl,aD (by simpa using hat'.out),aD (by simpa using hI'.out),by omega,by omega,hr,hB3,hT3,hb2⟩
   case round=>
    obtain ⟨j,acc,k1,n1,ks1,A1,c1,hj,rfl,rfl,hatj,hidj,hacc,hl1,hr1,hB1,hT1,hb⟩:=hrel;have hlen1:=aJ ks1;by_cases hlt:j<xs.length
    ·obtain ⟨b,off,rfl,hcw⟩:=hi j hlt;have ha:=hatj.out;have hd:=hidj.out;rw [List.drop_eq_getElem_cons hlt,eP] at ha;rw [List.drop_eq_getElem_cons hlt,gV] at hd;by_cases hin:0≤xs[j]∧xs[j]<((Tm.mk k1 n1 ks1).kids.length:Int)
     ·rw [if_pos hin] at ha;simp only [Tm.kids] at ha hd hin
      obtain ⟨i,hxi⟩:∃i:Nat,xs[j]=(i:Int):=⟨xs[j].toNat,by omega⟩;rw [hxi] at ha hd hin hcw;rw [Int.toNat_natCast] at ha hd;have hik:i<ks1.length:=by omega
      have ha':=aD ha;have hd':=aD hd;have hks:=aBk hik;obtain ⟨b3,off3,k3,n3,ks3,A3,c3,rfl,hkj3,hd1,hd2,hd3,hl3,hr3⟩:=hr1.at_ hik;have hgd:ks1.getD i default = .mk k3 n3 ks3:=by rw [← hkj3];simp [List.getD,iG hik]
      rw [hgd] at ha hd hks;replace ha':=aD ha;replace hd':=aD hd;rw [Tm.size] at hks;clear ha hd hgd hkj3 hxi;have hkw:=bR hb;have pc:=hkw _ _ hcw;go_wp2_with fail
      go_loopw [10,12] (fun a i2 wr2=>∃j2:Nat,j2≤i∧i2 = .int .i64 j2∧a = .int .i64 (acc+1+aG (ks1.take j2))∧Blk wr2 w.heap.size (Ro k1 n1 (some ⟨b3,off3,none⟩) ks1.length c1)∧Blk wr2 (w.heap.size+1) Zr∧Bw w wr2) (fun _ i2 _=>i - (intOf i2).toNat)
      case atStart=>exact ⟨0,Nat.zero_le _,rfl,by simp [aG],hB1,hT1,hb⟩
      case round=>
       obtain ⟨j2,hj2,rfl,rfl,hB2,hT2,hb2⟩:=hrel;have pc2:=(bR hb2) _ _ hcw;have bb2:=hB2.at_ (i:=2) rfl;have hsk:=dB ks1 j2;by_cases hlt2:j2<i
       ·obtain ⟨b4,off4,k4,n4,ks4,A4,c4,hA4,hkj4,hf1,hf2,hf3,hl4,hr4⟩:=hr1.at_ (j:=j2) (by omega);cases hA4
        have g1:=(bR hb2) _ _ hf1;have g2:=(bR hb2) _ _ hf2;have g3:=(bR hb2) _ _ hf3;have hst:=gN ks1 j2 (by omega);have hst2:=dB ks1 (j2+1);rw [hkj4,Tm.size] at hst;have hst':=aD hst;clear hkj4;go_wp2_with (go_at_call 28;refine (pH k4 n4 ks4 A4 c4 _ (by omega) (hr4.below hb2)).mono ?_;rintro e w3 ⟨rfl,hb3⟩)
        go_roundw
        case rel=>exact ⟨j2+1,by omega,by go_num,by first|(go_num;done)|(go_num;have:=hst'.out;omega),hB2.keep hb3,hT2.keep hb3,hb2.trans (hb3.mono hb2.size)⟩
        case measure=>simp [intOf];omega
       ·have hji:j2=i:=by omega
        subst hji;go_wp2_with fail
        have z2:=aF ((bR hb2) _ _ hd1);have z3:=aF ((bR hb2) _ _ hd2);have z4:=aF ((bR hb2) _ _ hd3);have z0:=aF pc2;have z1:=hB2.rule (i:=2) rfl;refine aZ (fun w'=>Bw wr w') [0,1,2,3,4,5,6,7] [] [8] [_,_,_,_,_,_,_,_] [] [_] (by kernel_rfl) (by kernel_rfl) rfl rfl rfl (fun _ _ d _ _ h=>by cases d<;>exact h) (dV _ _).drew ?_;refine cL (aD ?_);refine cS ?_;clear z0 z1 z2 z3 z4;have cc0:=hB2.drew.at_ (i:=0) rfl;have cc1:=hB2.drew.at_ (i:=1) rfl;have cc2:=hB2.drew.at_ (i:=2) rfl;obtain ⟨f0,f1,f2⟩:=kS hB2.drew;have cc0':=hB2.at_ (i:=0) rfl;have cc1':=hB2.at_ (i:=1) rfl;have cc2':=hB2.at_ (i:=2) rfl;have f0':=hB2.frozen 0;have f1':=hB2.frozen 1;have f2':=hB2.frozen 2;go_wp2_with fail
        go_roundw
        case rel=>exact ⟨j+1,acc+1+aG (ks1.take j2),k3,n3,ks3,A3,c3,by omega,by go_num,by go_num,ha',aD (by have:=hd'.out;omega),by omega,hl3,hr3,((hB2.drew.set_ 0 _).set_ 1 _).set_ 2 _,((hT2.drew.far (by simp) _).far (by simp) _).far (by simp) _,((hb2.drew.setCell (by simp) _).setCell (by simp) _).setCell (by simp) _⟩
        case measure=>simp [intOf];omega
     ·rw [if_neg hin] at ha;cases ha
    ·have hjl:j=xs.length:=by omega
     subst hjl;have hII:acc=I:=by have:=hidj.out;rw [List.drop_length] at this;simpa [gV] using this
     subst hII;have hIn:acc<notes.length:=hIl;obtain ⟨b5,off5,kd,nd,ksd,Ad,cd,rfl,hkd,m1,m2,m3,hld,hrd⟩:=(hrB.below hb).at_ hIn;have hgd:notes.getD acc default = .mk kd nd ksd:=by rw [← hkd];simp [List.getD,iG hIn]
     have hsd:=bY (fG hIn);rw [hkd,Tm.size] at hsd;rw [hgd] at hoo';have hIl2:(acc:Int)<(notes.length:Int):=by omega
     clear hkd hgd;cases hvd:aE (.mk kd nd ksd) with
     | false=>
      have hno:oo=none:=by rw [← hoo'.out,if_neg];rw [hvd];exact Bool.false_ne_true
      subst hno;have hvd':=aD hvd;clear hvd;go_wp2_with (first
       | (go_at_call 29;refine (aMu 0 0 [] A6 c6 _ (by simp [aG]) hf6.rd (by decide)).mono ?_;rintro e w7 ⟨rfl,hb7⟩;replace hT6:=hT6.keep hb7;obtain ⟨d0,d1,d2,f0,f1,f2⟩:=cA hT6;replace hb7:Bw w w7:=hb6.trans (hb7.mono hb6.size))
       | (go_at_call 30;refine (xL kd nd ksd Ad cd _ (by omega) hrd (if_neg (by rw [hvd'.out];exact Bool.false_ne_true))).mono ?_;rintro e w6 ⟨A6,c6,rfl,hl6,hf6,hb6⟩;have hT6:=hT1.keep hb6;replace hb6:Bw w w6:=hb.trans (hb6.mono hb.size)))
      refine bodyPost_ret (v:=.tuple #[dC,.bool false]) (by simp [results,results6,go_sem,d0,d1,d2,dC]) rfl ⟨rfl,?_⟩;exact bV hb7
     | true=>
      have hyes:oo=some (.mk kd nd ksd):=by rw [← hoo'.out,if_pos hvd]
      subst hyes;have hvd':=aD hvd;clear hvd;go_wp2_with (first
       | (go_at_call 29;refine (aKg kd nd ksd A6 c6 _ (by omega) hf6.rd hvd'.out).mono ?_;rintro e w7 ⟨rfl,hb7⟩;replace hT6:=hT6.keep hb7;obtain ⟨d0,d1,d2,f0,f1,f2⟩:=cA hT6;have lT6:=hT1.lt;replace hf6:=(hf6.below hb7).mono (B':=w.heap.size+2) (by omega);replace hb7:Bw w w7:=hb6.trans (hb7.mono hb6.size))
       | (go_at_call 30;refine (xL kd nd ksd Ad cd _ (by omega) hrd (if_pos hvd'.out)).mono ?_;rintro e w6 ⟨A6,c6,rfl,hl6,hf6,hb6⟩;have hT6:=hT1.keep hb6;replace hb6:Bw w w6:=hb.trans (hb6.mono hb.size)))
      refine bodyPost_ret (v:=.tuple #[.agg (Ro kd nd A6 ksd.length c6),.bool true]) (by simp [results,results6,go_sem,d0,d1,d2]) rfl ⟨A6,c6,rfl,hl6,?_,?_⟩
      ·exact (mW hf6).mono (by omega)
      ·exact bV hb7
  ·have hz:fC (.mk k n ks) notes xs=none:=by rw [fC,if_neg];rintro ⟨-,h⟩;exact hln h
   rw [hz];have hta':=aD hta;have q1:((notes.length:Int) != ((aG ks+1:Nat):Int))=true:=by simp;omega
   have q1b:((notes.length:Int) != (aG ks:Int)+1)=true:=by simp;omega
   clear hz hta hln hat
   go_enter func6,ntmps6;go_wp2_with (first|(go_at_call 28;refine (pH k n ks A c _ (by have:=hsz.out;omega) ((hr.below hb1).alloc _)).mono ?_;rintro e w2 ⟨rfl,hb2⟩;have hB2:=(hB1.alloc _).keep hb2;have hT2:=(hT1.alloc _).keep hb2;clear d0 d1 d2 p0 p1 p2 e0 e1 e2;obtain ⟨d0,d1,d2,e0,e1,e2⟩:=cA hT2;replace hb2:Bw w w2:=(hb1.alloc hb1.size _).trans (hb2.mono (by have:=hb1.size;simp;omega)))|(go_at_call 27;refine (nK k n ks A c xs P cp _ hM (by omega) ((hr.alloc _).alloc _) ((hi.alloc _).alloc _)).mono ?_;rw [hta'.out];intro e w1 hgo;obtain ⟨A1,c1,rfl,hl1,hf1,hb1⟩:=dE hgo;clear hgo;have hB1:=cM hb1;obtain ⟨p0,p1,p2⟩:=hB1.three;have hT1:=bA hb1;obtain ⟨d0,d1,d2,e0,e1,e2⟩:=cA hT1;have lB:=hB1.lt;have lT:=hT1.lt;replace hb1:Bw w w1:=bw2.trans (hb1.mono (by simp;omega))))
   refine bodyPost_ret (v:=.tuple #[dC,.bool false]) (by simp [results,results6,go_sem,d0,d1,d2,dC]) rfl ⟨rfl,?_⟩;exact bV hb2
theorem oM {N:Nat}{ctx:List Tm}{k n:Int}{ks ns:List Tm}(h:eN N ctx (.mk k n ks)=some (.ok ns)):∃s r,bZ N ctx (.mk k n ks)=some (.ok s)∧fX N ctx k (aL ks 0) 0 ks=some (.ok r)∧ns=s::r:=by
 rw [eN] at h;obtain ⟨s,h1,h2⟩:=cE h;obtain ⟨r,h3,h4⟩:=cE h2;exact ⟨s,r,h1,h3,(dO h4).symm⟩
def cxN (ctx:List Tm)(k:Int)(t0:Tm)(i:Nat):List Tm:=if ((i:Int)==1 && binds k)=true then ctx++[t0] else ctx
theorem uV {N:Nat}{ctx:List Tm}{k:Int}{t0:Tm}:∀{ts:List Tm} {i:Nat} {r:List Tm},fX N ctx k t0 i ts=some (.ok r)→∀(j:Nat) (hj:j<ts.length),∃a pre post,eN N (cxN ctx k t0 (i+j)) ts[j]=some (.ok a)∧r=pre++(a++post)∧pre.length=aG (ts.take j)
 | [],i,r,h,j,hj=>absurd hj (Nat.not_lt_zero _)
 | t::ts,i,r,h,j,hj=>by
  rw [fX] at h;obtain ⟨a,h1,h2⟩:=cE h;obtain ⟨b,h3,h4⟩:=cE h2;have h5:=dO h4;subst h5;cases j with
  | zero=>exact ⟨a,[],b,h1,rfl,rfl⟩
  | succ j=>
   obtain ⟨a2,pre,post,g1,g2,g3⟩:=uV (i:=i+1) h3 j (by simpa using hj);refine ⟨a2,a++pre,post,?_,by rw [g2];simp,?_⟩
   ·rw [show i+1+j=i+(j+1) by omega] at g1;simpa using g1
   ·have:=((fK N).1 _ _ _ h1).1;simp only [List.length_append,List.take_succ_cons,aG,g3,this]
theorem aHf {N:Nat}{ctx:List Tm}{k n:Int}{ks:List Tm}{u:Tm}(h:bZ N ctx (.mk k n ks)=some (.ok u))(hb:binds k=true):∃s l,bZ N ctx (aL ks 0)=some (.ok s)∧jX (some s)=some l:=by
 cases N with
 | zero=>cases h
 | succ N=>
  obtain ⟨hv,hl,hk,hvu⟩:=rL h;rw [fT] at hk;have fin:∀l,pX (bZ N) ctx (aL ks 0)=some (.ok l)→∃s l,bZ (N+1) ctx (aL ks 0)=some (.ok s)∧jX (some s)=some l:=fun l h=>by
   obtain ⟨s,h1,h2⟩:=jK h;exact ⟨s,l,tZ _ _ _ _ h1,h2⟩
  by_cases e3:k=3∨k=13
  ·rw [if_pos e3] at hk;obtain ⟨l,h1,_⟩:=cE hk;exact fin l h1
  ·rw [if_neg e3] at hk;have e4:k=4:=by
    simp only [binds,Bool.or_eq_true,beq_iff_eq] at hb
    rcases hb with (h|h)|h
    ·exact absurd (.inl h) e3
    ·exact h
    ·exact absurd (.inr h) e3
   rw [if_pos e4] at hk;obtain ⟨l,h1,_⟩:=cE hk;exact fin l h1
theorem aJo (ctx:List Tm)(k n:Int)(ks:List Tm)(i:Nat):cxN ctx k (aL ks 0) i=ctx++pF (.mk k n ks) (i:Int):=by
 unfold cxN
 rw [pF];unfold aO
 by_cases h:(i:Int)=1∧binds k=true
 ·rw [if_pos (by simp [h.1,h.2]),if_pos (show (if (i:Int)=1∧binds k=true then (1:Int) else 0)=1 by rw [if_pos h])]
 ·rw [if_neg (by simpa using h),if_neg (show ¬(if (i:Int)=1∧binds k=true then (1:Int) else 0)=1 by rw [if_neg h];decide),List.append_nil]
theorem aEs {N:Nat}{G D:List Tm}{k n:Int}{ks:List Tm}{u:Tm}(hT:Tele D)(hc:dA (D.length:Int) (.mk k n ks)=true)(hv:aE (.mk k n ks)=true)(h:bZ N (G++D) (.mk k n ks)=some (.ok u))(i:Nat)(hi:i<ks.length) :
  Tele (D++pF (.mk k n ks) (i:Int))∧dA ((D++pF (.mk k n ks) (i:Int)).length:Int) (aL ks i)=true∧∀j (hj:j<(pF (.mk k n ks) (i:Int)).length),∃l,jX (eG (2*N) (D++(pF (.mk k n ks) (i:Int)).take j) (pF (.mk k n ks) (i:Int))[j])=some l:=by
 have hck:=dN hc i;have hck0:=dN hc 0;rw [show aO k ((0:Nat):Int)=0 by unfold aO;rw [if_neg (by rintro ⟨h,-⟩;cases h)],Int.add_zero] at hck0;by_cases hu:aO k (i:Int)=1
 ·have hb:binds k=true:=by
   unfold aO at hu
   split at hu
   ·rename_i hh;exact hh.2
   ·cases hu
  rw [hu] at hck;rw [rK hu];refine ⟨hT.push hck0 (dL hv (by omega)),by simpa using hck,fun j hj=>?_⟩;obtain ⟨s,l,h1,h2⟩:=aHf h hb;have h3:=(rG N G D _ _ hT hck0 h1).1;obtain rfl:j=0:=by simpa using hj
  exact ⟨l,by simpa [h3] using h2⟩
 ·have hu0:aO k (i:Int)=0:=by have:=eA k (i:Int);omega
  rw [hu0,Int.add_zero] at hck;rw [vN hu0,List.append_nil];exact ⟨hT,hck,fun j hj=>absurd hj (Nat.not_lt_zero _)⟩
theorem xJ (N:Nat)(G:List Tm):∀(p:List Int) (t:Tm) (D ns:List Tm) (x:Tm),eN N (G++D) t=some (.ok ns)→Tele D→dA (D.length:Int) t=true→aE t=true→eP t p=some x→
  eG (2*N) (D++kY t p) x=some (ns.getD (gV t p) default)∧Tele (D++kY t p)∧dA ((D++kY t p).length:Int) x=true∧∀j (hj:j<(kY t p).length),∃l,jX (eG (2*N) (D++(kY t p).take j) (kY t p)[j])=some l
 | [],t,D,ns,x,h,hT,hc,hv,hx=>by
  rw [eP] at hx;injection hx with hx;subst hx;obtain ⟨k,n,ks⟩:=t;obtain ⟨s,r,h1,h2,rfl⟩:=oM h;rw [kY,gV,List.append_nil];exact ⟨(rG N G D _ _ hT hc h1).1,hT,hc,fun j hj=>absurd hj (Nat.not_lt_zero _)⟩
 | i::is,t,D,ns,x,h,hT,hc,hv,hx=>by
  obtain ⟨k,n,ks⟩:=t;rw [eP] at hx;split at hx
  ·rename_i hi
   simp only [Tm.kids] at hi hx
   obtain ⟨m,rfl⟩:∃m:Nat,(m:Int)=i:=⟨i.toNat,by omega⟩;have hm:m<ks.length:=by omega
   rw [Int.toNat_natCast] at hx;obtain ⟨s,r,h1,h2,rfl⟩:=oM h;obtain ⟨a,pre,post,g1,g2,g3⟩:=uV h2 m hm;rw [Nat.zero_add,aJo _ k n,List.append_assoc] at g1;obtain ⟨q1,q2,q3⟩:=aEs hT hc hv h1 m hm;have hkm:aL ks m=ks[m]:=by simp [aL,List.getD,iG hm]
   have hgd:ks.getD m default=ks[m]:=hkm;rw [hgd] at hx;rw [hkm] at q2;have hvm:=aX hv (fG hm);obtain ⟨z1,z2,z3,z4⟩:=xJ N G is ks[m] (D++pF (.mk k n ks) (m:Int)) a x g1 q1 q2 hvm hx;have hal:a.length=ks[m].size:=((fK N).1 _ _ _ g1).1;have hid:=uJ hx;have hxs:0<x.size:=by obtain ⟨_,_,_⟩:=x;rw [Tm.size];omega
   rw [kY,gV];simp only [Tm.kids,Int.toNat_natCast,hgd]
   rw [← List.append_assoc];refine ⟨?_,z2,z3,fun j hj=>?_⟩
   ·rw [z1,g2,List.getD_eq_getElem?_getD,List.getD_eq_getElem?_getD,show 1+aG (ks.take m)+gV ks[m] is=(pre.length+gV ks[m] is)+1 by omega,List.getElem?_cons_succ,List.getElem?_append_right (by omega),Nat.add_sub_cancel_left,List.getElem?_append_left (by omega)]
   ·by_cases hlt:j<(pF (.mk k n ks) (m:Int)).length
    ·obtain ⟨l,hl⟩:=q3 j hlt;refine ⟨l,?_⟩;rw [List.take_append_of_le_length (by omega),List.getElem_append_left hlt];exact hl
    ·have hj2:j - (pF (.mk k n ks) (m:Int)).length<(kY ks[m] is).length:=by rw [List.length_append] at hj;omega
     obtain ⟨l,hl⟩:=z4 (j - (pF (.mk k n ks) (m:Int)).length) hj2;refine ⟨l,?_⟩;rw [List.getElem_append_right (by omega),List.take_append,List.take_of_length_le (by omega),← List.append_assoc];exact hl
  ·cases hx
theorem aDw {n:Int}{p:Tm}(hv:aE (.mk 16 n [p])=true):aE (.mk 15 0 [p])=true:=by
 unfold aE at hv⊢
 rw [Bool.and_eq_true,decide_eq_true_eq] at hv⊢;refine ⟨?_,by have:=hv.2;simpa [Tm.size] using this⟩;have h1:=((bD 29 16 n [p]).1 hv.1).2.2.2;exact (bD 29 15 0 [p]).2 ⟨rfl,by omega,by decide,h1⟩
theorem uW {t u:Tm}(h:vO t=some u):u=t∧aE t=true:=by
 unfold vO at h
 split at h
 ·injection h with h;subst h;exact ⟨rfl,by assumption⟩
 ·cases h
theorem zS {o:Option Tm}{t:Tm}(h:oT o (vO t)=true):fW o t=true∧aE t=true:=by
 unfold oT at h
 split at h
 ·rename_i x hx
  obtain ⟨rfl,hv⟩:=uW hx;exact ⟨h,hv⟩
 ·cases h
theorem aIf {o:Option Tm}{p:Tm}(h:oT o (aHs p)=true):∃k1 n1 s1 k2 n2 s2,cP 1 0 p=some (.mk k1 n1 s1)∧cP 2 0 p=some (.mk k2 n2 s2)∧aE (.mk 3 0 [.mk 6 0 [],.mk 3 0 [.mk 5 0 [.mk k1 n1 s1,.mk 1 0 []],.mk 5 0 [.mk k2 n2 s2,.mk 8 0 [.mk 1 1 []]]]])=true∧fW o (.mk 3 0 [.mk 6 0 [],.mk 3 0 [.mk 5 0 [.mk k1 n1 s1,.mk 1 0 []],.mk 5 0 [.mk k2 n2 s2,.mk 8 0 [.mk 1 1 []]]]])=true:=by
 unfold aHs at h
 split at h
 ·cases h
 ·rename_i one h1
  split at h
  ·cases h
  ·rename_i two h2
   obtain ⟨k1,n1,s1⟩:=one;obtain ⟨k2,n2,s2⟩:=two;obtain ⟨hc,hv⟩:=zS h;exact ⟨k1,n1,s1,k2,n2,s2,h1,h2,hv,hc⟩
theorem sN {N:Nat}(ih:aDx N)(ctx:List Tm)(C:Option Addr)(cc:Nat)(k n:Int)(ks:List Tm)(A:Option Addr)(c fc:Nat)(ev:Array Value)(kr nr:Int)(sr:List Tm)(ty:Nat→Option Tm)(w:World)(h:jH (eG N ctx) ctx (.mk k n ks) ty=some (.mk kr nr sr))(hv:aE (.mk k n ks)=true)(hvc:∀u,u∈ctx→aE u=true)(hm:ctx.length≤20)(hT:TyOk fc ev w ty)(hty:∀i s,ty i=some s→aE s=true)(hrc:Rd w C 0 ctx)(hr:Rd w A 0 ks) :
  Calls prog 67 #[.agg #[.slice C ctx.length cc,.int .i64 k,.int .i64 n,.slice A ks.length c,.func (.func fc) #[] ev]] w (eO w kr nr sr):=by
 have hvr:=vL h hv;have har:=bC hv;unfold jH at h
 by_cases e1:k=1
 ·rw [if_pos (show (Tm.mk k n ks).k=1 from e1)] at h;subst e1;split at h
  ·rename_i hn
   obtain ⟨nn,hnn⟩:∃nn:Nat,(nn:Int)=n:=⟨n.toNat,by have:0≤n:=hn.1;omega⟩;subst hnn;have hlt:(nn:Int)<(ctx.length:Int):=hn.2;have hpl:ctx.length - 1 - nn<ctx.length:=by omega
   have hg:ctx.getD (ctx.length - 1 - (Tm.mk 1 (nn:Int) ks).n.toNat) default=ctx[ctx.length - 1 - nn]:=by
    show ctx.getD (ctx.length - 1 - ((nn:Int)).toNat) default=_
    rw [Int.toNat_natCast];simp [List.getD,iG hpl]
   rw [hg] at h;have hvu:=hvc _ (fG hpl);obtain ⟨ku,nu,su,hcu⟩:∃ku nu su,ctx[ctx.length - 1 - nn] = .mk ku nu su:=by
    cases hh:ctx[ctx.length - 1 - nn] with|mk a b l=>exact ⟨a,b,l,rfl⟩
   rw [hcu] at h hvu;exact aFq ctx C cc nn _ A _ c fc ev ku nu su kr nr sr w hm (by omega) hpl hcu hvu h hrc
  ·cases h
 rw [if_neg (show ¬(Tm.mk k n ks).k=1 from e1)] at h;by_cases e2:k=2
 ·rw [if_pos (show (Tm.mk k n ks).k=2 from e2)] at h;subst e2;have h3:eX 2=3:=rfl;split at h
  ·cases h
  ·rename_i hn
   have hn3:n≠3:=hn;injection h with h;injection (show Tm.mk 2 (n+1) [] = .mk kr nr sr from h) with q1 q2 q3;subst q1 q2 q3;exact aGj C _ cc n A _ c fc ev w hn3 (by omega)
 rw [if_neg (show ¬(Tm.mk k n ks).k=2 from e2)] at h;by_cases e6:k=6
 ·rw [if_pos (show (Tm.mk k n ks).k=6 from e6)] at h;subst e6;injection h with h;injection h with q1 q2 q3;subst q1 q2 q3;exact aGi C _ cc n A _ c fc ev w
 rw [if_neg (show ¬(Tm.mk k n ks).k=6 from e6)] at h;by_cases e7:k=7
 ·rw [if_pos (show (Tm.mk k n ks).k=7 from e7)] at h;subst e7;injection h with h;injection (show Tm.mk 6 0 [] = .mk kr nr sr from h) with q1 q2 q3;subst q1 q2 q3;exact aHj C _ cc n A _ c fc ev w
 rw [if_neg (show ¬(Tm.mk k n ks).k=7 from e7)] at h;by_cases e8:k=8
 ·rw [if_pos (show (Tm.mk k n ks).k=8 from e8)] at h;subst e8;split at h
  ·rename_i hc
   injection h with h;injection (show Tm.mk 6 0 [] = .mk kr nr sr from h) with q1 q2 q3;subst q1 q2 q3;exact aHn C _ cc n A _ c fc ev ty w hc hT
  ·cases h
 rw [if_neg (show ¬(Tm.mk k n ks).k=8 from e8)] at h;by_cases e3:k=3
 ·rw [if_pos (show (Tm.mk k n ks).k=3 from e3)] at h;subst e3;split at h
  ·cases h
  ·rename_i i hi
   split at h
   ·cases h
   ·rename_i j hj
    injection h with h;injection h with q1 q2 q3;subst q1 q2 q3;exact aHu C _ cc n A _ c fc ev _ _ _ w hvr (aD fun w' hw=>vI C _ cc 3 n A c fc ev _ i j ty w' hi hj (hT.below hw))
 rw [if_neg (show ¬(Tm.mk k n ks).k=3 from e3)] at h;by_cases e4:k=4
 ·rw [if_pos (show (Tm.mk k n ks).k=4 from e4)] at h;subst e4;obtain ⟨a,b,rfl⟩:=qK (l:=ks) (by have h3:aW 4=2:=rfl;omega);obtain ⟨ka,na,sa⟩:=a;split at h
  ·cases h
  ·rename_i l hl
   split at h
   ·cases h
   ·rename_i tb htb
    obtain ⟨kb,nb,sb⟩:=tb;split at h
    ·cases h
    ·rename_i o ho
     obtain ⟨rfl,hvo⟩:=uW ho;split at h
     ·rename_i hsome
      obtain ⟨⟨kq,nq,sq⟩,hq⟩:=Option.isSome_iff_exists.1 hsome;injection h with h;injection (show Tm.mk 3 0 [.mk ka na sa,.mk kb nb sb] = .mk kr nr sr from h) with q1 q2 q3;subst q1 q2 q3;exact aFj C _ cc n A _ c fc ev _ _ _ w hvr (aD fun w' hw=>vY C _ cc 4 n A c fc ev l ka na sa b kb nb sb kq nq sq ty w' hl htb hvr (hT.below hw) (hr.below hw) (aD fun Ao co w2 hw2 hro=>ih ctx 3 0 [.mk ka na sa,.mk kb nb sb] kq nq sq hq hvr hvc hm C cc Ao co w2 ((hrc.below hw).below hw2) hro))
     ·cases h
 rw [if_neg (show ¬(Tm.mk k n ks).k=4 from e4)] at h;by_cases e5:k=5
 ·rw [if_pos (show (Tm.mk k n ks).k=5 from e5)] at h;subst e5;obtain ⟨a,b,rfl⟩:=qK (l:=ks) (by have h3:aW 5=2:=rfl;omega);obtain ⟨kx,nx,sx⟩:=b;have hvx:=aX hv (t:=.mk kx nx sx) (by simp);split at h
  ·cases h
  ·rename_i s hs
   obtain ⟨n3,s3,rfl,hv3⟩:=gJ hs;obtain ⟨d,e,rfl⟩:=qK (l:=s3) (by have:=(bC hv3).1;have h3:aW 3=2:=rfl;omega);obtain ⟨kd,nd,sd⟩:=d;obtain ⟨ke,ne,se⟩:=e;split at h
   ·rename_i hc
    exact aGu C _ cc n A c fc ev a kx nx sx n3 kd nd sd ke ne se kr nr sr ty w hs hc hvx h hT hr
   ·cases h
 rw [if_neg (show ¬(Tm.mk k n ks).k=5 from e5)] at h;by_cases e9:k=9
 ·rw [if_pos (show (Tm.mk k n ks).k=9 from e9)] at h;subst e9;obtain ⟨p,t1,t2,a,rfl⟩:=aIx (l:=ks) (by have h3:aW 9=4:=rfl;omega);obtain ⟨kp,np,sp⟩:=p;obtain ⟨ka,na,sa⟩:=a;have hvp:=aX hv (t:=.mk kp np sp) (by simp);split at h
  ·rename_i hc
   obtain ⟨c1,c2,c3,c4⟩:=hc;obtain ⟨d1,d2⟩:=zS c2;obtain ⟨k1,n1,s1,k2,n2,s2,f1,f2,f3,f4⟩:=aIf c3;obtain ⟨g1,g2⟩:=uW h;injection (show Tm.mk kr nr sr = .mk 5 0 [.mk kp np sp,.mk ka na sa] from g1) with q1 q2 q3;subst q1 q2 q3;exact aFd C _ cc n A _ c fc ev _ _ _ w hvr (aD fun w' hw=>uY C _ cc 9 n A c fc ev kp np sp t1 t2 ka na sa k1 n1 s1 k2 n2 s2 ty w' c1 hvp d2 d1 f1 f2 f3 f4 c4 hvr (hT.below hw) (hr.below hw))
  ·cases h
 rw [if_neg (show ¬(Tm.mk k n ks).k=9 from e9)] at h;by_cases e10:k=10
 ·rw [if_pos (show (Tm.mk k n ks).k=10 from e10)] at h;subst e10;obtain ⟨a,a1,a2,rfl⟩:=uQ (l:=ks) (by have h3:aW 10=3:=rfl;omega);obtain ⟨ka,na,sa⟩:=a;split at h
  ·cases h
  ·rename_i l hl
   split at h
   ·rename_i hc
    injection h with h;injection h with q1 q2 q3;subst q1 q2 q3;exact aCe C _ cc n A _ c fc ev _ _ _ w hvr (aD fun w' hw=>wI C _ cc 10 n A c fc ev l ka na sa a1 a2 ty w' hl hc.1 hc.2 (hT.below hw) (hr.below hw))
   ·cases h
 rw [if_neg (show ¬(Tm.mk k n ks).k=10 from e10)] at h;by_cases e11:k=11
 ·rw [if_pos (show (Tm.mk k n ks).k=11 from e11)] at h;subst e11;obtain ⟨a,rfl⟩:=aAl (l:=ks) (by have h3:aW 11=1:=rfl;omega);obtain ⟨ka,na,sa⟩:=a;split at h
  ·cases h
  ·rename_i s hs
   obtain ⟨kt,nt,st⟩:=s;split at h
   ·rename_i hc
    obtain ⟨l,hl⟩:=Option.isSome_iff_exists.1 hc;obtain ⟨g1,g2⟩:=uW h;injection (show Tm.mk kr nr sr = .mk 10 0 [.mk kt nt st,.mk ka na sa,.mk ka na sa] from g1) with q1 q2 q3;subst q1 q2 q3;exact aCd C _ cc n A c fc ev ka na sa kt nt st l ty w hs hvr hT hr (aD fun Ao co w' hw hro=>sY ih ctx C cc kt nt st Ao co l w' hl (hty _ _ hs) hvc hm (hrc.below hw) hro)
   ·cases h
 rw [if_neg (show ¬(Tm.mk k n ks).k=11 from e11)] at h;by_cases e12:k=12
 ·rw [if_pos (show (Tm.mk k n ks).k=12 from e12)] at h;subst e12;obtain ⟨p,t1,t2,rfl⟩:=uQ (l:=ks) (by have h3:aW 12=3:=rfl;omega);obtain ⟨kp,np,sp⟩:=p;split at h
  ·cases h
  ·rename_i e he
   obtain ⟨ni,s3,rfl,hv3⟩:=gJ he;obtain ⟨a,b,d,rfl⟩:=uQ (l:=s3) (by have:=(bC hv3).1;have h3:aW 10=3:=rfl;omega);obtain ⟨ka,na,sa⟩:=a;obtain ⟨kb,nb,sb⟩:=b;obtain ⟨kd,nd,sd⟩:=d;split at h
   ·rename_i hc
    obtain ⟨d1,d2⟩:=zS hc.2;obtain ⟨g1,g2⟩:=uW h;injection (show Tm.mk kr nr sr = .mk 5 0 [.mk kp np sp,.mk kd nd sd] from g1) with q1 q2 q3;subst q1 q2 q3;exact aDf C _ cc n A _ c fc ev _ _ _ w hvr (aD fun w' hw=>aCc C _ cc 12 n A c fc ev kp np sp t1 t2 ni ka na sa kb nb sb kd nd sd ty w' he hc.1 d2 d1 hvr (hT.below hw) (hr.below hw))
   ·cases h
 rw [if_neg (show ¬(Tm.mk k n ks).k=12 from e12)] at h;by_cases e13:k=13
 ·rw [if_pos (show (Tm.mk k n ks).k=13 from e13)] at h;subst e13;split at h
  ·cases h
  ·rename_i i hi
   split at h
   ·cases h
   ·rename_i j hj
    injection h with h;injection h with q1 q2 q3;subst q1 q2 q3;exact aDv C _ cc n A _ c fc ev _ _ _ w hvr (aD fun w' hw=>vI C _ cc 13 n A c fc ev _ i j ty w' hi hj (hT.below hw))
 rw [if_neg (show ¬(Tm.mk k n ks).k=13 from e13)] at h;by_cases e14:k=14
 ·rw [if_pos (show (Tm.mk k n ks).k=14 from e14)] at h;subst e14;obtain ⟨p,a,t2,rfl⟩:=uQ (l:=ks) (by have h3:aW 14=3:=rfl;omega);obtain ⟨kp,np,sp⟩:=p;obtain ⟨ka,na,sa⟩:=a;have hvp:=aX hv (t:=.mk kp np sp) (by simp);have hva:=aX hv (t:=.mk ka na sa) (by simp);split at h
  ·cases h
  ·rename_i l hl
   split at h
   ·cases h
   ·rename_i s hs
    have hs':oU (.mk kp np sp) 13=some s:=hs;obtain ⟨_,_,_,hk13,hvs⟩:=lN hs';obtain ⟨k3,n3,s3⟩:=s;obtain rfl:k3=13:=hk13;obtain ⟨d,e,rfl⟩:=qK (l:=s3) (by have:=(bC hvs).1;have h3:aW 13=2:=rfl;omega);obtain ⟨kd,nd,sd⟩:=d;obtain ⟨ke,ne,se⟩:=e;split at h
    ·rename_i hc
     obtain ⟨c1,c2⟩:=hc;have c1':fW (ty 1) (.mk kd nd sd)=true:=c1;have c2':oT (ty 2) (eC 0 (.mk ka na sa) (.mk ke ne se))=true:=c2;injection h with h;injection (show Tm.mk kp np sp = .mk kr nr sr from h) with q1 q2 q3;subst q1 q2 q3;unfold oT at c2'
     split at c2'
     ·rename_i z hz
      obtain ⟨kz,nz,sz⟩:=z;exact aCo C _ cc n A _ c fc ev _ _ _ w hvr (aD fun w' hw=>aAq C _ cc 14 n A c fc ev kp np sp ka na sa t2 n3 kd nd sd ke ne se l kz nz sz ty w' hl hs' hva hz c1' c2' hvp (hT.below hw) (hr.below hw))
     ·cases c2'
    ·cases h
 rw [if_neg (show ¬(Tm.mk k n ks).k=14 from e14)] at h;by_cases e15:k=15
 ·rw [if_pos (show (Tm.mk k n ks).k=15 from e15)] at h;subst e15;split at h
  ·cases h
  ·rename_i s hs
   obtain ⟨n3,s3,rfl,hv3⟩:=gJ hs;obtain ⟨d,e,rfl⟩:=qK (l:=s3) (by have:=(bC hv3).1;have h3:aW 13=2:=rfl;omega);obtain ⟨kd,nd,sd⟩:=d;obtain ⟨ke,ne,se⟩:=e;injection h with h;injection (show Tm.mk kd nd sd = .mk kr nr sr from h) with q1 q2 q3;subst q1 q2 q3;exact aDn C _ cc n A _ c fc ev _ _ _ w hvr (aD fun w' hw=>aAh C _ cc n A _ c fc ev n3 kd nd sd ke ne se ty w' hs (hT.below hw))
 rw [if_neg (show ¬(Tm.mk k n ks).k=15 from e15)] at h;by_cases e16:k=16
 ·rw [if_pos (show (Tm.mk k n ks).k=16 from e16)] at h;subst e16;obtain ⟨p,rfl⟩:=aAl (l:=ks) (by have h3:aW 16=1:=rfl;omega);obtain ⟨kp,np,sp⟩:=p;split at h
  ·cases h
  ·rename_i s hs
   obtain ⟨n3,s3,rfl,hv3⟩:=gJ hs;obtain ⟨d,e,rfl⟩:=qK (l:=s3) (by have:=(bC hv3).1;have h3:aW 13=2:=rfl;omega);obtain ⟨kd,nd,sd⟩:=d;obtain ⟨ke,ne,se⟩:=e;have hvx:aE (.mk 15 0 [.mk kp np sp])=true:=aDw hv;exact aDu C _ cc n A _ c fc ev _ _ _ w hvr (aD fun w' hw=>aAb C _ cc n A c fc ev kp np sp n3 kd nd sd ke ne se kr nr sr ty w' hs hvx h (hT.below hw) (hr.below hw))
 rw [if_neg (show ¬(Tm.mk k n ks).k=16 from e16)] at h;cases h
theorem yF {N:Nat}{ctx:List Tm}{k n:Int}{ks:List Tm}(hv:aE (.mk k n ks)=true)(i:Nat)(s:Tm)(h:tT (eG N) ctx (.mk k n ks) i=some s):aE s=true:=by
 have hi:=aDs h;have hk:aE (aL ks i)=true:=by
  rw [zZ hi];have hm:=fG hi;obtain ⟨a,b,l,he⟩:∃a b l,ks[i] = .mk a b l:=by
   cases hh:ks[i] with|mk a b l=>exact ⟨a,b,l,rfl⟩
  rw [he] at hm⊢;exact aX hv hm
 unfold tT at h
 split at h
 ·exact iQ h hk
 ·split at h
  ·cases h
  ·exact iQ h hk
theorem aAm {N:Nat}(ih:aDx N):aDx (N+1):=by
 intro ctx k n ks kr nr sr h hv hvc hm C cc A c w hrc hra;have hvr:=aD (iQ h hv);have hj:=aD (show jH (eG N ctx) ctx (.mk k n ks) (tT (eG N) ctx (.mk k n ks))=some (.mk kr nr sr) from h);have hvh:=aD hv;have hvch:=aD hvc;have hmh:=aD hm;have B3:∀o1 o2 o3,Below w.heap.size w (((w.alloc o1).alloc o2).alloc o3):=fun o1 o2 o3=>(((dV _ _).alloc (iD _) _).alloc (by simp) _).alloc (by simp;omega) _
 have hJ:=aD (fun (wx:World) (hb:Below w.heap.size w wx) (hB2:Blk wx w.heap.size #[.slice C ctx.length cc]) (hB3:Blk wx (w.heap.size+1) #[.int .i64 k,.int .i64 n,.slice A ks.length c])=>sN ih ctx C cc k n ks A c 70 #[.pointer (some ⟨w.heap.size,0,none⟩),.pointer (some ⟨w.heap.size+1,0,none⟩)] kr nr sr _ wx hj.out hv hvc hm (aBs ih ctx C cc k n ks A c w.heap.size (w.heap.size+1) wx hv hvc hm hB2 hB3 (hrc.below hb) (hra.below hb)) (yF hv) (hrc.below hb) (hra.below hb));clear h hv hvc hm;go_enter Tryz.func40,Tryz.ntmps40;go_wp2_with (go_at_call 67;refine (hJ.out _ (B3 _ _ _) (((aC w 23 #[.slice C ctx.length cc] rfl).alloc _).alloc _) ((aC (n:=w.heap.size+1) (w.alloc (.cells #[.slice C ctx.length cc] 23)) 25 #[.int .i64 k,.int .i64 n,.slice A ks.length c] (by simp)).alloc _)).mono ?_;rintro e w1 ⟨A1,c1,rfl,hl1,r1,hb1⟩;have hZ1:Blk w1 (w.heap.size+1+1) #[.int .i64 0,.int .i64 0,.slice none 0 0]:=(aC _ 25 _ (by simp)).keep hb1;have g1:Below w.heap.size w w1:=(B3 _ _ _).trans (hb1.mono (by simp;omega));obtain ⟨d0,d1,d2⟩:=hZ1.three;have e0:=hZ1.frozen 0;have e1:=hZ1.frozen 1;have e2:=hZ1.frozen 2)
 refine bodyPost_ret (v:=.tuple #[.agg #[.int .i64 kr,.int .i64 nr,.slice A1 sr.length c1],.int .i64 0]) (by simp [results,Tryz.results40,go_sem,d0,d1,d2]) rfl ⟨A1,c1,rfl,hl1,bT hZ1 hvr.out r1 _ _ _,?_⟩;exact (bV g1)
theorem mK:∀N,aDx N
 | 0=>fun _ _ _ _ _ _ _ h=>by cases h
 | N+1=>aAm (mK N)
theorem aBp (N:Nat)(ctx:List Tm)(C:Option Addr)(cc:Nat)(w:World)(hcc:ctx.length≤cc)(hm:ctx.length≤8)(hvc:∀u,u∈ctx→aE u=true)(hlv:∀(j:Nat) (hj:j<ctx.length),∃l,jX (eG N (ctx.take j) ctx[j])=some l)(hrc:Rd w C 0 ctx) :
  Calls prog 36 #[.slice C ctx.length cc] w fun e w'=>e = .returned (.int .i64 0)∧Bw w w':=by
 have hvh:=aD hvc;have hlh:=aD hlv;clear hvc hlv;go_enter func36,ntmps36;go_wp2_with fail
 go_loopw [14] (fun i wr=>∃j:Nat,j≤ctx.length∧i = .int .i64 j∧Bw w wr)
  (fun i _ => ctx.length - (intOf i).toNat)
 case atStart=>exact ⟨0,Nat.zero_le _,rfl,dV _ _⟩
 case round=>
  obtain ⟨j,hj,rfl,hb⟩:=hrel;by_cases hlt:j<ctx.length
  ·obtain ⟨b,off,k1,n1,ks1,A1,c1,rfl,hkj,hc1,hc2,hc3,hl1,hr1⟩:=(hrc.below hb).at_ hlt;have hv1:=hvh.out _ (fG hlt);rw [hkj] at hv1;have hz1:=aI hv1;have hv1':=aD hv1;clear hkj hv1;go_wp2_with (go_at_call 19;refine (aQ k1 n1 ks1 A1 c1 _ (by omega) (hr1.alloc _)).mono ?_;rw [hv1'.out];rintro e w3 ⟨rfl,hb3⟩)
   go_roundw
   case rel=>exact ⟨j+1,by omega,by go_num,hb.trans (bw1.trans (hb3.mono (by simp)) |>.mono hb.size)⟩
   case measure=>simp [intOf];omega
  ·have hjl:j=ctx.length:=by omega
   subst hjl;go_wp2_with fail
   go_loopw [24] (fun i wr=>∃j:Nat,j≤ctx.length∧i = .int .i64 j∧Bw w wr)
    (fun i _=>ctx.length - (intOf i).toNat)
   case atStart=>exact ⟨0,Nat.zero_le _,rfl,hb⟩
   case round=>
    clear hb;obtain ⟨j,hj,rfl,hb⟩:=hrel;by_cases hlt:j<ctx.length
    ·obtain ⟨b,off,k1,n1,ks1,A1,c1,rfl,hkj,hc1,hc2,hc3,hl1,hr1⟩:=(hrc.below hb).at_ hlt;have hv1:=hvh.out _ (fG hlt);obtain ⟨l,hl⟩:=hlh.out j hlt;rw [hkj] at hv1 hl;obtain ⟨cx,hcx⟩:∃cx,ctx.take j=cx:=⟨_,rfl⟩;have hcl:cx.length=j:=by rw [← hcx];simp;omega
     have hcv:∀u,u∈cx→aE u=true:=by rw [← hcx];exact fun u hu=>hvh.out u (List.mem_of_mem_take hu)
     have hrx:=aD (fun (w':World) (h:Rd w' (some ⟨b,off,none⟩) 0 ctx)=>show Rd w' (some ⟨b,off,none⟩) 0 cx by rw [← hcx];exact h.take j);rw [hcx] at hl;have hS:=aD (fun (w:World) (hrc:Rd w (some ⟨b,off,none⟩) 0 cx) (hra:Rd w A1 0 ks1)=>sY (mK N) cx (some ⟨b,off,none⟩) cc k1 n1 ks1 A1 c1 l w hl hv1 hcv (by omega) hrc hra);rw [hcl] at hS;have hjc:j≤cc:=by omega
     have hjc2:(j:Int)≤(cc:Int):=by omega
     clear hkj hv1 hl hcx hcl hcv;go_upto_region 12 with fail
     refine aT ?_;intro wx hwx;have h6x:Blk wx wr.heap.size (Ro k1 n1 A1 ks1.length c1):=by rw [hwx];exact aC _ 25 _ rfl
     have kwx:Bw w wx:=by rw [hwx];exact hb.alloc hb.size _
     have hrk:Rd wx A1 0 ks1:=by rw [hwx];exact hr1.alloc _
     clear hwx hc1 hc2 hc3 hr1;obtain ⟨v0,v1,v2⟩:=kZ h6x;refine fE wx [5,6,7,8,9] [0,1,2,3] 10 6 (lT:=[_,_,_,_]) ?_;intro q0 bq0;refine cL (aD ?_);refine bG 4 ?_
     ·go_wp2_with (go_at_call 64;refine (hS.out _ ((hrx.out _ (hrc.below kwx)).below bq0) (hrk.below bq0)).mono ?_;rintro e q1 ⟨rfl,hbq1⟩)
      refine bJ bq0 hbq1 ?_;intro bq1 lq1;refine jW [5,6,7] 2 (lT:=[_,_,_]) ?_;refine cL (aD ?_);refine cY [8,9] (lB:=[_,_]) ?_;have kq:=kwx.trans (bq1.mono kwx.size);refine gS (aD ?_);go_wp2_with fail
      exact ⟨⟨j+1,by omega,by go_num,kq⟩,by simp [intOf];omega⟩
    ·have hjl:j=ctx.length:=by omega
     subst hjl;go_wp2_with fail
     go_ret
     exact ⟨rfl,hb⟩
theorem aAd (N:Nat)(ctx:List Tm)(C:Option Addr)(cc:Nat)(ts:List Tm)(A:Option Addr)(c:Nat)(w:World)(hcc:ctx.length≤cc)(hm:ctx.length≤8)(hvc:∀u,u∈ctx→aE u=true)(hlv:∀(j:Nat) (hj:j<ctx.length),∃l,jX (eG N (ctx.take j) ctx[j])=some l)(hrc:Rd w C 0 ctx)(hl:ts.length≤20)(hts:∀u,u∈ts→aE u=true)(hr:Rd w A 0 ts) :
  Calls prog 39 #[.slice C ctx.length cc,.slice A ts.length c] w fun e w'=>e = .returned (.int .i64 0)∧Bw w w':=by
 have hC:=aD (fun (w:World) (hr:Rd w A 0 ts)=>aKd ts A c w (by omega) hts hr);have hD:=aD (fun (w:World) (hrc:Rd w C 0 ctx)=>aBp N ctx C cc w hcc hm hvc hlv hrc);clear hvc hlv hts;go_enter func39,ntmps39;go_wp2_with (first
  | (go_at_call 34;have _t:=tok1;refine (hC.out _ (hr.below hb1)).mono ?_;rintro e w2 ⟨rfl,hb2⟩)
  | (go_at_call 36;refine (hD.out _ hrc).mono ?_;rintro e w1 ⟨rfl,hb1⟩;have tok1:=trivial))
 go_ret
 exact ⟨rfl,hb1.trans (hb2.mono hb1.size)⟩
theorem uN (N:Nat)(ctx:List Tm)(C:Option Addr)(cc:Nat)(k n:Int)(ks:List Tm)(A:Option Addr)(c:Nat)(kr nr:Int)(sr:List Tm)(w:World)(hs:eG N ctx (.mk k n ks)=some (.mk kr nr sr))(hv:aE (.mk k n ks)=true)(hcc:ctx.length≤cc)(hm:ctx.length≤8)(hvc:∀u,u∈ctx→aE u=true)(hlv:∀(j:Nat) (hj:j<ctx.length),∃l,jX (eG N (ctx.take j) ctx[j])=some l)(hrc:Rd w C 0 ctx)(hra:Rd w A 0 ks) :
  Calls prog 12 #[.slice C ctx.length cc,.agg (Ro k n A ks.length c)] w (eO w kr nr sr):=by
 have hvr:=aD (iQ hs hv);have hlk:ks.length≤9223372036854775807:=by have:=aI hv;have:=aJ ks;omega
 have hzr:aG sr≤400:=aI hvr.out;have hR:=aD (fun (B:Option Addr) (cb:Nat) (w:World) (hrc:Rd w C 0 ctx) (hr:Rd w B 0 [.mk k n ks])=>aAd N ctx C cc [.mk k n ks] B cb w hcc hm hvc hlv hrc (by simp) (fun u hu=>by rw [List.mem_singleton.1 hu];exact hv) hr);have hI:=aD (fun (w:World) (hrc:Rd w C 0 ctx) (hra:Rd w A 0 ks)=>mK N ctx k n ks kr nr sr hs hv hvc (by omega) C cc A c w hrc hra);have B3:∀o1 o2 o3,Bw w (((w.alloc o1).alloc o2).alloc o3):=fun o1 o2 o3=>bw3
 clear hs hv hvc hlv;go_enter func12,ntmps12;go_wp2_with (first
  | (go_at_call 26;have _t:=tok2;refine (gF (aG sr+1) kr nr sr A2 c2 _ (by omega) (by omega) (r2.alloc _)).mono ?_;rintro e w3 ⟨A3,c3,rfl,hl3,hf3,hb3⟩;have hZ3:=(hZ2.alloc (.cells (Ro kr nr A2 sr.length c2) 25)).keep hb3;have g3:=(g2.alloc g2.size (.cells (Ro kr nr A2 sr.length c2) 25)).trans (hb3.mono (by have:=g2.size;simp;omega));obtain ⟨d0,d1,d2,e0,e1,e2⟩:=cA hZ3)
  | (go_at_call 40;have _t:=tok1;refine (hI.out _ (hrc.below g1) (hra.below g1)).mono ?_;rintro e w2 ⟨A2,c2,rfl,hl2,r2,hb2⟩;have hZ2:=hZ1.keep hb2;have g2:=g1.trans (hb2.mono g1.size);clear y0 y1 y2;have tok2:=trivial)
  | (go_at_call 39;refine (hR.out (some ⟨w.heap.size+1+1,0,none⟩) 1 _ (((hrc.alloc _).alloc _).alloc _) (aEq (s0:=ks) (aC _ 25 (Ro k n A ks.length c) (by simp)) hlk (((hra.alloc _).alloc _).alloc _))).mono ?_;rintro e w1 ⟨rfl,hb1⟩;have hX1:=(((aC w 25 (Ro k n A ks.length c) rfl).alloc (.cells Zr 25)).alloc (.cells (Ro k n A ks.length c) 25)).keep hb1;have hZ1:Blk w1 (w.heap.size+1) Zr:=((aC (n:=w.heap.size+1) (w.alloc (.cells (Ro k n A ks.length c) 25)) 25 Zr (by simp)).alloc (.cells (Ro k n A ks.length c) 25)).keep hb1;have g1:Bw w w1:=(B3 _ _ _).trans (hb1.mono (by simp;omega));obtain ⟨y0,y1,y2⟩:=hX1.three;have tok1:=trivial))
 refine bodyPost_ret (v:=.tuple #[.agg (Ro kr nr A3 sr.length c3),.int .i64 0]) (by simp [results,results12,go_sem,d0,d1,d2]) rfl ⟨A3,c3,rfl,hl3,bT hZ3 hvr.out hf3.rd _ _ _,?_⟩;exact bV g3
end Go.Proofs.YtddkehjdjfmhmaaGreat
