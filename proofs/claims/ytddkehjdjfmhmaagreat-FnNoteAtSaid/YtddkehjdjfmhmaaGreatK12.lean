/- Parts of the proof. No condition. -/
import Derived.Test.YtddkehjdjfmhmaaGreatK11
open Go.Proofs.Tryz
namespace Go.Proofs.YtddkehjdjfmhmaaGreat
open Go.RowKit
set_option maxHeartbeats 4000000
set_option maxRecDepth 100000
set_option linter.unusedSimpArgs false
set_option linter.unusedVariables false
def RdI (w:World)(A:Option Addr)(xs:List Int):Prop:=∀j (hj:j<xs.length),∃b off,A=some ⟨b,off,none⟩∧w.cell? ⟨b,off+j,none⟩=some (.int .i64 xs[j])
theorem RdI.keeps {w w':World}{A:Option Addr}{xs:List Int}(h:RdI w A xs)(hk:Keeps w w'):RdI w' A xs:=fun j hj=>by
 obtain ⟨b,off,hA,hc⟩:=h j hj;exact ⟨b,off,hA,hk _ _ hc⟩
theorem RdI.below {w w':World}{A:Option Addr}{xs:List Int}(h:RdI w A xs)(hb:Bw w w'):RdI w' A xs:=h.keeps (.of_below hb)
theorem RdI.alloc {w:World}{A:Option Addr}{xs:List Int}(h:RdI w A xs)(o:Obj):RdI (w.alloc o) A xs:=h.keeps (.alloc w o)
def eP:Tm→List Int→Option Tm
 | t,[]=>some t
 | t,i::is=>if 0≤i∧i<t.kids.length then eP (t.kids.getD i.toNat default) is else none
theorem pN:∀(xs ys:List Int) (t:Tm),eP t (xs++ys)=(eP t xs).bind (eP · ys)
 | [],ys,t=>rfl
 | i::is,ys,t=>by
  rw [List.cons_append,eP,eP];split
  ·exact pN is ys _
  ·rfl
theorem rH {t u:Tm}{xs:List Int}{j:Nat}(hj:j<xs.length)(h:eP t (xs.take j)=some u):eP t (xs.take (j+1))=if 0≤xs[j]∧xs[j]<u.kids.length then some (u.kids.getD xs[j].toNat default) else none:=by
 rw [oR hj,pN,h,Option.bind_some,eP];split<;>rfl
theorem pY {t:Tm}{xs:List Int}{j:Nat}(h:eP t (xs.take j)=none):eP t xs=none:=by
 rw [← List.take_append_drop j xs,pN,h];rfl
theorem gU {u:Tm}:∀{xs:List Int} {t:Tm},eP t xs=some u→aE t=true→aE u=true
 | [],t,h,hv=>by cases h;exact hv
 | i::is,t,h,hv=>by
  rw [eP] at h;split at h
  ·rename_i hh
   obtain ⟨k,n,ks⟩:=t;refine gU h ?_;have hlt:i.toNat<ks.length:=by have:=hh.2;simp only [Tm.kids] at this;omega
   rw [show (Tm.mk k n ks).kids=ks from rfl,List.getD_eq_getElem?_getD,iG hlt,Option.getD_some];exact aX hv (fG _)
  ·cases h
def aKt (w:World)(o:Option Tm)(e:Ending)(w':World):Prop:=
 Bw w w'∧match o with
 | none=>e = .returned (.tuple #[.agg Zr,.bool false])
 | some (.mk k n ks)=>∃A c,e = .returned (.tuple #[.agg (Ro k n A ks.length c),.bool true])∧ks.length≤9223372036854775807∧Rd w A 0 ks
theorem aEe (k n:Int)(ks:List Tm)(A:Option Addr)(c:Nat)(xs:List Int)(P:Option Addr)(cp:Nat)(w:World)(hM:aG ks≤1000000000)(hx:xs.length≤9223372036854775807)(hr:Rd w A 0 ks)(hi:RdI w P xs) :
  Calls prog 57 #[.agg (Ro k n A ks.length c),.slice P xs.length cp] w (aKt w (eP (.mk k n ks) xs)):=by
 have hlen:=aJ ks;go_enter func57,ntmps57;go_wp2_with fail
 go_loopw [6] (fun i wr=>∃(j:Nat) (k1 n1:Int) (ks1:List Tm) (A1:Option Addr) (c1:Nat),j≤xs.length∧i = .int .i64 j∧Hid (eP (.mk k n ks) (xs.take j)=some (.mk k1 n1 ks1))∧ks1.length≤9223372036854775807∧Rd w A1 0 ks1∧Blk wr w.heap.size (Ro k1 n1 A1 ks1.length c1)∧Blk wr (w.heap.size+1) Zr∧Bw w wr)
  (fun i _ => xs.length - (intOf i).toNat)
 case atStart=>exact ⟨0,k,n,ks,A,c,Nat.zero_le _,rfl,aD rfl,by omega,hr,(aC _ _ _ rfl).alloc _,aC _ _ _ (by simp),bw2⟩
 case round=>
  obtain ⟨j,k1,n1,ks1,A1,c1,hj,rfl,hat,hl1,hr1,hB1,hB2,hb⟩:=hrel;by_cases hlt:j<xs.length
  ·obtain ⟨b,off,rfl,hc⟩:=hi.below hb j hlt;have hnx:=aD (rH hlt hat.out);generalize hxj:xs[j]=x at hc hnx
   have hxj':=aD hxj;clear hxj;by_cases hin:0≤x∧x<ks1.length
   ·obtain ⟨i,rfl⟩:∃i:Nat,x=(i:Int):=⟨x.toNat,by omega⟩;have hik:i<ks1.length:=by omega
    obtain ⟨b3,off3,k3,n3,ks3,A3,c3,rfl,hkj3,hd1,hd2,hd3,hl3,hr3⟩:=hr1.at_ hik;have hst:eP (.mk k n ks) (xs.take (j+1))=some (.mk k3 n3 ks3):=by
     rw [hnx.out,if_pos (show 0≤(i:Int)∧(i:Int)<(Tm.mk k1 n1 ks1).kids.length from hin),Int.toNat_natCast,show (Tm.mk k1 n1 ks1).kids=ks1 from rfl,List.getD_eq_getElem?_getD,iG hik,Option.getD_some,hkj3]
    have hst':=aD hst;have q1:decide ((i:Int)<0)=false:=decide_eq_false (by omega);have q2:decide ((ks1.length:Int)≤(i:Int))=false:=decide_eq_false (by omega);clear hkj3 hst hnx;go_wp2_with fail
    have y0:=aF hc;have y1:=hB1.rule (i:=2) rfl;refine aZ (fun w'=>Bw wr w') [0,1,2,3,4,5,6,7,8,9,10,11,12,13,14] [] [] [_,_,_,_,_,_,_,_,_,_,_,_,_,_,_] [] [] (by kernel_rfl) (by kernel_rfl) rfl rfl rfl (fun _ _ d _ _ h=>by cases d<;>exact h) (dV _ _).drew ?_;refine cL (aD ?_);refine cS ?_;go_wp2_with fail
    have z2:=aF ((bR hb) _ _ hd1);have z3:=aF ((bR hb) _ _ hd2);have z4:=aF ((bR hb) _ _ hd3);refine aZ (fun w'=>Bw wr w') [0,1,2,3,4,5,6,7] [] [8] [_,_,_,_,_,_,_,_] [] [_] (by kernel_rfl) (by kernel_rfl) rfl rfl rfl (fun _ _ d _ _ h=>by cases d<;>exact h) (dV _ _).drew.drew ?_;refine cL (aD ?_);refine cS ?_;clear y0 y1 z2 z3 z4;have cc0:=hB1.drew.drew.at_ (i:=0) rfl;have cc1:=hB1.drew.drew.at_ (i:=1) rfl;have cc2:=hB1.drew.drew.at_ (i:=2) rfl;obtain ⟨f0,f1,f2⟩:=kS hB1.drew.drew;have cc0':wr.cell? ⟨w.heap.size,0,none⟩=some (.int .i64 k1):=hB1.at_ (i:=0) rfl;have cc1':wr.cell? ⟨w.heap.size,1,none⟩=some (.int .i64 n1):=hB1.at_ (i:=1) rfl;have cc2':=hB1.at_ (i:=2) rfl;have f0':=hB1.frozen 0;have f1':=hB1.frozen 1;have f2':=hB1.frozen 2;go_wp2_with fail
    go_roundw
    case rel=>exact ⟨j+1,k3,n3,ks3,A3,c3,by omega,by go_num,hst',hl3,hr3,((hB1.drew.drew.set_ 0 _).set_ 1 _).set_ 2 _,((hB2.drew.drew.far (by simp) _).far (by simp) _).far (by simp) _,((hb.drew.drew.setCell (by simp) _).setCell (by simp) _).setCell (by simp) _⟩
    case measure=>simp [intOf];omega
   ·have hst:eP (.mk k n ks) (xs.take (j+1))=none:=by rw [hnx.out,if_neg (show ¬(0≤x∧x<(Tm.mk k1 n1 ks1).kids.length) from hin)]
    have hno:=aD (pY hst);have b2:=hB1.at_ (i:=2) rfl;clear hst hnx;cases qx:decide (x<0) with
    | true=>
     go_wp2_with fail
     have y0:=aF hc;have y1:=hB1.rule (i:=2) rfl;refine aZ (fun w'=>Bw wr w') [0,1,2,3,4,5,6,7,8,9,10,11,12,13,14] [] [] [_,_,_,_,_,_,_,_,_,_,_,_,_,_,_] [] [] (by kernel_rfl) (by kernel_rfl) rfl rfl rfl (fun _ _ d _ _ h=>by cases d<;>exact h) (dV _ _).drew ?_;refine cL (aD ?_);refine cS ?_;clear y0 y1;have d0:=hB2.drew.at_ (i:=0) rfl;have d1:=hB2.drew.at_ (i:=1) rfl;have d2:=hB2.drew.at_ (i:=2) rfl;obtain ⟨e0,e1,e2⟩:=kS hB2.drew;have e0':=hB2.frozen 0;have e1':=hB2.frozen 1;have e2':=hB2.frozen 2;have d0':wr.cell? ⟨w.heap.size+1,0,none⟩=some (.int .i64 0):=d0;have d1':wr.cell? ⟨w.heap.size+1,1,none⟩=some (.int .i64 0):=d1;have d2':wr.cell? ⟨w.heap.size+1,2,none⟩=some (.slice none 0 0):=d2;go_wp2_with fail
     refine bodyPost_ret (v:=.tuple #[.agg Zr,.bool false]) (by simp [results,results57,go_sem,d0',d1',d2']) rfl ?_;rw [hno.out];exact ⟨((hb.drew.setCell (by simp) _).setCell (by simp) _).setCell (by simp) _,rfl⟩
    | false=>
     have qy:decide ((ks1.length:Int)≤x)=true:=decide_eq_true (by have:=of_decide_eq_false qx;by_cases h:(ks1.length:Int)≤x;(· exact h);(· exact absurd ⟨by omega,by omega⟩ hin));clear hin;go_wp2_with fail
     have y0:=aF hc;have y1:=hB1.rule (i:=2) rfl;refine aZ (fun w'=>Bw wr w') [0,1,2,3,4,5,6,7,8,9,10,11,12,13,14] [] [] [_,_,_,_,_,_,_,_,_,_,_,_,_,_,_] [] [] (by kernel_rfl) (by kernel_rfl) rfl rfl rfl (fun _ _ d _ _ h=>by cases d<;>exact h) (dV _ _).drew ?_;refine cL (aD ?_);refine cS ?_;clear y0 y1;have d0:=hB2.drew.at_ (i:=0) rfl;have d1:=hB2.drew.at_ (i:=1) rfl;have d2:=hB2.drew.at_ (i:=2) rfl;obtain ⟨e0,e1,e2⟩:=kS hB2.drew;have e0':=hB2.frozen 0;have e1':=hB2.frozen 1;have e2':=hB2.frozen 2;have d0':wr.cell? ⟨w.heap.size+1,0,none⟩=some (.int .i64 0):=d0;have d1':wr.cell? ⟨w.heap.size+1,1,none⟩=some (.int .i64 0):=d1;have d2':wr.cell? ⟨w.heap.size+1,2,none⟩=some (.slice none 0 0):=d2;go_wp2_with fail
     refine bodyPost_ret (v:=.tuple #[.agg Zr,.bool false]) (by simp [results,results57,go_sem,d0',d1',d2']) rfl ?_;rw [hno.out];exact ⟨((hb.drew.setCell (by simp) _).setCell (by simp) _).setCell (by simp) _,rfl⟩
  ·have hjl:j=xs.length:=by omega
   subst hjl;have h5:=hat.out;rw [List.take_length] at h5;have h5':=aD h5;clear h5;have cc0:=hB1.at_ (i:=0) rfl;have cc1:=hB1.at_ (i:=1) rfl;have cc2:=hB1.at_ (i:=2) rfl;have d0:=hB2.at_ (i:=0) rfl;have d1:=hB2.at_ (i:=1) rfl;have d2:=hB2.at_ (i:=2) rfl;obtain ⟨e0,e1,e2⟩:=kS hB2;go_wp2_with fail
   refine bodyPost_ret (v:=.tuple #[.agg (Ro k1 n1 A1 ks1.length c1),.bool true]) (by simp [results,results57,go_sem,d0,d1,d2]) rfl ?_;rw [h5'.out];exact ⟨(bV hb),A1,c1,rfl,hl1,hr1⟩
mutual
def hi3:Tm→Bool
 | .mk k n ks=>decide (n≤3) && aTx ks
def aTx:List Tm→Bool
 | []=>true
 | t::ts=>hi3 t && aTx ts
end
theorem Rdr.lt {B r p:Nat}{w:World}(h:Rdr B w r p):r<B:=by obtain ⟨_,_,_,_,_,h,_⟩:=h;exact h
theorem Rdr.alloc' {B r p:Nat}{w:World}(h:Rdr B w r p)(hB:B≤w.heap.size)(o:Obj):Rdr B (w.alloc o) r p:=h.alloc hB o
theorem own_rdp {w:World}{P:Nat→Prop}:(∀t xs fp,OwT w t xs fp→(∀b,b∈fp→P b)→∀g off i,P g→(∀j u,xs[j]?=some u→w.cell? ⟨g,off+i*3+j,none⟩=some u)→RdPC P w g off i t)∧
  (∀ ts xs fp, OwX w ts xs fp → (∀ b, b ∈ fp → P b) → ∀ g off i, P g → (∀ j u, xs[j]? = some u → w.cell? ⟨g, off + i * 3 + j, none⟩ = some u) → RdP P w (some ⟨g, off, none⟩) i ts) := by
 refine bM (fun k n ks ih xs fp h hP g off i hg hc=>?_) (fun xs fp h hP g off i hg hc=>RdP.nil) (fun t ts h1 h2 xs fp h hP g off i hg hc=>?_)
 ·obtain ⟨A,c,rfl,hl,h⟩:=OwT.iff.1 h;refine RdPC.iff.2 ⟨hg,hc 0 _ rfl,hc 1 _ rfl,A,c,hc 2 _ rfl,hl,?_⟩;rcases h with ⟨rfl,rfl⟩|⟨g',cur,e,f,hne,rfl,hg',rfl,hx⟩
  ·exact RdP.nil
  ·refine ih _ _ hx (fun b hb=>hP b (by simp [hb])) g' 0 0 (hP g' (by simp)) fun j u hu=>?_
   have e0:0+0*3+j=j:=by omega
   rw [e0,cell_of_row w g' j cur e (0,0) hg'];rw [List.getElem?_take] at hu;split at hu
   ·simpa using hu
   ·cases hu
 ·obtain ⟨x1,x2,f1,f2,rfl,rfl,ht,hx⟩:=OwX.cons_iff.1 h;have hl:=ht.length;refine RdP.cons_iff.2 ⟨⟨g,off,rfl,h1 _ _ ht (fun b hb=>hP b (by simp [hb])) g off i hg fun j u hu=>hc j u ?_⟩,h2 _ _ hx (fun b hb=>hP b (by simp [hb])) g off (i+1) hg fun j u hu=>?_⟩
  ·rw [List.getElem?_append_left (by have:=(List.getElem?_eq_some_iff.1 hu).1;omega)];exact hu
  ·have:=hc (3+j) u (by rw [List.getElem?_append_right (by omega),hl];simpa using hu);rw [show off+(i+1)*3+j=off+i*3+(3+j) from by omega];exact this
theorem Fresh.rdp {B:Nat}{w:World}{A:Option Addr}{ks:List Tm}(h:Fresh B w A ks):RdP (fun b=>B≤b∧b<w.heap.size) w A 0 ks:=by
 obtain ⟨fp,h,hn,hge⟩:=h;have hlt:=h.lt;rcases h with ⟨rfl,rfl⟩|⟨g,cur,e,f,hne,rfl,hg,rfl,hx⟩
 ·exact RdP.nil
 ·refine own_rdp.2 _ _ _ hx (fun b hb=>⟨hge b (by simp [hb]),hlt b (by simp [hb])⟩) g 0 0 ⟨hge g (by simp),hlt g (by simp)⟩ fun j u hu=>?_
  have e0:0+0*3+j=j:=by omega
  rw [e0,cell_of_row w g j cur e (0,0) hg];rw [List.getElem?_take] at hu;split at hu
  ·simpa using hu
  ·cases hu
def sbF (x:Int)(u:Tm)(n d:Int):Tm:=if n - d=x then (cP d 0 u).getD (.mk 0 0 []) else if x<n - d then .mk 1 (n - 1) [] else .mk 1 n []
def oW (x:Int)(u:Tm)(n d:Int):Bool:=if n - d=x then (cP d 0 u).isSome else true
theorem sA {x k' n':Int}{ks':List Tm}{A':Option Addr}{c' bi ba g:Nat}{W0:World}(hx:0≤x∧x≤20)(hsh:shape 30 (.mk k' n' ks')=true)(hsz:aG ks'≤1000000000)(hI:Blk W0 bi #[.int .i64 x])(hA:Blk W0 ba (Ro k' n' A' ks'.length c'))(hR:RdP (·≠g) W0 A' 0 ks')(hig:bi≠g)(hag:ba≠g) :
  aJl 121 [.pointer (some ⟨bi,0,none⟩),.pointer (some ⟨ba,0,none⟩),.pointer (some ⟨g,0,none⟩)] W0 g (sbF x (.mk k' n' ks')) (oW x (.mk k' n' ks')):=by
 intro n d w b hn0 hn1 hd0 hd1 hW hg;have hIw:=hI.grown hW (by simpa using hig);have hAw:=hA.grown hW (by simpa using hag);have hRw:=hR.grown hW (fun b hb e=>hb (by injection e));have i0:=hIw.at_ (i:=0) rfl;have x0:=hAw.at_ (i:=0) rfl;have x1:=hAw.at_ (i:=1) rfl;have x3:=hAw.at_ (i:=2) rfl;have x2:=hg.at_ (i:=0) rfl;have z2:=hg.frozen 0;have li:=hIw.lt;have l0:=hAw.lt;have l2:=hg.lt;have hrd:=hRw.rd;have H4:=aD hsh;clear hsh;by_cases h1:n - d=x
 ·have hz:sbF x (.mk k' n' ks') n d=(cP d 0 (.mk k' n' ks')).getD (.mk 0 0 []):=by rw [sbF,if_pos h1]
  have hzo:oW x (.mk k' n' ks') n d=(cP d 0 (.mk k' n' ks')).isSome:=by rw [oW,if_pos h1]
  rw [hz,hzo];have q1:((n - d)==x)=true:=by simpa using h1
  have H:=aD h1;clear h1 hz hzo;cases hsi:cP d 0 (.mk k' n' ks') with
  | none=>
   rw [show (none:Option Tm).getD (.mk 0 0 []) = .mk 0 0 [] from rfl,show (none:Option Tm).isSome=false from rfl,Bool.and_false];cases b
   all_goals
    go_enter func121,ntmps121;go_wp2_with (go_at_call 90;refine (kG k' n' ks' A' c' d 0 _ (by omega) (by omega) (by omega) H4.out (hrd.alloc _)).mono ?_;rw [hsi];intro e w1 hp;obtain ⟨he,hb1⟩:=iX hp;subst he;clear hp;have hT:=nJ hb1;obtain ⟨d0,d1,d2,e0,e1,e2⟩:=cA hT;have hG1:=(hg.alloc (.cells Zr 25)).keep hb1;have g1:=hG1.at_ (i:=0) rfl;have gz:=hG1.frozen 0;have lT:=hT.lt;have lG:=hG1.lt;replace hb1:w.grownBy w1 (some g):=aR (aM (gG _ _) _) hb1)
    have y:=fun (v:Value) (o:Obj)=>((((((hT.far (p:=⟨g,0,none⟩) (by simp;omega) v).set_ 0 (.int .i64 0)).set_ 1 (.int .i64 0)).set_ 2 (.slice none 0 0)).alloc o:Blk _ _ Zr)).three
    refine bodyPost_ret (v:=.agg Zr) (by simp [results,results121,go_sem,y]) rfl ⟨_,_,rfl,?_,?_,?_,?_⟩
    ·simp [Tm.ks]
    ·exact Fresh.nil
    ·exact ((((hG1.set_ 0 (.bool false)).far (by simp;omega) _).far (by simp;omega) _).far (by simp;omega) _).alloc _
    ·exact aM (aK (aK (aK (aK hb1 (.inl rfl) _) (.inr (by simp)) _) (.inr (by simp)) _) (.inr (by simp)) _) _
  | some t=>
   obtain ⟨k2,n2,ks2⟩:=t;rw [show (some (Tm.mk k2 n2 ks2)).getD (.mk 0 0 []) = .mk k2 n2 ks2 from rfl,show (some (Tm.mk k2 n2 ks2)).isSome=true from rfl,Bool.and_true];cases b
   ·go_enter func121,ntmps121;go_wp2_with (go_at_call 90;refine (kG k' n' ks' A' c' d 0 _ (by omega) (by omega) (by omega) H4.out (hrd.alloc _)).mono ?_;rw [hsi];intro e w1 hp;obtain ⟨A1,c1,rfl,hl1,hf1,hb1⟩:=dE hp;clear hp;have hT:=nJ hb1;obtain ⟨d0,d1,d2,e0,e1,e2⟩:=cA hT;have hG1:=(hg.alloc (.cells Zr 25)).keep hb1;have g1:=hG1.at_ (i:=0) rfl;have gz:=hG1.frozen 0;have lT:=hT.lt;have lG:=hG1.lt;replace hf1:Fresh (w.heap.size+1) w1 A1 ks2:=hf1.mono (by simp);replace hb1:w.grownBy w1 (some g):=aR (aM (gG _ _) _) hb1)
    have y:=fun (v:Value) (o:Obj)=>((((((hT.far (p:=⟨g,0,none⟩) (by simp;omega) v).set_ 0 (.int .i64 k2)).set_ 1 (.int .i64 n2)).set_ 2 (.slice A1 ks2.length c1)).alloc o:Blk _ _ (Ro k2 n2 A1 ks2.length c1))).three
    refine bodyPost_ret (v:=.agg (Ro k2 n2 A1 ks2.length c1)) (by simp [results,results121,go_sem,y]) rfl ⟨_,_,rfl,?_,?_,?_,?_⟩
    ·exact hl1
    ·exact (((mW hf1).setCell (by simp) _).alloc _).mono (by simp)
    ·exact ((((hG1.set_ 0 (.bool false)).far (by simp;omega) _).far (by simp;omega) _).far (by simp;omega) _).alloc _
    ·exact aM (aK (aK (aK (aK hb1 (.inl rfl) _) (.inr (by simp)) _) (.inr (by simp)) _) (.inr (by simp)) _) _
   ·go_enter func121,ntmps121;go_wp2_with (go_at_call 90;refine (kG k' n' ks' A' c' d 0 _ (by omega) (by omega) (by omega) H4.out (hrd.alloc _)).mono ?_;rw [hsi];intro e w1 hp;obtain ⟨A1,c1,rfl,hl1,hf1,hb1⟩:=dE hp;clear hp;have hT:=nJ hb1;obtain ⟨d0,d1,d2,e0,e1,e2⟩:=cA hT;have hG1:=(hg.alloc (.cells Zr 25)).keep hb1;have g1:=hG1.at_ (i:=0) rfl;have gz:=hG1.frozen 0;have lT:=hT.lt;have lG:=hG1.lt;replace hf1:Fresh (w.heap.size+1) w1 A1 ks2:=hf1.mono (by simp);replace hb1:w.grownBy w1 (some g):=aR (aM (gG _ _) _) hb1)
    have y:=fun (v:Value) (o:Obj)=>((((((hT.far (p:=⟨g,0,none⟩) (by simp;omega) v).set_ 0 (.int .i64 k2)).set_ 1 (.int .i64 n2)).set_ 2 (.slice A1 ks2.length c1)).alloc o:Blk _ _ (Ro k2 n2 A1 ks2.length c1))).three
    refine bodyPost_ret (v:=.agg (Ro k2 n2 A1 ks2.length c1)) (by simp [results,results121,go_sem,y]) rfl ⟨_,_,rfl,?_,?_,?_,?_⟩
    ·exact hl1
    ·exact (((mW hf1).setCell (by simp) _).alloc _).mono (by simp)
    ·exact ((((hG1.set_ 0 (.bool true)).far (by simp;omega) _).far (by simp;omega) _).far (by simp;omega) _).alloc _
    ·exact aM (aK (aK (aK (aK hb1 (.inl rfl) _) (.inr (by simp)) _) (.inr (by simp)) _) (.inr (by simp)) _) _
 ·have q1:((n - d)==x)=false:=by simpa using h1
  have hzo:oW x (.mk k' n' ks') n d=true:=by rw [oW,if_neg h1]
  by_cases h2:x<n - d
  ·have hz:sbF x (.mk k' n' ks') n d = .mk 1 (n - 1) []:=by rw [sbF,if_neg h1,if_pos h2]
   rw [hz,hzo,Bool.and_true];have q2:decide (x<n - d)=true:=decide_eq_true h2;have H:=aD h1;clear h1 h2 hz hzo;go_enter func121,ntmps121;go_wp2_with (go_at_call 118;refine (eD _ _).mono ?_;rintro e w1 ⟨rfl,hv1⟩;have hT:=nJ hv1;obtain ⟨d0,d1,d2,e0,e1,e2⟩:=cA hT;have hG1:=(hg.alloc (.cells Zr 25)).keep hv1;replace hv1:w.grownBy w1 (some g):=aR (aM (gG _ _) _) hv1)
   refine bodyPost_ret (v:=.agg (Ro 1 (n - 1) none 0 0)) (by simp [results,results121,go_sem,d0,d1,d2]) rfl ⟨none,0,rfl,by simp [Tm.ks],Fresh.nil,?_,?_⟩
   ·exact ((hG1.far (by simp;omega) _).far (by simp;omega) _).far (by simp;omega) _
   ·exact aK (aK (aK hv1 (.inr (by simp)) _) (.inr (by simp)) _) (.inr (by simp)) _
  ·have hz:sbF x (.mk k' n' ks') n d = .mk 1 n []:=by rw [sbF,if_neg h1,if_neg h2]
   rw [hz,hzo,Bool.and_true];have q2:decide (x<n - d)=false:=decide_eq_false h2;have H:=aD h1;clear h1 h2 hz hzo;go_enter func121,ntmps121;go_wp2_with (go_at_call 118;refine (eD _ _).mono ?_;rintro e w1 ⟨rfl,hv1⟩;have hT:=nJ hv1;obtain ⟨d0,d1,d2,e0,e1,e2⟩:=cA hT;have hG1:=(hg.alloc (.cells Zr 25)).keep hv1;replace hv1:w.grownBy w1 (some g):=aR (aM (gG _ _) _) hv1)
   refine bodyPost_ret (v:=.agg (Ro 1 (n) none 0 0)) (by simp [results,results121,go_sem,d0,d1,d2]) rfl ⟨none,0,rfl,by simp [Tm.ks],Fresh.nil,?_,?_⟩
   ·exact ((hG1.far (by simp;omega) _).far (by simp;omega) _).far (by simp;omega) _
   ·exact aK (aK (aK hv1 (.inr (by simp)) _) (.inr (by simp)) _) (.inr (by simp)) _
def eC (x:Int)(u:Tm)(t:Tm):Option Tm:=if eZ (oW x u) 0 t=true then (if aE (chg (sbF x u) 0 t)=true then some (chg (sbF x u) 0 t) else none) else none
theorem aKp (x:Int)(u:Tm)(n d:Int):(sbF x u n d).size≤400:=by
 unfold sbF
 split
 ·unfold cP
  split
  ·split
   ·rename_i h;exact cF h
   ·simp [Tm.size,aG]
  ·simp [Tm.size,aG]
 ·split<;>simp [Tm.size,aG]
theorem kF (k n:Int)(ks:List Tm)(A:Option Addr)(c:Nat)(x ku nu:Int)(us:List Tm)(B:Option Addr)(cb:Nat)(w:World)(hx:0≤x∧x≤20)(hsa:shape 30 (.mk ku nu us)=true)(hza:aG us≤1000000000)(hRa:Rd w B 0 us)(hM:aG ks≤1000)(hs:shape 30 (.mk k n ks)=true)(hr:Rd w A 0 ks) :
  Calls prog 99 #[(.agg (Ro k n A ks.length c)),.int .i64 x,.agg (Ro ku nu B us.length cb)] w (oX w (eC x (.mk ku nu us) (.mk k n ks))):=by
 have hrp:RdP (·≠w.heap.size+4) w A 0 ks:=hr.rdp.mono (fun b hb=>by have hb:b<w.heap.size:=hb;show b≠_;omega);have hRp:RdP (·≠w.heap.size+4) w B 0 us:=hRa.rdp.mono (fun b hb=>by have hb:b<w.heap.size:=hb;show b≠_;omega);obtain ⟨k2,n2,ks2,hct⟩:=iF (chg (sbF x (.mk ku nu us)) 0 (.mk k n ks));have hsz2:aG ks2≤1000000001:=by
  have:=(aBa (by omega) (aKp x (.mk ku nu us))).1 (.mk k n ks) 0;rw [hct,Tm.size,Tm.size] at this;omega
 cases hok:eZ (oW x (.mk ku nu us)) 0 (.mk k n ks) with
 | false=>
  have hz:eC x (.mk ku nu us) (.mk k n ks)=none:=by rw [eC,hok];rfl
  rw [hz];clear hz;go_enter func99,ntmps99;go_wp2_with (go_at_call 116;refine (gT (sA (x:=x) (k':=ku) (n':=nu) (ks':=us) (A':=B) (c':=cb) (bi:=w.heap.size+1) (ba:=w.heap.size+2) (g:=w.heap.size+4) hx hsa hza ((((aC _ 3 _ (by simp)).alloc _).alloc _).alloc _) (((aC _ 25 _ (by simp)).alloc _).alloc _) (((((hRp.alloc _).alloc _).alloc _).alloc _).alloc _) (by omega) (by omega)) (eJ func121 (by kernel_rfl) (by kernel_rfl)) (aG ks+1) k n ks A c 0 30 _ true (by omega) hs (by omega) (by omega) (by omega) (gG _ _) (aC _ 4 _ (by simp)) (((((hrp.alloc _).alloc _).alloc _).alloc _).alloc _)).mono ?_;rw [hct,hok];intro e w6 hpost;obtain ⟨A6,c6,rfl,hl6,hf6,hG6,hg6⟩:=mR hpost;clear hpost;have hT6:Blk w6 (w.heap.size+1+1+1) Zr:=((aC _ 25 _ (by simp)).alloc _).grown hg6 (by simp);have f0:=hG6.at_ (i:=0) rfl;obtain ⟨d0,d1,d2,e0,e1,e2,lT⟩:=cZ hT6;have lG:=hG6.lt;have hb6:Bw w w6:=bw5.grown hg6 (by simp;omega) (fun k e=>by cases e;omega);replace hf6:=hf6.mono (B':=w.heap.size+5) (by simp))
  have y:=fun o=>(((((hT6.set_ 0 (.int .i64 0)).set_ 1 (.int .i64 0)).set_ 2 (.slice none 0 0)).alloc o:Blk _ _ Zr)).three
  refine bodyPost_ret (v:=.tuple #[dC,.bool false]) (by simp [results,results99,go_sem,y,dC]) rfl ⟨rfl,?_⟩;exact (bV hb6).alloc (by simp [World.setCell];omega) _
 | true=>
  cases hv:aE (.mk k2 n2 ks2) with
  | false=>
   have hz:eC x (.mk ku nu us) (.mk k n ks)=none:=by rw [eC,hok,if_pos rfl,hct,hv];rfl
   rw [hz];clear hz;go_enter func99,ntmps99;go_wp2_with (first|(go_at_call 116;refine (gT (sA (x:=x) (k':=ku) (n':=nu) (ks':=us) (A':=B) (c':=cb) (bi:=w.heap.size+1) (ba:=w.heap.size+2) (g:=w.heap.size+4) hx hsa hza ((((aC _ 3 _ (by simp)).alloc _).alloc _).alloc _) (((aC _ 25 _ (by simp)).alloc _).alloc _) (((((hRp.alloc _).alloc _).alloc _).alloc _).alloc _) (by omega) (by omega)) (eJ func121 (by kernel_rfl) (by kernel_rfl)) (aG ks+1) k n ks A c 0 30 _ true (by omega) hs (by omega) (by omega) (by omega) (gG _ _) (aC _ 4 _ (by simp)) (((((hrp.alloc _).alloc _).alloc _).alloc _).alloc _)).mono ?_;rw [hct,hok];intro e w6 hpost;obtain ⟨A6,c6,rfl,hl6,hf6,hG6,hg6⟩:=mR hpost;clear hpost;have hT6:Blk w6 (w.heap.size+1+1+1) Zr:=((aC _ 25 _ (by simp)).alloc _).grown hg6 (by simp);have f0:=hG6.at_ (i:=0) rfl;obtain ⟨d0,d1,d2,e0,e1,e2,lT⟩:=cZ hT6;have lG:=hG6.lt;have hb6:Bw w w6:=bw5.grown hg6 (by simp;omega) (fun k e=>by cases e;omega);replace hf6:=hf6.mono (B':=w.heap.size+5) (by simp))|(go_at_call 119;refine (vR k2 n2 ks2 A6 c6 _ (by omega) (hf6.rd.alloc _) hv).mono ?_;rintro e w8 ⟨rfl,hb8⟩;have hT8:Blk w8 (w.heap.size+1+1+1) Zr:=(hT6.alloc _).keep hb8;obtain ⟨x0,x1,x2,e80,e81,e82⟩:=cA hT8;replace hb8:Bw w w8:=(hb6.alloc hb6.size _).trans (hb8.mono (by have:=hb6.size;simp;omega));have hzz:dC = .agg Zr:=rfl))
   refine bodyPost_ret (v:=.tuple #[dC,.bool false]) (by simp [results,results99,go_sem,x0,x1,x2,dC]) rfl ⟨rfl,?_⟩;exact bV hb8
  | true=>
   have hz:eC x (.mk ku nu us) (.mk k n ks)=some (.mk k2 n2 ks2):=by rw [eC,hok,if_pos rfl,hct,hv];rfl
   rw [hz];clear hz;go_enter func99,ntmps99;go_wp2_with (first|(go_at_call 116;refine (gT (sA (x:=x) (k':=ku) (n':=nu) (ks':=us) (A':=B) (c':=cb) (bi:=w.heap.size+1) (ba:=w.heap.size+2) (g:=w.heap.size+4) hx hsa hza ((((aC _ 3 _ (by simp)).alloc _).alloc _).alloc _) (((aC _ 25 _ (by simp)).alloc _).alloc _) (((((hRp.alloc _).alloc _).alloc _).alloc _).alloc _) (by omega) (by omega)) (eJ func121 (by kernel_rfl) (by kernel_rfl)) (aG ks+1) k n ks A c 0 30 _ true (by omega) hs (by omega) (by omega) (by omega) (gG _ _) (aC _ 4 _ (by simp)) (((((hrp.alloc _).alloc _).alloc _).alloc _).alloc _)).mono ?_;rw [hct,hok];intro e w6 hpost;obtain ⟨A6,c6,rfl,hl6,hf6,hG6,hg6⟩:=mR hpost;clear hpost;have hT6:Blk w6 (w.heap.size+1+1+1) Zr:=((aC _ 25 _ (by simp)).alloc _).grown hg6 (by simp);have f0:=hG6.at_ (i:=0) rfl;obtain ⟨d0,d1,d2,e0,e1,e2,lT⟩:=cZ hT6;have lG:=hG6.lt;have hb6:Bw w w6:=bw5.grown hg6 (by simp;omega) (fun k e=>by cases e;omega);replace hf6:=hf6.mono (B':=w.heap.size+5) (by simp))|(go_at_call 119;refine (gQ k2 n2 ks2 A6 c6 _ (by omega) (hf6.rd.alloc _) hv).mono ?_;rintro e w8 ⟨rfl,hb8⟩;have hf8:=(hf6.alloc (.cells (Ro k2 n2 A6 ks2.length c6) 25)).below hb8;have hT8:Blk w8 (w.heap.size+1+1+1) Zr:=(hT6.alloc _).keep hb8;obtain ⟨x0,x1,x2,e80,e81,e82⟩:=cA hT8;replace hb8:Bw w w8:=(hb6.alloc hb6.size _).trans (hb8.mono (by have:=hb6.size;simp;omega))))
   refine bodyPost_ret (v:=.tuple #[.agg (Ro k2 n2 A6 ks2.length c6),.bool true]) (by simp [results,results99,go_sem,x0,x1,x2]) rfl ⟨A6,c6,rfl,hl6,?_,?_⟩
   ·exact (mW hf8).mono (by omega)
   ·exact bV hb8
def aSb (p:Nat→Prop)(w:World)(k n:Int)(ks:List Tm)(e:Ending)(w':World):Prop:=
 ∃A c,e = .returned (.agg (Ro k n A ks.length c))∧ks.length≤9223372036854775807∧RdP (fun b=>p b∨w.heap.size≤b) w' A 0 ks∧Bw w w'
theorem xE {p:Nat→Prop}(k n:Int)(ks:List Tm)(A:Option Addr)(c:Nat)(i:Nat)(ku nu:Int)(us:List Tm)(U:Option Addr)(cu:Nat)(L:List Tm)(hL:L.length=ks.length)(hi:∀(j:Nat) (t:Tm),ks[j]?=some t→L[j]?=some (if j=i then .mk ku nu us else t))(w:World)(hM:aG ks≤1000000)(hlu:us.length≤9223372036854775807)(hr:Rd w A 0 ks)(hru:RdP p w U 0 us)(hpw:∀b,p b→b<w.heap.size) :
  Calls prog 161 #[.agg (Ro k n A ks.length c),.int .i64 i,.agg (Ro ku nu U us.length cu)] w (aSb p w k n L):=by
 have hlen:=aJ ks;have hL':=aD hL;have hi':=aD hi;clear hi hL;go_enter func161,ntmps161;go_wp2_with fail
 go_loopw [8] (fun jv wr=>∃(j:Nat) (v:Value),j≤ks.length∧jv = .int .i64 j∧PartR p (w.heap.size+4) wr v (L.take j)∧Blk wr (w.heap.size+1+1+1) #[.int .i64 k,.int .i64 n,v]∧Blk wr (w.heap.size+1+1) Zr∧Blk wr (w.heap.size+1) (Ro ku nu U us.length cu)∧Blk wr w.heap.size (Ro k n A ks.length c)∧Bw w wr)
  (fun jv _ => ks.length - (intOf jv).toNat)
 case atStart=>exact ⟨0,_,Nat.zero_le _,rfl,PartR.nil,aC _ _ _ (by simp),(aC _ _ _ (by simp)).alloc _,((aC _ _ _ (by simp)).alloc _).alloc _,(((aC _ _ _ rfl).alloc _).alloc _).alloc _,bw4⟩
 case round=>
  obtain ⟨j,v,hj,rfl,hp,hB3,hB2,hBu,hB1,hb⟩:=hrel;have c12:=hB1.at_ (i:=2) rfl;have hz:=hB3.lt;have sr:=hb.size;by_cases hlt:j<ks.length
  ·have hlL:j<L.length:=by have:=hL'.out;omega
   have htk:=aD (oR hlL);have hte:=aD (show L[j]=if j=i then .mk ku nu us else ks[j] from by have:=hi'.out j ks[j] (iG hlt);rw [iG hlL] at this;injection this);have htl:(L.take j).length=j:=by rw [List.length_take];omega
   by_cases hji:j=i
   ·have q0:((j:Int)==(i:Int))=true:=by rw [hji];simp
    have hte2:=aD (hte.out.trans (if_pos hji));clear hji;obtain ⟨u0,u1,u2⟩:=hBu.three;have c32:=hB3.at_ (i:=2) rfl;have z3:=hB3.frozen 2;go_wp2_with (at_builtin;refine lV (lo:=p) (B:=w.heap.size+4) (m:=j) (k:=ku) (n:=nu) (ks:=us) (A:=U) (c:=cu) (q:=p) hp (by omega) (hru.below hb) (fun b hb=>⟨.inl hb,by have:=hpw b hb;omega,fun e=>by obtain ⟨xs,h1,_⟩:=hp;have:=(h1.lt b e).1;have:=hpw b hb;omega⟩) hlu htl (by omega) rfl _ _ rfl rfl (by show Value.slice (some ⟨wr.heap.size,0,none⟩) 1 1=_;simp) ?_;intro A2 c2 w2 hp2 hb2 hg2;have q3:Blk w2 (w.heap.size+1+1+1) #[.int .i64 k,.int .i64 n,v]:=hB3.below hb2 (by omega);have q2:Blk w2 (w.heap.size+1+1) Zr:=hB2.below hb2 (by omega);have qu:Blk w2 (w.heap.size+1) (Ro ku nu U us.length cu):=hBu.below hb2 (by omega);have q1':Blk w2 w.heap.size (Ro k n A ks.length c):=hB1.below hb2 (by omega);have c3:w2.cell? ⟨w.heap.size+1+1+1,2,none⟩=some v:=q3.at_ rfl;clear z3;have z3:=q3.frozen 2;have hbf:Bw w w2:=bW hb hb2)
    go_roundw
    case rel=>exact ⟨j+1,_,by omega,by go_num,by rw [htk.out,hte2.out];exact hp2.setCell ⟨fun h=>by have h1:=hpw _ h;simp at h1;omega,by simp⟩ _,q3.set_ 2 _,q2.far (by simp) _,qu.far (by simp) _,q1'.far (by simp;omega) _,hbf.setCell (by simp;omega) _⟩
    case measure=>simp [intOf];omega
   ·have q0:((j:Int)==(i:Int))=false:=beq_eq_false_iff_ne.2 (by omega);have hte2:=aD (hte.out.trans (if_neg hji));clear hji;obtain ⟨b,off,k',n',ks',A',c',rfl,hkj,hc1,hc2,hc3,hl',hr'⟩:=(hr.below hb).at_ hlt;have hsz:=bY (fG hlt);rw [hkj] at hsz;simp only [Tm.size] at hsz
    have H3:=aD hkj;clear hkj;go_wp2_with fail
    have x2:=hB3.rule (i:=2) rfl;have b2:=hB1.rule (i:=2) rfl;obtain ⟨y0,y1,y2⟩:=pW hc1 hc2 hc3;refine aZ (fun w'=>Bw wr w') [0,1,2,3,4,5,6] [7,8] [9,10,11] [_,_,_,_,_,_,_] [_,_] [_,_,_] (by kernel_rfl) (by kernel_rfl) rfl rfl rfl (fun _ _ d _ _ h=>by cases d<;>exact h) (dV _ _).drew ?_;refine cL (aD ?_);refine bF ?_;go_wp2_with (go_at_call 58;refine (dF _ k' n' ks' A' c' _ (nH _) (by omega) hr'.drew).mono ?_;rintro e w1 ⟨A1,c1,rfl,hl1,hf1,hb1⟩)
    have hx1:Bw wr w1:=(dV _ _).drew.trans hb1;have hpx:=hp.below hx1;refine aH hx1 (bF ?_);go_wp2_with fail
    refine aH (hx1.alloc hx1.size _) (cS ?_);have hf1:Fresh wr.heap.size w1 A1 ks':=hf1;refine lV (lo:=p) (B:=w.heap.size+4) (m:=j) (q:=fun b=>wr.heap.size≤b∧b<w1.heap.size) hpx (by have:=hx1.size;omega) (Fresh.rdp hf1) (fun b hb=>⟨.inr (by omega),hb.2,fun e=>by obtain ⟨xs,h1,_⟩:=hp;have:=(h1.lt b e).2;omega⟩) hl1 htl (by omega) rfl (.tmp 31) (.tmp 38) rfl rfl rfl ?_;intro A2 c2 w2 hp2 hb2 hg2;have q3:Blk w2 (w.heap.size+1+1+1) #[.int .i64 k,.int .i64 n,v]:=(hB3.below hx1 (by omega)).below hb2 (by omega);have q2:Blk w2 (w.heap.size+1+1) Zr:=(hB2.below hx1 (by omega)).below hb2 (by omega);have qu:Blk w2 (w.heap.size+1) (Ro ku nu U us.length cu):=(hBu.below hx1 (by omega)).below hb2 (by omega);have q1':Blk w2 w.heap.size (Ro k n (some ⟨b,off,none⟩) ks.length c):=(hB1.below hx1 (by omega)).below hb2 (by omega);have c3:w2.cell? ⟨w.heap.size+1+1+1,2,none⟩=some v:=q3.at_ rfl;have z3:=q3.frozen 2;have hbf:Bw w w2:=(hb.trans (hx1.mono (by omega))).trans (hb2.mono (by omega));clear x2 y0 y1 y2 b2;go_wp2_with fail
    go_roundw
    case rel=>exact ⟨j+1,_,by omega,by go_num,by rw [htk.out,hte2.out,H3.out];exact hp2.setCell ⟨fun h=>by have h1:=hpw _ h;simp at h1;omega,by simp⟩ _,q3.set_ 2 _,q2.far (by simp) _,qu.far (by simp) _,q1'.far (by simp;omega) _,hbf.setCell (by simp;omega) _⟩
    case measure=>simp [intOf];omega
  ·have hjl:j=L.length:=by have:=hL'.out;omega
   have hjk:j=ks.length:=by omega
   rw [hjl,List.take_length] at hp;subst hjk;obtain ⟨Ar,cr,rfl,hfr⟩:=hp.rd;obtain ⟨c0,c1,c2⟩:=hB3.three;obtain ⟨d0,d1,d2,e0,e1,e2⟩:=cA hB2;clear hjl;have hzz:¬(p (w.heap.size+1+1)∨w.heap.size+4≤w.heap.size+1+1):=fun h=>h.elim (fun h=>by have:=hpw _ h;omega) (fun h=>by omega)
   go_wp2_with fail
   refine bodyPost_ret (v:=.agg (Ro k n Ar L.length cr)) (by simp [results,results161,go_sem,d0,d1,d2]) rfl ⟨Ar,cr,rfl,by have:=hL'.out;omega,?_,?_⟩
   ·exact (((hfr.setCell hzz _).setCell hzz _).setCell hzz _).mono (fun b hb=>hb.imp id (fun h=>by omega))
   ·exact bV hb
theorem gF (N:Nat):∀(k n:Int) (ks:List Tm) (A:Option Addr) (c:Nat) (w:World),aG ks<N→aG ks≤1099511627776→Rd w A 0 ks→
  Calls prog 26 #[.agg (Ro k n A ks.length c)] w (tL w k n ks):=by
 induction N with
 | zero=>intro k n ks A c w hN;exact absurd hN (Nat.not_lt_zero _)
 | succ N ih=>
 intro k n ks A c w hN hM hr;have hlen:=aJ ks;go_enter func26,ntmps26;go_wp2_with fail
 go_loopw [14] (fun i wr=>∃(j:Nat) (v:Value),j≤ks.length∧i = .int .i64 j∧Part (w.heap.size+3) wr v (ks.take j)∧Blk wr (w.heap.size+1+1) #[.int .i64 k,.int .i64 n,v]∧Blk wr (w.heap.size+1) Zr∧Bw w wr)
  (fun i _ => ks.length - (intOf i).toNat)
 case atStart=>exact ⟨0,_,Nat.zero_le _,rfl,Part.nil,aC _ _ _ (by simp),(aC _ _ _ (by simp)).alloc _,bw3⟩
 case round=>
  obtain ⟨j,v,hj,rfl,hp,hB3,hB2,hb⟩:=hrel;by_cases hlt:j<ks.length
  ·obtain ⟨b,off,k',n',ks',A',c',rfl,hkj,hc1,hc2,hc3,hl',hr'⟩:=(hr.below hb).at_ hlt;have hbl:=jN _ _ hc1;have hsz:=bY (fG hlt);rw [hkj] at hsz;simp only [Tm.size] at hsz
   have H3:=aD hkj;clear hkj;have hz:=hB3.lt;have c2:wr.cell? ⟨w.heap.size+1+1,2,none⟩=some v:=hB3.at_ rfl;go_wp2_with fail
   refine aT ?_;intro wx hwx;have hXB:Blk wx wr.heap.size (Ro k' n' A' ks'.length c'):=by rw [hwx];exact aC _ _ _ rfl
   have hpx:Part (w.heap.size+3) wx v (ks.take j):=by rw [hwx];exact hp.alloc _
   have hrx:Rd wx A' 0 ks':=by rw [hwx];exact hr'.alloc _
   have hB3x:Blk wx (w.heap.size+1+1) #[.int .i64 k,.int .i64 n,v]:=by rw [hwx];exact hB3.alloc _
   have hB2x:Blk wx (w.heap.size+1) Zr:=by rw [hwx];exact hB2.alloc _
   have hbx:Bw w wx:=by rw [hwx];exact hb.alloc hb.size _
   have hs1:wr.heap.size<wx.heap.size:=by rw [hwx];simp
   have hs2:w.heap.size+1+1<wx.heap.size:=by omega
   have x2:=hB3x.rule (i:=2) rfl;have y0:=hXB.rule (i:=0) rfl;have y1:=hXB.rule (i:=1) rfl;have y2:=hXB.rule (i:=2) rfl;clear hwx;refine nD (fun w'=>Bw wx w') [0,1,2] [3,4] [5,6,7] [_,_,_] [_,_] [_,_,_] (by kernel_rfl) (by kernel_rfl) rfl rfl rfl (fun _ _ d _ _ h=>by cases d<;>exact h) (dV _ _).drew ?_;repeat (first|((refine xF (a':=?_) ?_ ?_ ?_);(rotate_left);(· (simp [Region.wanted,yielded];done));(· (simp only [Act.put,List.setIfInBounds_toArray,List.set_cons_zero,List.set_cons_succ];exact rfl)))|((refine xH (v:=?_) (a':=?_) ?_ ?_ ?_ ?_);(rotate_left 2);(· (simp [Region.wanted,yielded];done));(· (intro w' hS';go_simp;try (with_reducible rfl)));(· (simp only [Act.put,List.setIfInBounds_toArray,List.set_cons_zero,List.set_cons_succ];exact rfl))))
   refine aAs (bF ?_);go_wp2_with (go_at_call 26;refine (ih k' n' ks' A' c' _ (by omega) (by omega) hrx.drew).mono ?_;rintro e w1 ⟨A1,c1,rfl,hl1,hf1,hb1⟩)
   have hx1:Bw wx w1:=(dV wx.heap.size wx).drew.trans hb1;refine aH hx1 (bF ?_);go_wp2_with fail
   refine aH (hx1.alloc hx1.size _) (cS ?_);refine bQ (B:=w.heap.size+3) (m:=j) hpx.drew hb1 (by simp;omega) hf1 hl1 (by simp;omega) (by omega) rfl (.tmp 19) (.tmp 22) rfl rfl rfl ?_;intro A2 c2 w2 hp2 hb2 hg2;have q3:Blk w2 (w.heap.size+1+1) #[.int .i64 k,.int .i64 n,v]:=(hB3x.below hx1 (by omega)).below hb2 (by omega);have q2:Blk w2 (w.heap.size+1) Zr:=(hB2x.below hx1 (by omega)).below hb2 (by omega);have c3:w2.cell? ⟨w.heap.size+1+1,2,none⟩=some v:=q3.at_ rfl;have z3:=q3.frozen 2;have hbf:Bw w w2:=(hbx.trans (hx1.mono (by omega))).trans (hb2.mono (by omega));clear x2 y0 y1 y2 hpx hrx hB3x hB2x hbx;go_wp2_with fail
   go_roundw
   case rel=>exact ⟨j+1,_,by omega,by go_num,by rw [oR hlt,H3.out];exact hp2.setCell (by simp) _,q3.set_ 2 _,q2.far (by simp) _,hbf.setCell (by simp;omega) _⟩
   case measure=>simp [intOf];omega
  ·have hjl:j=ks.length:=by omega
   subst hjl;rw [List.take_length] at hp;obtain ⟨Ar,cr,rfl,hfr⟩:=hp.fresh;have c0:wr.cell? ⟨w.heap.size+1+1,0,none⟩=some (.int .i64 k):=hB3.at_ rfl;have c1:wr.cell? ⟨w.heap.size+1+1,1,none⟩=some (.int .i64 n):=hB3.at_ rfl;have c2:wr.cell? ⟨w.heap.size+1+1,2,none⟩=some (.slice Ar ks.length cr):=hB3.at_ rfl;have d0:wr.cell? ⟨w.heap.size+1,0,none⟩=some (.int .i64 0):=hB2.at_ rfl;have d1:wr.cell? ⟨w.heap.size+1,1,none⟩=some (.int .i64 0):=hB2.at_ rfl;have d2:wr.cell? ⟨w.heap.size+1,2,none⟩=some (.slice none 0 0):=hB2.at_ rfl;obtain ⟨e0,e1,e2⟩:=kS hB2;go_wp2_with fail
   refine bodyPost_ret (v:=.agg (Ro k n Ar ks.length cr)) (by simp [results,results26,go_sem,d0,d1,d2]) rfl ⟨Ar,cr,rfl,by omega,?_,?_⟩
   ·exact (mW hfr).mono (by omega)
   ·exact bV hb
theorem aCv (ks:List Tm)(A:Option Addr)(c:Nat)(w:World)(hM:aG ks≤1099511627776)(hr:Rd w A 0 ks) :
  Calls prog 38 #[.slice A ks.length c] w (aSr w ks):=by
 have hlen:=aJ ks;go_enter func38,ntmps38;go_wp2_with fail
 go_loopw [3,8] (fun v i wr=>∃(j:Nat),j≤ks.length∧i = .int .i64 j∧Part w.heap.size wr v (ks.take j)∧Bw w wr)
  (fun _ i _ => ks.length - (intOf i).toNat)
 case atStart=>exact ⟨0,Nat.zero_le _,rfl,Part.nil,dV _ _⟩
 case round=>
  obtain ⟨j,hj,rfl,hp,hb⟩:=hrel;by_cases hlt:j<ks.length
  ·obtain ⟨b,off,k',n',ks',A',c',rfl,hkj,hc1,hc2,hc3,hl',hr'⟩:=(hr.below hb).at_ hlt;have hsz:=bY (fG hlt);rw [hkj] at hsz;simp only [Tm.size] at hsz
   have H3:=aD hkj;clear hkj;go_wp2_with (first|(go_at_call 26;refine (gF (aG ks'+1) k' n' ks' A' c' _ (by omega) (by omega) (hr'.alloc _)).mono ?_;rintro e w1 ⟨A1,c1,rfl,hl1,hf1,hb1⟩)|(at_builtin;refine bQ (B:=w.heap.size) (m:=j) (hp.alloc _) hb1 (by simp;have:=hb.size;omega) hf1 hl1 (by simp;omega) (by omega) rfl _ _ rfl rfl rfl ?_;intro A2 c2 w2 hp2 hb2 hg2))
   go_roundw
   case rel=>exact ⟨j+1,by omega,by go_num,by rw [oR hlt,H3.out];exact hp2,(hb.trans (bw1.trans (hb1.mono (by simp)) |>.mono hb.size)).trans hb2⟩
   case measure=>simp [intOf];omega
  ·have hjl:j=ks.length:=by omega
   subst hjl;rw [List.take_length] at hp;obtain ⟨Ar,cr,rfl,hfr⟩:=hp.fresh;go_wp2_with fail
   go_ret
   exact ⟨Ar,cr,rfl,hfr,hb⟩
end Go.Proofs.YtddkehjdjfmhmaaGreat
