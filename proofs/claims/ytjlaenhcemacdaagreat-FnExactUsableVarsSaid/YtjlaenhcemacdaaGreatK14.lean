/- Parts of the proof. No condition. -/
import Derived.Test.YtjlaenhcemacdaaGreatK12
import Derived.Test.YtjlaenhcemacdaaGreatK13
open Go.Proofs.Tryz
namespace Go.Proofs.YtjlaenhcemacdaaGreat
open Go.RowKit
set_option maxHeartbeats 8000000
set_option maxRecDepth 100000
set_option linter.unusedSimpArgs false
set_option linter.unusedVariables false
theorem aAf {ks:List Tm}{i:Nat}(hi:i<ks.length){t:Tm}:aG (ks.set i t)+ks[i].size=aG ks+t.size:=by
 induction ks generalizing i with
 | nil=>simp at hi
 | cons a ts ih=>
  cases i with
  | zero=>rw [List.set_cons_zero,aG,aG,List.getElem_cons_zero];omega
  | succ i=>rw [List.set_cons_succ,aG,aG,List.getElem_cons_succ];have:=ih (i:=i) (by simpa using hi);omega
theorem yU {u u0:Tm}:∀{xs:List Int} {t:Tm},mK t xs=some u0→(jV t xs u).size≤t.size+u.size
 | [],t,_=>by rw [jV];omega
 | i::is,.mk k n ks,h=>by
  rw [mK] at h;split at h
  ·rename_i hh
   have hlt:i.toNat<ks.length:=by have:=hh.2;simp only [Tm.kids] at this;omega
   rw [show (Tm.mk k n ks).kids=ks from rfl] at h;have h1:=yU h (u:=u);have h2:=aAf hlt (t:=jV (ks.getD i.toNat default) is u);have e:ks.getD i.toNat default=ks[i.toNat]:=by simp [List.getD,qR hlt]
   rw [e] at h1 h2;rw [jV,Tm.size,Tm.size,e];omega
  ·cases h
theorem yX (ku nu:Int)(us:List Tm)(hus:aG us≤1000000)(xs:List Int)(k n:Int)(ks:List Tm)(A:Option Addr)(c:Nat)(P:Option Addr)(cp:Nat)(U:Option Addr)(cu:Nat)(w:World)(u0:Tm)(h:mK (.mk k n ks) xs=some u0)(hcp:xs.length≤cp)(hM:aG ks≤1000000)(hr:Rd w A 0 ks)(hi:RdI w P xs)(hru:Rd w U 0 us){kp np:Int}{ps:List Tm}(hp:jV (.mk k n ks) xs (.mk ku nu us) = .mk kp np ps) :
  Calls prog 135 #[.agg (Ro k n A ks.length c),.slice P xs.length cp,.agg (Ro ku nu U us.length cu)] w fun e w'=>∃B d,e = .returned (.agg (Ro kp np B ps.length d))∧ps.length≤9223372036854775807∧Rd w' B 0 ps∧Bw w w':=by
 refine (aCn (·<w.heap.size) ku nu us hus xs k n ks A c P cp U cu w u0 h hcp hM hr.rdp hi hru.rdp (fun b hb=>hb)).mono ?_;rw [hp];rintro e w' hgo;obtain ⟨B,d,rfl,hl,hr',hb⟩:=aGj hgo;exact ⟨B,d,rfl,hl,hr'.rd,hb⟩
theorem rX (k n:Int)(ks:List Tm)(A:Option Addr)(c:Nat)(xs:List Int)(P:Option Addr)(cp:Nat)(w:World){ku nu:Int}{us:List Tm}(hv:aE (.mk k n ks)=true)(hx:xs.length≤1000)(hcp:xs.length≤cp)(hat:mK (.mk k n ks) xs=some (.mk ku nu us))(hxu:rdx ku us≠0)(hr:Rd w A 0 ks)(hp:RdI w P xs) :
  Calls prog 109 #[.agg (Ro k n A ks.length c),.slice P xs.length cp] w (oM w (mS (.mk k n ks) xs)):=by
 have hz:=aH hv;have hlen:=aJ ks;have hvu:=pB hat hv;have hvu':=aD hvu;have hat':=aD hat
 have hxu':=aD hxu;have hzu:=aH hvu;cases hc:tX (.mk ku nu us) with
 | none=>
  have hz2:mS (.mk k n ks) xs=none:=by rw [mS,hat];simp only [hc]
  rw [hz2];have hc':=aD hc;clear hz2 hc hat hvu hxu hv;go_enter func109,ntmps109;go_wp2_with (first
   | (go_at_call 133;have _t:=tok1;refine (lU ku nu us A2 c2 _ hvu'.out hxu'.out rU).mono ?_;rw [hc'.out];intro e w2 hgo;obtain ⟨rfl,hb2⟩:=eH hgo;have hZ2:=hZ1.keep hb2;have g2:=g1.trans (hb2.mono g1.size);obtain ⟨d0,d1,d2,e0,e1,e2,lz⟩:=dJ hZ2;have n1:w.heap.size+1≠w2.heap.size:=(by omega))
   | (go_at_call 134;refine (aAs k n ks A c xs P cp _ (by omega) (by omega) ((hr.alloc _).alloc _) ((hp.alloc _).alloc _) hat'.out).mono ?_;rintro e w1 ⟨k',n',ks',A2,c2,hu,rfl,hl2,hr2,hb1⟩;injection hu with x1 x2 x3;subst x1 x2 x3;have hZ1:Blk w1 (w.heap.size+1) Zr:=(aC _ 32 _ (by simp)).keep hb1;have g1:Bw w w1:=bU bw2 hb1;have rU:=hr2.below hb1;have tok1:=trivial))
  have y:=fun (o:Obj)=>(((((hZ2.set_ 0 (.int .i64 0)).set_ 1 (.int .i64 0)).set_ 2 (.slice none 0 0)).alloc o:Blk _ _ Zr)).three
  refine bodyPost_ret (v:=.tuple #[fO,.bool false]) (by simp [results,results109,go_sem,y,fO]) rfl ⟨rfl,?_⟩;exact (bP g2).alloc (by simp [World.setCell];exact g2.size) _
 | some v=>
  obtain ⟨kv,nv,vs⟩:=v;have hvv:=aDw hc;have hzv:=aH hvv;obtain ⟨kp,np,ps,hput⟩:∃kp np ps,jV (.mk k n ks) xs (.mk kv nv vs) = .mk kp np ps:=by cases jV (.mk k n ks) xs (.mk kv nv vs) with|mk a b c=>exact ⟨a,b,c,rfl⟩
  have hzp:aG ps≤1000:=by
   have:=yU hat (u:=.mk kv nv vs);rw [hput] at this;simp only [Tm.size] at this
   omega
  have hz2:mS (.mk k n ks) xs=vO (.mk kp np ps):=by rw [mS,hat];simp only [hc,hput]
  rw [hz2];have hc':=aD hc;have hput':=aD hput;clear hz2 hc hat hvu hxu hv hput hvv;have hlp:=aJ ps;cases hvp:aE (.mk kp np ps) with
  | false=>
   have hz3:vO (.mk kp np ps)=none:=by rw [vO,hvp];rfl
   rw [hz3];have hvp':=aD hvp;clear hz3 hvp;go_enter func109,ntmps109;go_wp2_with (first
    | (go_at_call 84;have _t:=tok4;refine (yD kp np ps A8 c8 _ (by omega) hf8.rd hvp'.out).mono ?_;rintro e w9 ⟨rfl,hb9⟩;have hZ9:=hZ8.keep hb9;have g9:=g8.trans (hb9.mono g8.size);obtain ⟨d0,d1,d2,e0,e1,e2⟩:=bW hZ9)
    | (go_at_call 63;have _t:=tok3;refine (kA 10000 kp np ps A7 c7 _ (by omega) (by omega) r7).mono ?_;rintro e w8 ⟨A8,c8,rfl,hl8,hf8,hb8⟩;have hZ8:=hZ7.keep hb8;have g8:=g7.trans (hb8.mono g7.size);have tok4:=trivial)
    | (go_at_call 135;have _t:=tok2;refine (yX kv nv vs (by omega) xs k n ks A c P cp A3 c3 _ (.mk ku nu us) hat'.out hcp (by omega) ((hr.below g2).alloc _) ((hp.below g2).alloc _) (r3.alloc _) hput'.out).mono ?_;rintro e w7 ⟨A7,c7,rfl,hl7,r7,hb7⟩;have hZ7:=(hZ2.alloc (.cells (Ro kv nv A3 vs.length c3) 32)).keep hb7;have g7:=(g2.alloc g2.size (.cells (Ro kv nv A3 vs.length c3) 32)).trans (hb7.mono (by have:=g2.size;simp;omega));have tok3:=trivial)
    | (go_at_call 133;have _t:=tok1;refine (lU ku nu us A2 c2 _ hvu'.out hxu'.out rU).mono ?_;rw [hc'.out];intro e w2 hgo;obtain ⟨A3,c3,rfl,hl3,hf3,hb2⟩:=cS hgo;have hZ2:=hZ1.keep hb2;have hX2:=hX1.keep hb2;have g2:=g1.trans (hb2.mono g1.size);have r3:=hf3.rd;obtain ⟨x0,x1,x2⟩:=hX2.three;have lx:=hX2.lt;have tok2:=trivial)
    | (go_at_call 134;refine (aAs k n ks A c xs P cp _ (by omega) (by omega) ((hr.alloc _).alloc _) ((hp.alloc _).alloc _) hat'.out).mono ?_;rintro e w1 ⟨k',n',ks',A2,c2,hu,rfl,hl2,hr2,hb1⟩;injection hu with y1 y2 y3;subst y1 y2 y3;have hX1:Blk w1 w.heap.size (Ro k n A ks.length c):=((aC _ 32 _ rfl).alloc _).keep hb1;have hZ1:Blk w1 (w.heap.size+1) Zr:=(aC _ 32 _ (by simp)).keep hb1;have g1:Bw w w1:=bU bw2 hb1;have rU:=hr2.below hb1;have tok1:=trivial))
   refine bodyPost_ret (v:=.tuple #[fO,.bool false]) (by simp [results,results109,go_sem,d0,d1,d2,fO]) rfl ⟨rfl,?_⟩;exact bP g9
  | true=>
   have hz3:vO (.mk kp np ps)=some (.mk kp np ps):=by rw [vO,hvp];rfl
   rw [hz3];have hvp':=aD hvp;clear hz3 hvp;go_enter func109,ntmps109;go_wp2_with (first
    | (go_at_call 84;have _t:=tok4;refine (gY kp np ps A8 c8 _ (by omega) hf8.rd hvp'.out).mono ?_;rintro e w9 ⟨rfl,hb9⟩;have hZ9:=hZ8.keep hb9;have g9:=g8.trans (hb9.mono g8.size);have hf9:=hf8.below hb9;obtain ⟨d0,d1,d2,e0,e1,e2⟩:=bW hZ9)
    | (go_at_call 63;have _t:=tok3;refine (kA 10000 kp np ps A7 c7 _ (by omega) (by omega) r7).mono ?_;rintro e w8 ⟨A8,c8,rfl,hl8,hf8,hb8⟩;have hZ8:=hZ7.keep hb8;have g8:=g7.trans (hb8.mono g7.size);have tok4:=trivial)
    | (go_at_call 135;have _t:=tok2;refine (yX kv nv vs (by omega) xs k n ks A c P cp A3 c3 _ (.mk ku nu us) hat'.out hcp (by omega) ((hr.below g2).alloc _) ((hp.below g2).alloc _) (r3.alloc _) hput'.out).mono ?_;rintro e w7 ⟨A7,c7,rfl,hl7,r7,hb7⟩;have hZ7:=(hZ2.alloc (.cells (Ro kv nv A3 vs.length c3) 32)).keep hb7;have g7:=(g2.alloc g2.size (.cells (Ro kv nv A3 vs.length c3) 32)).trans (hb7.mono (by have:=g2.size;simp;omega));have tok3:=trivial)
    | (go_at_call 133;have _t:=tok1;refine (lU ku nu us A2 c2 _ hvu'.out hxu'.out rU).mono ?_;rw [hc'.out];intro e w2 hgo;obtain ⟨A3,c3,rfl,hl3,hf3,hb2⟩:=cS hgo;have hZ2:=hZ1.keep hb2;have hX2:=hX1.keep hb2;have g2:=g1.trans (hb2.mono g1.size);have r3:=hf3.rd;obtain ⟨x0,x1,x2⟩:=hX2.three;have lx:=hX2.lt;have tok2:=trivial)
    | (go_at_call 134;refine (aAs k n ks A c xs P cp _ (by omega) (by omega) ((hr.alloc _).alloc _) ((hp.alloc _).alloc _) hat'.out).mono ?_;rintro e w1 ⟨k',n',ks',A2,c2,hu,rfl,hl2,hr2,hb1⟩;injection hu with y1 y2 y3;subst y1 y2 y3;have hX1:Blk w1 w.heap.size (Ro k n A ks.length c):=((aC _ 32 _ rfl).alloc _).keep hb1;have hZ1:Blk w1 (w.heap.size+1) Zr:=(aC _ 32 _ (by simp)).keep hb1;have g1:Bw w w1:=bU bw2 hb1;have rU:=hr2.below hb1;have tok1:=trivial))
   have s7:=g7.size;have lz:=hZ8.lt;have lz1:=hZ1.lt;have s12:=hb2.size;have s27:=hb7.size;refine bodyPost_ret (v:=.tuple #[.agg (Ro kp np A8 ps.length c8),.bool true]) (by simp [results,results109,go_sem,d0,d1,d2]) rfl ⟨A8,c8,rfl,hl8,?_,?_⟩
   ·exact (((hf9.setCell (by simp at s27;simp;omega) _).setCell (by simp at s27;simp;omega) _).setCell (by simp at s27;simp;omega) _).mono s7
   ·exact bP g9
theorem yS {find:Tm→Option (List Int)}{f:Nat}{t:Tm}(h:find t=none):redI find f t=(some t,0):=by rw [redI.eq_def];simp only [h]
theorem yT {find:Tm→Option (List Int)}{t:Tm}{p:List Int}(h:find t=some p):redI find 0 t=(none,1):=by rw [redI.eq_def];simp only [h]
theorem vP {find:Tm→Option (List Int)}{f:Nat}{t:Tm}{p:List Int}(h:find t=some p)(h2:mS t p=none):redI find (f+1) t=(none,2):=by rw [redI.eq_def];simp only [h,h2]
theorem yR {find:Tm→Option (List Int)}{f:Nat}{t t':Tm}{p:List Int}(h:find t=some p)(h2:mS t p=some t'):redI find (f+1) t=redI find f t':=by rw [redI.eq_def];simp only [h,h2]
def aPa (w:World)(r:Option Tm × Int)(e:Ending)(w':World):Prop:=
 ∃(k n:Int) (ks:List Tm) (A:Option Addr) (c:Nat) (st:Int),r.1.getD (.mk 0 0 []) = .mk k n ks∧e = .returned (.tuple #[.agg (Ro k n A ks.length c),.int .i64 st,.int .i64 r.2])∧ks.length≤9223372036854775807∧RdP (fun b=>w.heap.size≤b) w' A 0 ks∧Bw w w'
def aQr (w:World)(r:Option Tm × Int)(e:Ending)(w':World):Prop:=
 ∃(k n:Int) (ks:List Tm) (A:Option Addr) (c:Nat),r.1.getD (.mk 0 0 []) = .mk k n ks∧e = .returned (.tuple #[.agg (Ro k n A ks.length c),.int .i64 r.2])∧ks.length≤9223372036854775807∧RdP (fun b=>w.heap.size≤b) w' A 0 ks∧Bw w w'
theorem Fresh.rd' {B:Nat}{w:World}{A:Option Addr}{ks:List Tm}(h:Fresh B w A ks):RdP (fun b=>B≤b) w A 0 ks:=h.rdp.mono fun b hb=>hb.1
theorem zH (k n:Int)(ks:List Tm)(A:Option Addr)(c:Nat)(fuel:Nat)(w:World)(hv:aE (.mk k n ks)=true)(hf:fuel≤200)(hr:Rd w A 0 ks) :
  Calls prog 85 #[.agg (Ro k n A ks.length c),.int .i64 fuel,.func (.func 112) #[] #[]] w (aPa w (redI eL fuel (.mk k n ks))):=by
 have hz:=aH hv;have hv':=aD hv;have hF:∀(args:Array Value) (w:World),(callFunc 112 args).run prog w = .ok (.enter 112 args) w:=fG func112 (by kernel_rfl) (by kernel_rfl);have q1:decide ((fuel:Int)≤200)=true:=decide_eq_true (by omega);clear hv;go_enter func85,ntmps85;go_wp2_with (first
  | (go_at_call 36;refine (dF _ _ _ _).mono ?_;rintro e w9 ⟨rfl,rfl⟩)
  | (go_at_call 58;refine (bI k n ks A c _ (by omega) ((hr.alloc _).alloc _)).mono ?_;rw [hv'.out];rintro e w1 ⟨rfl,hb1⟩;have hT1:Blk w1 w.heap.size (Ro k n A ks.length c):=((aC _ 32 _ rfl).alloc _).keep hb1;have hZ1:Blk w1 (w.heap.size+1) Zr:=(aC _ 32 _ (by simp)).keep hb1;have g1:Bw w w1:=bU bw2 hb1;have r1:=((hr.alloc (.cells (Ro k n A ks.length c) 32)).alloc (.cells Zr 32)).below hb1))
 go_loopw [9] (fun i wr=>∃(j:Nat) (kj nj:Int) (ksj:List Tm) (Aj:Option Addr) (cj:Nat),j≤fuel∧i = .int .i64 j∧Hid (redI eL (fuel - j) (.mk kj nj ksj)=redI eL fuel (.mk k n ks))∧Hid (aE (.mk kj nj ksj)=true)∧Rd wr Aj 0 ksj∧Blk wr w.heap.size (Ro kj nj Aj ksj.length cj)∧Blk wr (w.heap.size+1) Zr∧Bw w wr)
  (fun i _ => fuel - (intOf i).toNat)
 case atStart=>exact ⟨0,k,n,ks,A,c,Nat.zero_le _,rfl,aD rfl,hv',r1,hT1,hZ1,g1⟩
 case round=>
  obtain ⟨j,kj,nj,ksj,Aj,cj,hj,rfl,hred,hvj,hrj,hT,hZ,hb⟩:=hrel;have hzj:=aH hvj.out;obtain ⟨y0,y1,y2⟩:=hT.three;cases hfind:eL (.mk kj nj ksj) with
  | none=>
   have hfo:=aD hfind;have hres:redI eL fuel (.mk k n ks)=(some (.mk kj nj ksj),0):=by rw [← hred.out,yS hfind]
   rw [hres];clear hres hfind;go_wp2_with (first
    | (go_at_call 63;have _t:=tok1;refine (kA 10000 kj nj ksj Aj cj _ (by omega) (by omega) r1).mono ?_;rintro e w2 ⟨A2,c2,rfl,hl2,hf2,hb2⟩;have hZ2:=hZ1.keep hb2;have g2:=g1.trans (hb2.mono g1.size);obtain ⟨d0,d1,d2,e0,e1,e2⟩:=bW hZ2)
    | (go_at_call 112;refine (rE (aG ksj+1) 30 kj nj ksj Aj cj _ (by omega) (by omega) (aZ hvj.out) (by omega) hrj).mono ?_;rw [hfo.out];intro e w1 hp1;obtain ⟨A1,m1,c1,rfl,hb1⟩:=hp1.none_;have hT1:=hT.keep hb1;have hZ1:=hZ.keep hb1;have g1:=hb.trans (hb1.mono hb.size);have r1:=hrj.below hb1;obtain ⟨x0,x1,x2⟩:=hT1.three;have tok1:=trivial))
   have lz:=hZ1.lt;refine bodyPost_ret (v:=.tuple #[.agg (Ro kj nj A2 ksj.length c2),.int .i64 j,.int .i64 0]) (by simp [results,results85,go_sem,d0,d1,d2]) rfl ⟨kj,nj,ksj,A2,c2,j,rfl,rfl,hl2,?_,?_⟩
   ·exact ((((hf2.rd'.setCell (by simp;omega) _).setCell (by simp;omega) _).setCell (by simp;omega) _)).mono (fun b hb=>Nat.le_trans g1.size hb)
   ·exact bP g2
  | some p=>
   obtain ⟨ku,nu,us,hat,hxu⟩:=aKo _ _ hfind;have hfo:=aD hfind;have hat':=aD hat
   have hxu':=aD hxu;by_cases hjf:j=fuel
   ·subst hjf;have hres:redI eL j (.mk k n ks)=(none,1):=by rw [← hred.out,Nat.sub_self,yT hfind]
    rw [hres];clear hres hfind hat hxu;go_wp2_with (go_at_call 112;refine (rE (aG ksj+1) 30 kj nj ksj Aj cj _ (by omega) (by omega) (aZ hvj.out) (by omega) hrj).mono ?_;rw [hfo.out];intro e w1 hp1;obtain ⟨A1,m1,c1,rfl,hm1,hmc1,hme,hpx,hb1⟩:=hp1.some_;have hT1:=hT.keep hb1;have hZ1:=hZ.keep hb1;have g1:=hb.trans (hb1.mono hb.size);have r1:=hrj.below hb1;have ri:=hpx.rdi;subst hme;obtain ⟨x0,x1,x2⟩:=hT1.three;have tok1:=trivial;obtain ⟨d0,d1,d2,e0,e1,e2⟩:=bW hZ1)
    refine bodyPost_ret (v:=.tuple #[.agg Zr,.int .i64 j,.int .i64 1]) (by simp [results,results85,go_sem,d0,d1,d2]) rfl ⟨0,0,[],none,0,j,rfl,rfl,by simp,RdP.nil,?_⟩;exact bP g1
   ·have hjlt:j<fuel:=by omega
    have hq:((j:Int)==(fuel:Int))=false:=by simp;omega
    obtain ⟨f,hfe⟩:∃f,fuel - j=f+1:=⟨fuel - j - 1,by omega⟩;cases hct:mS (.mk kj nj ksj) p with
    | none=>
     have hres:redI eL fuel (.mk k n ks)=(none,2):=by rw [← hred.out,hfe,vP hfind hct]
     rw [hres];have hct':=aD hct;clear hres hfind hat hxu hct;go_wp2_with (first
      | (go_at_call 109;have _t:=tok1;refine (rX kj nj ksj Aj cj p A1 c1 _ hvj.out (by omega) hmc1 hat'.out hxu'.out r1 ri).mono ?_;rw [hct'.out];intro e w2 hgo;obtain ⟨rfl,hb2⟩:=eH hgo;have hZ2:=hZ1.keep hb2;have g2:=g1.trans (hb2.mono g1.size);obtain ⟨d0,d1,d2,e0,e1,e2,lz⟩:=dJ hZ2;have n1:w.heap.size+1≠w2.heap.size:=(by omega))
      | (go_at_call 112;refine (rE (aG ksj+1) 30 kj nj ksj Aj cj _ (by omega) (by omega) (aZ hvj.out) (by omega) hrj).mono ?_;rw [hfo.out];intro e w1 hp1;obtain ⟨A1,m1,c1,rfl,hm1,hmc1,hme,hpx,hb1⟩:=hp1.some_;have hT1:=hT.keep hb1;have hZ1:=hZ.keep hb1;have g1:=hb.trans (hb1.mono hb.size);have r1:=hrj.below hb1;have ri:=hpx.rdi;subst hme;obtain ⟨x0,x1,x2⟩:=hT1.three;have tok1:=trivial))
     have y:=fun (o:Obj)=>(((((hZ2.set_ 0 (.int .i64 0)).set_ 1 (.int .i64 0)).set_ 2 (.slice none 0 0)).alloc o:Blk _ _ Zr)).three
     refine bodyPost_ret (v:=.tuple #[.agg Zr,.int .i64 j,.int .i64 2]) (by simp [results,results85,go_sem,y]) rfl ⟨0,0,[],none,0,j,rfl,rfl,by simp,RdP.nil,?_⟩;exact (bP g2).alloc (by simp [World.setCell];exact g2.size) _
    | some t'=>
     obtain ⟨kt,nt,kst⟩:=t';have hvt:=aD (qH hct);have hres:=aD (show redI eL (fuel - (j+1)) (.mk kt nt kst)=redI eL fuel (.mk k n ks) by rw [← hred.out,hfe,yR hfind hct];congr 1;omega);have hct':=aD hct;clear hfind hat hxu hct;go_wp2_with (first
      | (go_at_call 109;have _t:=tok1;refine (rX kj nj ksj Aj cj p A1 c1 _ hvj.out (by omega) hmc1 hat'.out hxu'.out r1 ri).mono ?_;rw [hct'.out];intro e w2 hgo;obtain ⟨A2,c2,rfl,hl2,hf2,hb2⟩:=cS hgo;have hT2:=hT1.keep hb2;have hZ2:=hZ1.keep hb2;have g2:=g1.trans (hb2.mono g1.size);obtain ⟨e0,e1,e2⟩:=bkf hT2;obtain ⟨d0,d1,d2⟩:=hT2.three;have lz:=hT2.lt)
      | (go_at_call 112;refine (rE (aG ksj+1) 30 kj nj ksj Aj cj _ (by omega) (by omega) (aZ hvj.out) (by omega) hrj).mono ?_;rw [hfo.out];intro e w1 hp1;obtain ⟨A1,m1,c1,rfl,hm1,hmc1,hme,hpx,hb1⟩:=hp1.some_;have hT1:=hT.keep hb1;have hZ1:=hZ.keep hb1;have g1:=hb.trans (hb1.mono hb.size);have r1:=hrj.below hb1;have ri:=hpx.rdi;subst hme;obtain ⟨x0,x1,x2⟩:=hT1.three;have tok1:=trivial))
     have lt1:=hT1.lt;go_roundw
     case rel=>
      refine ⟨j+1,kt,nt,kst,A2,c2,by omega,by go_num,hres,hvt,?_,(((hT2.set_ 0 _).set_ 1 _).set_ 2 _).alloc _,(((hZ2.far (by simp) _).far (by simp) _).far (by simp) _).alloc _,(bP g2).alloc (by simp [World.setCell];exact g2.size) _⟩;exact ((((hf2.rd'.setCell (by simp;omega) _).setCell (by simp;omega) _).setCell (by simp;omega) _).alloc _).rd
     case measure=>simp [intOf];omega
theorem yH (k n:Int)(ks:List Tm)(A:Option Addr)(c:Nat)(fuel:Nat)(w:World)(hv:aE (.mk k n ks)=true)(hf:fuel≤200)(hr:Rd w A 0 ks) :
  Calls prog 88 #[.agg (Ro k n A ks.length c),.int .i64 fuel] w (aQr w (redI eL fuel (.mk k n ks))):=by
 generalize hre:redI eL fuel (.mk k n ks)=re
 have hR:=aD (fun (w:World) (hr:Rd w A 0 ks)=>by have:=zH k n ks A c fuel w hv hf hr;rwa [hre] at this);clear hre hv;go_enter func88,ntmps88;go_wp2_with (go_at_call 85;refine (hR.out _ ((hr.alloc _).alloc _)).mono ?_;rintro e w1 ⟨k1,n1',ks1,A1,c1,st,hk1,rfl,hl1,r1,hb1⟩;have hZ1:Blk w1 (w.heap.size+1) Zr:=(aC _ 32 _ (by simp)).keep hb1;have g1:Bw w w1:=bU bw2 hb1;obtain ⟨d0,d1,d2,e0,e1,e2,lz⟩:=dJ hZ1;have n1:w.heap.size+1≠w1.heap.size:=(by omega))
 have y:=fun (o:Obj)=>(((((hZ1.set_ 0 (.int .i64 k1)).set_ 1 (.int .i64 n1')).set_ 2 (.slice A1 ks1.length c1)).alloc o:Blk _ _ (Ro k1 n1' A1 ks1.length c1))).three
 refine bodyPost_ret (v:=.tuple #[.agg (Ro k1 n1' A1 ks1.length c1),.int .i64 re.2]) (by simp [results,results88,go_sem,y]) rfl ⟨k1,n1',ks1,A1,c1,hk1,rfl,hl1,?_,?_⟩
 ·exact ((((r1.setCell (by simp) _).setCell (by simp) _).setCell (by simp) _).alloc _).mono (fun b hb=>by simp at hb;omega)
 ·exact (bP g1).alloc (by simp [World.setCell];exact g1.size) _
theorem qX {w:World}{r:Option Tm × Int}{e:Ending}{w':World}(h:aQr w r e w'){k n c:Int}{ks:List Tm}(h1:r.1.getD (.mk 0 0 []) = .mk k n ks)(h2:r.2=c) :
  ∃A d,e = .returned (.tuple #[.agg (Ro k n A ks.length d),.int .i64 c])∧ks.length≤9223372036854775807∧Rd w' A 0 ks∧Bw w w':=by
 obtain ⟨k1,n1,ks1,A,d,hk,rfl,hl,hr,hb⟩:=h;rw [h1] at hk;injection hk with a1 a2 a3;subst a1 a2 a3 h2;exact ⟨A,d,rfl,hl,hr.rd,hb⟩
theorem sI (k n:Int)(ks:List Tm)(A:Option Addr)(c:Nat)(k' n':Int)(ls:List Tm)(B:Option Addr)(d:Nat)(fuel:Nat)(w:World)(hf:fuel≤200)(hv:aE (.mk k n ks)=true)(hv':aE (.mk k' n' ls)=true)(hr:Rd w A 0 ks)(hr':Rd w B 0 ls) :
    Calls prog 52 #[.agg (Ro k n A ks.length c),.agg (Ro k' n' B ls.length d),.int .i64 fuel] w fun e w'=>e = .returned (.int .i64 (eP fuel (.mk k n ks) (.mk k' n' ls)))∧Bw w w':=by
  have hz:=aH hv;have hz':=aH hv';have hl1:=aJ ks;have hl2:=aJ ls;have q1:decide ((fuel:Int)≤200)=true:=decide_eq_true (by omega);obtain ⟨xk,xn,xs,hx⟩:∃a b l,(redI eL fuel (.mk k n ks)).1.getD (.mk 0 0 []) = .mk a b l:=by cases (redI eL fuel (.mk k n ks)).1.getD (.mk 0 0 []) with|mk a b l=>exact ⟨a,b,l,rfl⟩
  obtain ⟨yk,yn,ys,hy⟩:∃a b l,(redI eL fuel (.mk k' n' ls)).1.getD (.mk 0 0 []) = .mk a b l:=by cases (redI eL fuel (.mk k' n' ls)).1.getD (.mk 0 0 []) with|mk a b l=>exact ⟨a,b,l,rfl⟩
  obtain ⟨ca,hca⟩:∃z,(redI eL fuel (.mk k n ks)).2=z:=⟨_,rfl⟩;obtain ⟨cb,hcb⟩:∃z,(redI eL fuel (.mk k' n' ls)).2=z:=⟨_,rfl⟩;have hN1:=aD (fun (w:World) (hr:Rd w A 0 ks)=>(yH k n ks A c fuel w hv hf hr).mono fun e w' h=>qX h hx hca);have hN2:=aD (fun (w:World) (hr:Rd w B 0 ls)=>(yH k' n' ls B d fuel w hv' hf hr).mono fun e w' h=>qX h hy hcb);have hcv:eP fuel (.mk k n ks) (.mk k' n' ls)=if fX (.mk k n ks) (.mk k' n' ls)=true then 1 else if ca≠0∨cb≠0 then 3 else if fX (.mk xk xn xs) (.mk yk yn ys)=true then 1 else 2:=by rw [eP,hx,hy,hca,hcb]
  rw [hcv];have hv1:=aD hv;have hv2:=aD hv';clear hcv hx hy hca hcb hv hv';cases hT:fX (.mk k n ks) (.mk k' n' ls) with
  | true=>
    rw [if_pos rfl];replace hT:=aD hT;go_enter func52,ntmps52;go_wp2_with (first
    | (go_at_call 87;have _t:=tok2;refine (iW k n ks A c k' n' ls B d _ (by omega) (by omega) (hr.below g2) (hr'.below g2)).mono ?_;rw [hT.out];rintro e w3 ⟨rfl,hb3⟩;have hX3:=hX2.keep hb3;have hY3:=hY2.keep hb3;have g3:=g2.trans (hb3.mono g2.size);clear x0 x1 x2 y0 y1 y2;obtain ⟨x0,x1,x2⟩:=hX3.three;obtain ⟨y0,y1,y2⟩:=hY3.three;have tok3:=trivial)
    | (go_at_call 36;refine (dF _ _ _ _).mono ?_;rintro e w9 ⟨rfl,rfl⟩)
    | (go_at_call 58;have _t:=tok1;refine (bI k' n' ls B d _ (by omega) (hr'.below g1)).mono ?_;rw [hv2.out];rintro e w2 ⟨rfl,hb2⟩;have hX2:=hX1.keep hb2;have hY2:=hY1.keep hb2;have g2:=g1.trans (hb2.mono g1.size);clear x0 x1 x2 y0 y1 y2;obtain ⟨x0,x1,x2⟩:=hX2.three;obtain ⟨y0,y1,y2⟩:=hY2.three;have tok2:=trivial)
    | (go_at_call 58;refine (bI k n ks A c _ (by omega) ((hr.alloc _).alloc _)).mono ?_;rw [hv1.out];rintro e w1 ⟨rfl,hb1⟩;have hX1:Blk w1 w.heap.size (Ro k n A ks.length c):=((aC _ 32 _ rfl).alloc _).keep hb1;have hY1:Blk w1 (w.heap.size+1) (Ro k' n' B ls.length d):=(aC _ 32 _ (by simp)).keep hb1;have g1:Bw w w1:=bU bw2 hb1;obtain ⟨x0,x1,x2⟩:=hX1.three;obtain ⟨y0,y1,y2⟩:=hY1.three;have tok1:=trivial))
    go_ret
    exact ⟨rfl,g3⟩
  | false=>
    rw [if_neg (by simp)];replace hT:=aD hT;by_cases h1:ca=0
    · by_cases h2:cb=0
      · rw [if_neg (by omega)]
        subst h1 h2;cases hU:fX (.mk xk xn xs) (.mk yk yn ys) with
        | true=>
          rw [if_pos rfl];replace hU:=aD hU;go_enter func52,ntmps52;go_wp2_with (first
    | (go_at_call 87;have _t:=tok5;refine (iW xk xn xs A4 c4 yk yn ys A5 c5 _ hl4 hl5 (r45.alloc _) (r5.alloc _)).mono ?_;rw [hU.out];rintro e w6 ⟨rfl,hb6⟩;have g6:=(g5.alloc g5.size (.cells (Ro yk yn A5 ys.length c5) 32)).trans (hb6.mono (by have:=g5.size;simp;omega)))
    | (go_at_call 88;have _t:=tok4;refine (hN2.out _ ((hr'.below g4).alloc _)).mono ?_;rintro e w5 ⟨A5,c5,rfl,hl5,r5,hb5⟩;have hP5:=(aC w4 32 (Ro xk xn A4 xs.length c4) rfl).keep hb5;have g5:=(g4.alloc g4.size (.cells (Ro xk xn A4 xs.length c4) 32)).trans (hb5.mono (by have:=g4.size;simp;omega));have r45:=(r4.alloc (.cells (Ro xk xn A4 xs.length c4) 32)).below hb5;obtain ⟨p0,p1,p2⟩:=hP5.three;have lp:=hP5.lt;have tok5:=trivial)
    | (go_at_call 88;have _t:=tok3;refine (hN1.out _ (hr.below g3)).mono ?_;rintro e w4 ⟨A4,c4,rfl,hl4,r4,hb4⟩;have hY4:=hY3.keep hb4;have g4:=g3.trans (hb4.mono g3.size);clear x0 x1 x2 y0 y1 y2;obtain ⟨y0,y1,y2⟩:=hY4.three;have ly4:=hY4.lt;have tok4:=trivial)
    | (go_at_call 87;have _t:=tok2;refine (iW k n ks A c k' n' ls B d _ (by omega) (by omega) (hr.below g2) (hr'.below g2)).mono ?_;rw [hT.out];rintro e w3 ⟨rfl,hb3⟩;have hX3:=hX2.keep hb3;have hY3:=hY2.keep hb3;have g3:=g2.trans (hb3.mono g2.size);clear x0 x1 x2 y0 y1 y2;obtain ⟨x0,x1,x2⟩:=hX3.three;obtain ⟨y0,y1,y2⟩:=hY3.three;have tok3:=trivial)
    | (go_at_call 36;refine (dF _ _ _ _).mono ?_;rintro e w9 ⟨rfl,rfl⟩)
    | (go_at_call 58;have _t:=tok1;refine (bI k' n' ls B d _ (by omega) (hr'.below g1)).mono ?_;rw [hv2.out];rintro e w2 ⟨rfl,hb2⟩;have hX2:=hX1.keep hb2;have hY2:=hY1.keep hb2;have g2:=g1.trans (hb2.mono g1.size);clear x0 x1 x2 y0 y1 y2;obtain ⟨x0,x1,x2⟩:=hX2.three;obtain ⟨y0,y1,y2⟩:=hY2.three;have tok2:=trivial)
    | (go_at_call 58;refine (bI k n ks A c _ (by omega) ((hr.alloc _).alloc _)).mono ?_;rw [hv1.out];rintro e w1 ⟨rfl,hb1⟩;have hX1:Blk w1 w.heap.size (Ro k n A ks.length c):=((aC _ 32 _ rfl).alloc _).keep hb1;have hY1:Blk w1 (w.heap.size+1) (Ro k' n' B ls.length d):=(aC _ 32 _ (by simp)).keep hb1;have g1:Bw w w1:=bU bw2 hb1;obtain ⟨x0,x1,x2⟩:=hX1.three;obtain ⟨y0,y1,y2⟩:=hY1.three;have tok1:=trivial))
          go_ret
          exact ⟨rfl,g6⟩
        | false=>
          rw [if_neg (by simp)];replace hU:=aD hU;go_enter func52,ntmps52;go_wp2_with (first
    | (go_at_call 87;have _t:=tok5;refine (iW xk xn xs A4 c4 yk yn ys A5 c5 _ hl4 hl5 (r45.alloc _) (r5.alloc _)).mono ?_;rw [hU.out];rintro e w6 ⟨rfl,hb6⟩;have g6:=(g5.alloc g5.size (.cells (Ro yk yn A5 ys.length c5) 32)).trans (hb6.mono (by have:=g5.size;simp;omega)))
    | (go_at_call 88;have _t:=tok4;refine (hN2.out _ ((hr'.below g4).alloc _)).mono ?_;rintro e w5 ⟨A5,c5,rfl,hl5,r5,hb5⟩;have hP5:=(aC w4 32 (Ro xk xn A4 xs.length c4) rfl).keep hb5;have g5:=(g4.alloc g4.size (.cells (Ro xk xn A4 xs.length c4) 32)).trans (hb5.mono (by have:=g4.size;simp;omega));have r45:=(r4.alloc (.cells (Ro xk xn A4 xs.length c4) 32)).below hb5;obtain ⟨p0,p1,p2⟩:=hP5.three;have lp:=hP5.lt;have tok5:=trivial)
    | (go_at_call 88;have _t:=tok3;refine (hN1.out _ (hr.below g3)).mono ?_;rintro e w4 ⟨A4,c4,rfl,hl4,r4,hb4⟩;have hY4:=hY3.keep hb4;have g4:=g3.trans (hb4.mono g3.size);clear x0 x1 x2 y0 y1 y2;obtain ⟨y0,y1,y2⟩:=hY4.three;have ly4:=hY4.lt;have tok4:=trivial)
    | (go_at_call 87;have _t:=tok2;refine (iW k n ks A c k' n' ls B d _ (by omega) (by omega) (hr.below g2) (hr'.below g2)).mono ?_;rw [hT.out];rintro e w3 ⟨rfl,hb3⟩;have hX3:=hX2.keep hb3;have hY3:=hY2.keep hb3;have g3:=g2.trans (hb3.mono g2.size);clear x0 x1 x2 y0 y1 y2;obtain ⟨x0,x1,x2⟩:=hX3.three;obtain ⟨y0,y1,y2⟩:=hY3.three;have tok3:=trivial)
    | (go_at_call 36;refine (dF _ _ _ _).mono ?_;rintro e w9 ⟨rfl,rfl⟩)
    | (go_at_call 58;have _t:=tok1;refine (bI k' n' ls B d _ (by omega) (hr'.below g1)).mono ?_;rw [hv2.out];rintro e w2 ⟨rfl,hb2⟩;have hX2:=hX1.keep hb2;have hY2:=hY1.keep hb2;have g2:=g1.trans (hb2.mono g1.size);clear x0 x1 x2 y0 y1 y2;obtain ⟨x0,x1,x2⟩:=hX2.three;obtain ⟨y0,y1,y2⟩:=hY2.three;have tok2:=trivial)
    | (go_at_call 58;refine (bI k n ks A c _ (by omega) ((hr.alloc _).alloc _)).mono ?_;rw [hv1.out];rintro e w1 ⟨rfl,hb1⟩;have hX1:Blk w1 w.heap.size (Ro k n A ks.length c):=((aC _ 32 _ rfl).alloc _).keep hb1;have hY1:Blk w1 (w.heap.size+1) (Ro k' n' B ls.length d):=(aC _ 32 _ (by simp)).keep hb1;have g1:Bw w w1:=bU bw2 hb1;obtain ⟨x0,x1,x2⟩:=hX1.three;obtain ⟨y0,y1,y2⟩:=hY1.three;have tok1:=trivial))
          go_ret
          exact ⟨rfl,g6⟩
      · rw [if_pos (.inr h2)]
        subst h1;have q2:(cb != 0)=true:=by simpa using h2
        clear h2;go_enter func52,ntmps52;go_wp2_with (first
    | (go_at_call 88;have _t:=tok4;refine (hN2.out _ ((hr'.below g4).alloc _)).mono ?_;rintro e w5 ⟨A5,c5,rfl,hl5,r5,hb5⟩;have hP5:=(aC w4 32 (Ro xk xn A4 xs.length c4) rfl).keep hb5;have g5:=(g4.alloc g4.size (.cells (Ro xk xn A4 xs.length c4) 32)).trans (hb5.mono (by have:=g4.size;simp;omega));have r45:=(r4.alloc (.cells (Ro xk xn A4 xs.length c4) 32)).below hb5;obtain ⟨p0,p1,p2⟩:=hP5.three;have lp:=hP5.lt;have tok5:=trivial)
    | (go_at_call 88;have _t:=tok3;refine (hN1.out _ (hr.below g3)).mono ?_;rintro e w4 ⟨A4,c4,rfl,hl4,r4,hb4⟩;have hY4:=hY3.keep hb4;have g4:=g3.trans (hb4.mono g3.size);clear x0 x1 x2 y0 y1 y2;obtain ⟨y0,y1,y2⟩:=hY4.three;have ly4:=hY4.lt;have tok4:=trivial)
    | (go_at_call 87;have _t:=tok2;refine (iW k n ks A c k' n' ls B d _ (by omega) (by omega) (hr.below g2) (hr'.below g2)).mono ?_;rw [hT.out];rintro e w3 ⟨rfl,hb3⟩;have hX3:=hX2.keep hb3;have hY3:=hY2.keep hb3;have g3:=g2.trans (hb3.mono g2.size);clear x0 x1 x2 y0 y1 y2;obtain ⟨x0,x1,x2⟩:=hX3.three;obtain ⟨y0,y1,y2⟩:=hY3.three;have tok3:=trivial)
    | (go_at_call 36;refine (dF _ _ _ _).mono ?_;rintro e w9 ⟨rfl,rfl⟩)
    | (go_at_call 58;have _t:=tok1;refine (bI k' n' ls B d _ (by omega) (hr'.below g1)).mono ?_;rw [hv2.out];rintro e w2 ⟨rfl,hb2⟩;have hX2:=hX1.keep hb2;have hY2:=hY1.keep hb2;have g2:=g1.trans (hb2.mono g1.size);clear x0 x1 x2 y0 y1 y2;obtain ⟨x0,x1,x2⟩:=hX2.three;obtain ⟨y0,y1,y2⟩:=hY2.three;have tok2:=trivial)
    | (go_at_call 58;refine (bI k n ks A c _ (by omega) ((hr.alloc _).alloc _)).mono ?_;rw [hv1.out];rintro e w1 ⟨rfl,hb1⟩;have hX1:Blk w1 w.heap.size (Ro k n A ks.length c):=((aC _ 32 _ rfl).alloc _).keep hb1;have hY1:Blk w1 (w.heap.size+1) (Ro k' n' B ls.length d):=(aC _ 32 _ (by simp)).keep hb1;have g1:Bw w w1:=bU bw2 hb1;obtain ⟨x0,x1,x2⟩:=hX1.three;obtain ⟨y0,y1,y2⟩:=hY1.three;have tok1:=trivial))
        go_ret
        exact ⟨rfl,g5.alloc g5.size _⟩
    · rw [if_pos (.inl h1)]
      have q2:(ca != 0)=true:=by simpa using h1
      clear h1;go_enter func52,ntmps52;go_wp2_with (first
    | (go_at_call 88;have _t:=tok4;refine (hN2.out _ ((hr'.below g4).alloc _)).mono ?_;rintro e w5 ⟨A5,c5,rfl,hl5,r5,hb5⟩;have hP5:=(aC w4 32 (Ro xk xn A4 xs.length c4) rfl).keep hb5;have g5:=(g4.alloc g4.size (.cells (Ro xk xn A4 xs.length c4) 32)).trans (hb5.mono (by have:=g4.size;simp;omega));have r45:=(r4.alloc (.cells (Ro xk xn A4 xs.length c4) 32)).below hb5;obtain ⟨p0,p1,p2⟩:=hP5.three;have lp:=hP5.lt;have tok5:=trivial)
    | (go_at_call 88;have _t:=tok3;refine (hN1.out _ (hr.below g3)).mono ?_;rintro e w4 ⟨A4,c4,rfl,hl4,r4,hb4⟩;have hY4:=hY3.keep hb4;have g4:=g3.trans (hb4.mono g3.size);clear x0 x1 x2 y0 y1 y2;obtain ⟨y0,y1,y2⟩:=hY4.three;have ly4:=hY4.lt;have tok4:=trivial)
    | (go_at_call 87;have _t:=tok2;refine (iW k n ks A c k' n' ls B d _ (by omega) (by omega) (hr.below g2) (hr'.below g2)).mono ?_;rw [hT.out];rintro e w3 ⟨rfl,hb3⟩;have hX3:=hX2.keep hb3;have hY3:=hY2.keep hb3;have g3:=g2.trans (hb3.mono g2.size);clear x0 x1 x2 y0 y1 y2;obtain ⟨x0,x1,x2⟩:=hX3.three;obtain ⟨y0,y1,y2⟩:=hY3.three;have tok3:=trivial)
    | (go_at_call 36;refine (dF _ _ _ _).mono ?_;rintro e w9 ⟨rfl,rfl⟩)
    | (go_at_call 58;have _t:=tok1;refine (bI k' n' ls B d _ (by omega) (hr'.below g1)).mono ?_;rw [hv2.out];rintro e w2 ⟨rfl,hb2⟩;have hX2:=hX1.keep hb2;have hY2:=hY1.keep hb2;have g2:=g1.trans (hb2.mono g1.size);clear x0 x1 x2 y0 y1 y2;obtain ⟨x0,x1,x2⟩:=hX2.three;obtain ⟨y0,y1,y2⟩:=hY2.three;have tok2:=trivial)
    | (go_at_call 58;refine (bI k n ks A c _ (by omega) ((hr.alloc _).alloc _)).mono ?_;rw [hv1.out];rintro e w1 ⟨rfl,hb1⟩;have hX1:Blk w1 w.heap.size (Ro k n A ks.length c):=((aC _ 32 _ rfl).alloc _).keep hb1;have hY1:Blk w1 (w.heap.size+1) (Ro k' n' B ls.length d):=(aC _ 32 _ (by simp)).keep hb1;have g1:Bw w w1:=bU bw2 hb1;obtain ⟨x0,x1,x2⟩:=hX1.three;obtain ⟨y0,y1,y2⟩:=hY1.three;have tok1:=trivial))
      go_ret
      exact ⟨rfl,g5.alloc g5.size _⟩
inductive Rs (α:Type) where
 | ok (a:α)
 | no (b:Bool)
def cX (b:Bool):Int:=if b=true then 1 else 2
def Rs.cd {α:Type}:Rs α→Int
 | .ok _=>0
 | .no b=>cX b
def bd {α β:Type}(o:Option (Rs α))(f:α→Option (Rs β)):Option (Rs β):=
 match o with
 | none=>none
 | some (.no b)=>some (.no b)
 | some (.ok a)=>f a
theorem oO {α β:Type}(a:α)(f:α→Option (Rs β)):bd (some (.ok a)) f=f a:=rfl
theorem aL {α β:Type}{o:Option (Rs α)}{f:α→Option (Rs β)}{r:Rs β}(h:bd o f=some r):(∃b,o=some (.no b)∧r = .no b)∨∃a,o=some (.ok a)∧f a=some r:=by
 cases o with
 | none=>cases h
 | some x=>cases x with
  | no b=>injection h with h;exact .inl ⟨b,rfl,h.symm⟩
  | ok a=>exact .inr ⟨a,rfl,h⟩
def lD (s:Tm):Rs Tm:=if aE s=true then (match (redI bV 200 s).1 with|some o=>.ok o|none=>.no false) else .no false
def wR (a b:Tm):Rs Unit:=if aE a=true∧aE b=true then (if eP 200 a b=1 then .ok () else if eP 200 a b=2 then .no true else .no false) else .no false
abbrev aRi:=List Tm→Tm→Option (Rs Tm)
section
variable (rec_:aRi)(ctx:List Tm)
def vE (h:Tm):Option (Rs Int):=if h.k=2 then some (.ok h.n) else some (.no true)
def jA (t:Tm):Option (Rs Int):=bd (rec_ ctx t) fun s=>bd (some (lD s)) vE
def kN (kind:Int)(h:Tm):Option (Rs Tm):=if h.k=kind then some (.ok h) else some (.no true)
def wY (t:Tm)(kind:Int):Option (Rs Tm):=bd (rec_ ctx t) fun s=>bd (some (lD s)) (kN kind)
def jU (t want:Tm):Option (Rs Unit):=bd (rec_ ctx t) fun s=>some (wR s want)
def aAt (a b:Tm):Option (Rs Tm):=bd (jA rec_ ctx a) fun i=>bd (jA rec_ (ctx++[a]) b) fun j=>some (.ok (.mk 2 (if j<i then i else j) []))
def aKd (a b:Tm):Option (Rs Tm):=bd (jA rec_ ctx a) fun _=>bd (rec_ (ctx++[a]) b) fun u=>bd (aAt rec_ ctx a u) fun _=>some (.ok (.mk 3 0 [a,u]))
def aOv (f u:Tm):Option (Rs Tm):=bd (wY rec_ ctx f 3) fun h=>bd (jU rec_ ctx u (aI h.ks 0)) fun _=>some (.ok (bX u 0 0 (aI h.ks 1)))
def aHj (h:Tm):Option (Rs Unit):=if h.k=2 then some (.ok ()) else some (.no true)
def aBg (p from_:Tm):Option (Rs Unit):=bd (wY rec_ ctx p 3) fun f=>bd (some (wR (aI f.ks 0) from_)) fun _=>bd (some (lD (aI f.ks 1))) aHj
def nT:Tm:=.mk 6 0 []
def dZ (a b:Tm):Tm:=.mk 5 0 [a,b]
def mH (p:Tm):Tm:=.mk 3 0 [nT,.mk 3 0 [dZ (bT 1 0 p) (.mk 1 0 []),dZ (bT 2 0 p) (.mk 8 0 [.mk 1 1 []])]]
def aOd (p z s n:Tm):Option (Rs Tm):=bd (aBg rec_ ctx p nT) fun _=>bd (jU rec_ ctx z (dZ p (.mk 7 0 []))) fun _=>bd (jU rec_ ctx s (mH p)) fun _=>bd (jU rec_ ctx n nT) fun _=>some (.ok (dZ p n))
def aOe (a x y:Tm):Option (Rs Tm):=bd (jA rec_ ctx a) fun i=>bd (jU rec_ ctx x a) fun _=>bd (jU rec_ ctx y a) fun _=>some (.ok (.mk 2 i []))
def aNv (p e z:Tm):Option (Rs Tm):=bd (wY rec_ ctx e 10) fun h=>bd (aBg rec_ ctx p (aI h.ks 0)) fun _=>bd (jU rec_ ctx z (dZ p (aI h.ks 1))) fun _=>some (.ok (dZ p (aI h.ks 2)))
def aNi (s a b:Tm):Option (Rs Tm):=bd (jA rec_ ctx s) fun _=>bd (some (lD s)) fun h=>bd (kN 13 h) fun h=>bd (jU rec_ ctx a (aI h.ks 0)) fun _=>bd (jU rec_ ctx b (bX a 0 0 (aI h.ks 1))) fun _=>some (.ok s)
def aKv (k:Int)(p:Tm):Option (Rs Tm):=bd (wY rec_ ctx p 13) fun h=>if k=15 then some (.ok (aI h.ks 0)) else some (.ok (bX (.mk 15 0 [p]) 0 0 (aI h.ks 1)))
def aRs (t:Tm):Option (Rs Tm):=bd (jU rec_ ctx t nT) fun _=>some (.ok nT)
def aOy (a:Tm):Option (Rs Tm):=bd (rec_ ctx a) fun s=>bd (jA rec_ ctx s) fun _=>some (.ok (.mk 10 0 [s,a,a]))
def aBu (n:Int):Option (Rs Tm):=if (ctx.length:Int)≤n then some (.no true) else some (.ok (bT (n+1) 0 (ctx.getD (ctx.length - 1 - n.toNat) default)))
def dQ:Tm→Option (Rs Tm)
 | .mk k n ks=>
  if k=3∨k=13 then aAt rec_ ctx (aI ks 0) (aI ks 1)
  else if k=4 then aKd rec_ ctx (aI ks 0) (aI ks 1)
  else if k=5 then aOv rec_ ctx (aI ks 0) (aI ks 1)
  else if k=9 then aOd rec_ ctx (aI ks 0) (aI ks 1) (aI ks 2) (aI ks 3)
  else if k=10 then aOe rec_ ctx (aI ks 0) (aI ks 1) (aI ks 2)
  else if k=12 then aNv rec_ ctx (aI ks 0) (aI ks 1) (aI ks 2)
  else if k=14 then aNi rec_ ctx (aI ks 0) (aI ks 1) (aI ks 2)
  else if k=1 then aBu ctx n
  else if k=2 then (if 3≤n then some (.no true) else some (.ok (.mk 2 (n+1) [])))
  else if k=6 then some (.ok (.mk 2 0 []))
  else if k=7 then some (.ok nT)
  else if k=8 then aRs rec_ ctx (aI ks 0)
  else if k=11 then aOy rec_ ctx (aI ks 0)
  else aKv rec_ ctx k (aI ks 0)
end
def fL (o:Tm):Option (Rs Tm):=if aE o=true then some (.ok o) else some (.no false)
def bH:Nat→List Tm→Tm→Option (Rs Tm)
 | 0,_,_=>none
 | N+1,ctx,t=>if aE t=true∧ctx.length≤20 then bd (dQ (bH N) ctx t) fL else some (.no false)
theorem cY {N:Nat}{ctx:List Tm}{t s:Tm}(h:bH N ctx t=some (.ok s)):aE s=true:=by
 cases N with
 | zero=>cases h
 | succ N=>
  rw [bH] at h;split at h
  ·rcases aL h with ⟨b,_,hb⟩|⟨a,_,ha⟩
   ·cases hb
   ·unfold fL at ha
    split at ha
    ·injection ha with ha;injection ha with ha;subst ha;assumption
    ·injection ha with ha;cases ha
  ·injection h with h;cases h
theorem dC {s o:Tm}(h:lD s = .ok o):aE s=true∧aE o=true∧redI bV 200 s=(some o,0):=by
 unfold lD at h
 split at h
 ·rename_i hv
  split at h
  ·rename_i o' he
   injection h with h;subst h;have h2:∀(f:Nat) (t:Tm),aE t=true→∀o,(redI bV f t).1=some o→aE o=true∧redI bV f t=(some o,0):=by
    intro f;induction f with
    | zero=>
     intro t ht o;rw [redI];cases bV t with
     | none=>intro h;injection h with h;subst h;exact ⟨ht,rfl⟩
     | some p=>intro h;cases h
    | succ f ih=>
     intro t ht o;rw [redI];cases bV t with
     | none=>intro h;injection h with h;subst h;exact ⟨ht,rfl⟩
     | some p=>
      simp only
      cases hc:mS t p with
      | none=>intro h;cases h
      | some t'=>
       refine ih t' ?_ o;unfold mS at hc
       split at hc
       ·cases hc
       ·split at hc
        ·cases hc
        ·unfold vO at hc
         split at hc
         ·injection hc with hc;subst hc;assumption
         ·cases hc
   have:=h2 200 s hv _ he;exact ⟨hv,this.1,this.2⟩
  ·cases h
 ·cases h
def vb {α:Type}(t:Tm)(f:Option (Rs α)):Option (Rs α):=if aE t=true then f else some (.no false)
theorem pF {α:Type}{t:Tm}{f:Option (Rs α)}{r:Rs α}(h:vb t f=some r):(aE t=true∧f=some r)∨(aE t=false∧r = .no false):=by
 unfold vb at h
 split at h
 ·exact .inl ⟨‹_›,h⟩
 ·exact .inr ⟨Bool.eq_false_iff.2 ‹_›,(Option.some.inj h).symm⟩
theorem aAj {α:Type}{t:Tm}{f:Option (Rs α)}{a:α}(h:vb t f=some (.ok a)):aE t=true∧f=some (.ok a):=by
 rcases pF h with h|⟨_,h⟩
 ·exact h
 ·cases h
theorem mG {t:Tm}{r:Rs Tm}(h:fL t=some r):(aE t=true∧r = .ok t)∨(aE t=false∧r = .no false):=by
 unfold fL at h
 split at h
 ·exact .inl ⟨‹_›,(Option.some.inj h).symm⟩
 ·exact .inr ⟨Bool.eq_false_iff.2 ‹_›,(Option.some.inj h).symm⟩
def pJ (o:Option (Rs Tm)):Option (Rs Int):=bd o fun s=>bd (some (lD s)) vE
def qT (o:Option (Rs Tm))(kind:Int):Option (Rs Tm):=bd o fun s=>bd (some (lD s)) (kN kind)
def kF (o:Option (Rs Tm))(want:Tm):Option (Rs Unit):=bd o fun s=>some (wR s want)
def faV (o:Option (Rs Tm))(t:Tm):Option (Rs Unit):=bd (qT o 3) fun f=>bd (some (wR (aI f.ks 0) t)) fun _=>bd (some (lD (aI f.ks 1))) aHj
def iV (rec_:Tm→Option (Rs Tm))(ctx:List Tm)(t:Tm)(ty:Nat→Option (Rs Tm)):Option (Rs Tm):=
 if t.k=1 then (if (ctx.length:Int)≤t.n then some (.no true) else fL (bT (t.n+1) 0 (ctx.getD (ctx.length - 1 - t.n.toNat) default)))
 else if t.k=2 then (if t.n=3 then some (.no true) else some (.ok (.mk 2 (t.n+1) [])))
 else if t.k=6 then some (.ok (.mk 2 0 []))
 else if t.k=7 then some (.ok nT)
 else if t.k=8 then bd (kF (ty 0) nT) fun _=>some (.ok nT)
 else if t.k=3∨t.k=13 then bd (pJ (ty 0)) fun i=>bd (pJ (ty 1)) fun j=>some (.ok (.mk 2 (if j<i then i else j) []))
 else if t.k=4 then bd (pJ (ty 0)) fun _=>bd (ty 1) fun u=>bd (rec_ (.mk 3 0 [aI t.ks 0,u])) fun _=>fL (.mk 3 0 [aI t.ks 0,u])
 else if t.k=5 then bd (qT (ty 0) 3) fun h=>bd (kF (ty 1) (aI h.ks 0)) fun _=>fL (bX (aI t.ks 1) 0 0 (aI h.ks 1))
 else if t.k=9 then bd (faV (ty 0) nT) fun _=>vb (dZ (aI t.ks 0) (.mk 7 0 [])) (bd (kF (ty 1) (dZ (aI t.ks 0) (.mk 7 0 []))) fun _=>vb (mH (aI t.ks 0)) (bd (kF (ty 2) (mH (aI t.ks 0))) fun _=>bd (kF (ty 3) nT) fun _=>fL (dZ (aI t.ks 0) (aI t.ks 3))))
 else if t.k=10 then bd (pJ (ty 0)) fun i=>bd (kF (ty 1) (aI t.ks 0)) fun _=>bd (kF (ty 2) (aI t.ks 0)) fun _=>some (.ok (.mk 2 i []))
 else if t.k=11 then bd (ty 0) fun s=>bd (pJ (rec_ s)) fun _=>fL (.mk 10 0 [s,aI t.ks 0,aI t.ks 0])
 else if t.k=12 then bd (qT (ty 1) 10) fun e=>bd (faV (ty 0) (aI e.ks 0)) fun _=>vb (dZ (aI t.ks 0) (aI e.ks 1)) (bd (kF (ty 2) (dZ (aI t.ks 0) (aI e.ks 1))) fun _=>fL (dZ (aI t.ks 0) (aI e.ks 2)))
 else if t.k=14 then bd (pJ (ty 0)) fun _=>bd (some (lD (aI t.ks 0))) fun h=>bd (kN 13 h) fun h=>bd (kF (ty 1) (aI h.ks 0)) fun _=>vb (bX (aI t.ks 1) 0 0 (aI h.ks 1)) (bd (kF (ty 2) (bX (aI t.ks 1) 0 0 (aI h.ks 1))) fun _=>some (.ok (aI t.ks 0)))
 else if t.k=15 then bd (qT (ty 0) 13) fun h=>some (.ok (aI h.ks 0))
 else bd (qT (ty 0) 13) fun h=>fL (bX (.mk 15 0 [aI t.ks 0]) 0 0 (aI h.ks 1))
def iP (rec_:List Tm→Tm→Option (Rs Tm))(ctx:List Tm)(t:Tm)(i:Nat):Option (Rs Tm):=
 if aM t.k i=0 then rec_ ctx (aI t.ks i) else rec_ (ctx++[aI t.ks 0]) (aI t.ks i)
def gM (f:List Tm→Tm→Option (Rs Tm))(ctx:List Tm)(t:Tm):Option (Rs Tm):=if aE t=true then f ctx t else some (.no false)
theorem uE {f:List Tm→Tm→Option (Rs Tm)}{ctx:List Tm}{t:Tm}(h:aE t=true):gM f ctx t=f ctx t:=if_pos h
theorem aMj {f:List Tm→Tm→Option (Rs Tm)}{ctx:List Tm}{t:Tm}{r:Rs Tm}(h:gM f ctx t=some r)(hv:aE t=false):r = .no false:=by
 rw [gM,if_neg (by rw [hv];decide)] at h;exact (Option.some.inj h).symm
def bS:Nat→List Tm→Tm→Option (Rs Tm)
 | 0,_,_=>none
 | N+1,ctx,t=>if aE t=true∧ctx.length≤20 then iV (gM (bS N) ctx) ctx t (iP (bS N) ctx t) else if aE t=true then some (.no false) else none
def KE (W:World)(z:Nat)(w':World):Prop:=W.heap.size≤w'.heap.size∧∀b,b<W.heap.size→b≠z→w'.heap[b]?=W.heap[b]?
theorem KE.of {W w':World}(z:Nat)(h:Below W.heap.size W w'):KE W z w':=⟨h.size,fun b hb _=>h.block b hb⟩
theorem KE.set {W w':World}{z:Nat}(h:KE W z w')(o:Nat)(v:Value):KE W z (w'.setCell ⟨z,o,none⟩ v):=⟨by simp;exact h.1,fun b hb hz=>(qQ _ ⟨z,o,none⟩ _ b hz).trans (h.2 b hb hz)⟩
theorem dW {W:World}{z b o:Nat}{v:Value}(hc:W.cell? ⟨b,o,none⟩=some v)(hz:b≠z):∀w',KE W z w'→w'.cell? ⟨b,o,none⟩=some v:=fun w' h=>by
 have hb:=mI _ _ hc;rw [← hc];simp only [World.cell?,h.2 b hb hz]
theorem rk3 {v w:World}{z b p q r:Nat}{x y u:Value}(k:Below v.heap.size v w)(e:b≠z)(h1:v.cell? ⟨b,p,none⟩=some x)(h2:v.cell? ⟨b,q,none⟩=some y)(h3:v.cell? ⟨b,r,none⟩=some u):(∀t,KE w z t→t.cell? ⟨b,p,none⟩=some x)∧(∀t,KE w z t→t.cell? ⟨b,q,none⟩=some y)∧(∀t,KE w z t→t.cell? ⟨b,r,none⟩=some u):=by
 obtain ⟨a1,a2,a3⟩:=wT k h1 h2 h3;exact ⟨dW a1 e,dW a2 e,dW a3 e⟩
theorem rkB {w:World}{z b:Nat}{x y u:Value}(h:Blk w b #[x,y,u])(e:b≠z):(∀t,KE w z t→t.cell? ⟨b,0,none⟩=some x)∧(∀t,KE w z t→t.cell? ⟨b,1,none⟩=some y)∧(∀t,KE w z t→t.cell? ⟨b,2,none⟩=some u):=⟨dW h.three.1 e,dW h.three.2.1 e,dW h.three.2.2 e⟩
section
variable {P:Program}{ops:Array Oper}{Q:Exit→Act→World→Prop}
theorem gBk {id:Nat}{a:Act}(W:World)(z:Nat)(B T:List Nat)(n f:Nat){lT:List Oper}
  (h : ∀ q0, Below W.heap.size W q0 → KE W z q0 → cQ P ops (KE W z) (fun a' => gC P ops Q (KE W z) B f (stp T (Array.replicate n false)) a' q0) lT a)
  (hm : P.follows .mixedOrders = true := by kernel_rfl) (hs : ops.size = n := by rfl) (hF : n = T.length + f := by rfl) (hsel : Region.noSelect ops = true := by kernel_rfl)
  (hl : oI ops T (Array.replicate n false) = some (stp T (Array.replicate n false)) := by kernel_rfl) (hpre : (B.all fun j => T.all fun i => pre ops ops.size j i) = true := by kernel_rfl) (hT : sB ops T = lT := by exact rfl)
  (hQ : ∀ c (a : Act) d v w, Q (.panic c) (a.put d v) w → Q (.panic c) a w := by exact fun _ _ d _ _ h => by cases d <;> exact h) : (Code.region id ops true).wp P Q a W :=
 aDk _ B n hm hs (aAd T (KE.of z (eR _ _).drew) hF hsel hl hpre hT hQ (h W.drew (eR _ _).drew (KE.of z (eR _ _).drew)))
theorem wN {K:Act→World→Prop}{W q0 q1:World}{a:Act}{z:Nat}(b:Below W.heap.size W q0)(hb:Below q0.heap.size q0 q1)(h:Below W.heap.size W q1→q0.heap.size≤q1.heap.size→KE W z q1→K a q1):qL (KE W z) K Q .normal a q1:=
 aQ (KE.of z (b.trans (hb.mono b.size))) (h (b.trans (hb.mono b.size)) hb.size (KE.of z (b.trans (hb.mono b.size))))
end
theorem pY {B n:Nat}{w w':World}{v:Value}{xs:List Value}(h:w.ownsRow B 32 3 v n xs)(hk:∀g,v.ownBlock=some g→w'.heap[g]?=w.heap[g]?):w'.ownsRow B 32 3 v n xs:=by
 refine ⟨h.1,?_⟩;rcases h.2 with hn|⟨g,cap,cur,rfl,hb,hg,r⟩
 ·exact .inl hn
 ·exact .inr ⟨g,cap,cur,rfl,hb,(hk g rfl).trans hg,r⟩
def P2 (B:Nat)(E:Nat→Prop)(w:World)(v1 v2:Value)(b:Nat):Prop:=B≤b∧b<w.heap.size∧v1.ownBlock≠some b∧v2.ownBlock≠some b∧¬E b
structure Rows2 (B:Nat) (E:Nat→Prop) (w:World) (v1 v2:Value) (l r:List Tm):Prop where
 body:∃xs ys,w.ownsRow B 32 3 v1 l.length xs∧w.ownsRow B 32 3 v2 r.length ys∧RdX (P2 B E w v1 v2) w l xs∧RdX (P2 B E w v1 v2) w r ys
 apart:∀g,v1.ownBlock=some g→v2.ownBlock≠some g
 e1:∀g,v1.ownBlock=some g→¬E g
 e2:∀g,v2.ownBlock=some g→¬E g
section
variable {B:Nat}{E E':Nat→Prop}{w w':World}{v1 v2:Value}{l r:List Tm}
theorem Rows2.symm (h:Rows2 B E w v1 v2 l r):Rows2 B E w v2 v1 r l:=by
 obtain ⟨⟨xs,ys,h1,h2,h3,h4⟩,h5,h6,h7⟩:=h;have hp:∀b,P2 B E w v1 v2 b→P2 B E w v2 v1 b:=fun b hb=>⟨hb.1,hb.2.1,hb.2.2.2.1,hb.2.2.1,hb.2.2.2.2⟩
 exact ⟨⟨ys,xs,h2,h1,h4.keep hp fun _ _ _=>rfl,h3.keep hp fun _ _ _=>rfl⟩,fun g hg hg'=>h5 g hg' hg,h7,h6⟩
theorem Rows2.nil:Rows2 B E w (.slice none 0 0) (.slice none 0 0) [] []:=⟨⟨[],[],World.ownsRow_nil _ _ _ _,World.ownsRow_nil _ _ _ _,rfl,rfl⟩,fun g hg=>(by cases hg),fun g hg=>(by cases hg),fun g hg=>(by cases hg)⟩
theorem Rows2.own (h:Rows2 B E w v1 v2 l r):(∀g,v1.ownBlock=some g→B≤g∧g<w.heap.size)∧(∀g,v2.ownBlock=some g→B≤g∧g<w.heap.size):=by
 obtain ⟨⟨xs,ys,h1,h2,_⟩,_⟩:=h;exact ⟨fun g hg=>h1.lt g hg,fun g hg=>h2.lt g hg⟩
theorem Rows2.mono (h:Rows2 B E w v1 v2 l r)(he:∀b,b<w.heap.size→E' b→E b):Rows2 B E' w v1 v2 l r:=by
 have ho:=h.own;obtain ⟨⟨xs,ys,h1,h2,h3,h4⟩,h5,h6,h7⟩:=h;have hp:∀b,P2 B E w v1 v2 b→P2 B E' w v1 v2 b:=fun b hb=>⟨hb.1,hb.2.1,hb.2.2.1,hb.2.2.2.1,fun e=>hb.2.2.2.2 (he b hb.2.1 e)⟩
 exact ⟨⟨xs,ys,h1,h2,h3.keep hp fun _ _ _=>rfl,h4.keep hp fun _ _ _=>rfl⟩,h5,fun g hg e=>h6 g hg (he g (ho.1 g hg).2 e),fun g hg e=>h7 g hg (he g (ho.2 g hg).2 e)⟩
theorem Rows2.frame (h:Rows2 B E w v1 v2 l r)(hs:w.heap.size≤w'.heap.size)(hk:∀b,B≤b→b<w.heap.size→¬E b→w'.heap[b]?=w.heap[b]?):Rows2 B E w' v1 v2 l r:=by
 have ho:=h.own;obtain ⟨⟨xs,ys,h1,h2,h3,h4⟩,h5,h6,h7⟩:=h;have hp:∀b,P2 B E w v1 v2 b→P2 B E w' v1 v2 b:=fun b hb=>⟨hb.1,yM hb.2.1 hs,hb.2.2⟩
 exact ⟨⟨xs,ys,pY h1 fun g hg=>hk g (ho.1 g hg).1 (ho.1 g hg).2 (h6 g hg),pY h2 fun g hg=>hk g (ho.2 g hg).1 (ho.2 g hg).2 (h7 g hg),h3.keep hp fun b hb hl=>hk b hb.1 hl hb.2.2.2.2,h4.keep hp fun b hb hl=>hk b hb.1 hl hb.2.2.2.2⟩,h5,h6,h7⟩
theorem Rows2.below (h:Rows2 B E w v1 v2 l r)(hb:Bw w w'):Rows2 B E w' v1 v2 l r:=h.frame hb.size fun b _ hl _=>hb.block b hl
theorem Rows2.alloc (h:Rows2 B E w v1 v2 l r)(o:Obj):Rows2 B E (w.alloc o) v1 v2 l r:=h.below (bw1)
theorem Rows2.drew (h:Rows2 B E w v1 v2 l r):Rows2 B E w.drew v1 v2 l r:=h.below (eR _ _).drew
theorem Rows2.setCell (h:Rows2 B E w v1 v2 l r){a:Addr}(ha:a.block<B∨E a.block∨w.heap.size≤a.block)(u:Value):Rows2 B E (w.setCell a u) v1 v2 l r:=h.frame (by simp) fun b hb hl he=>qQ w a u b (by
 rcases ha with ha|ha|ha
 ·omega
 ·exact fun e=>he (e▸ha)
 ·omega)
theorem Rows2.grown {row:Option Nat}(h:Rows2 B E w v1 v2 l r)(hg:w.grownBy w' row)(hr:∀g,row=some g→g<B∨E g):Rows2 B E w' v1 v2 l r:=h.frame hg.size fun b hb hl he=>hg.block b hl (fun e=>by
 rcases hr b e.symm with h1|h1
 ·omega
 ·exact he h1)
theorem tG {p:Nat→Prop}{B n:Nat}{w:World}{v:Value}{ts:List Tm}{xs:List Value}(h1:w.ownsRow B 32 3 v ts.length xs)(h2:RdX p w ts xs)(hp:∀b,p b→B≤b):∃A c,v = .slice A ts.length c∧RdP (fun b=>B≤b) w A 0 ts:=by
 rcases h1.2 with ⟨rfl,h0⟩|⟨g,cap,cur,rfl,hb,hg,_,_,_,htk⟩
 ·have:ts=[]:=lEn h0;subst this;exact ⟨none,0,rfl,RdP.nil⟩
 ·refine ⟨_,_,rfl,RdX.rdp hb (h2.keep hp fun _ _ _=>rfl) fun j u hu=>?_⟩;rw [show 0+0*3+j=j by omega,cell_of_row w g j cur 32 (0,0) hg];rw [← htk,List.getElem?_take] at hu;split at hu
  ·simpa using hu
  ·cases hu
theorem Rows2.rd (h:Rows2 B E w v1 v2 l r):∃A1 c1 A2 c2,v1 = .slice A1 l.length c1∧v2 = .slice A2 r.length c2∧RdP (fun b=>B≤b) w A1 0 l∧RdP (fun b=>B≤b) w A2 0 r:=by
 obtain ⟨⟨xs,ys,h1,h2,h3,h4⟩,h5,_⟩:=h;obtain ⟨A1,c1,e1,r1⟩:=tG (n:=0) h1 h3 fun b hb=>hb.1
 obtain ⟨A2,c2,e2,r2⟩:=tG (n:=0) h2 h4 fun b hb=>hb.1
 exact ⟨A1,c1,A2,c2,e1,e2,r1,r2⟩
theorem RdX.take {p:Nat→Prop}{w:World}{us:List Tm}:∀{ts:List Tm} {xs:List Value},RdX p w (ts++us) xs→RdX p w ts (xs.take (ts.length*3))
 | [],xs,h=>by simp [RdX]
 | .mk k n ks::ts,xs,h=>by
  obtain ⟨A,c,ys,rfl,hl,hr,hx⟩:=h;refine ⟨A,c,ys.take (ts.length*3),?_,hl,hr,hx.take⟩;rw [List.length_cons,Nat.succ_mul];simp [List.take]
theorem qV {n m c:Nat}{A:Option Addr}{xs:List Value}(h:w.ownsRow B 32 3 (.slice A n c) n xs)(hm:m≤n):w.ownsRow B 32 3 (.slice A m c) m (xs.take (m*3)):=by
 refine ⟨by rw [List.length_take,h.1];omega,?_⟩;rcases h.2 with ⟨e,h0⟩|⟨g,cap,cur,e,hb,hg,h1,h2,h3,h4⟩
 ·injection e with e1 e2 e3;subst e1 e3;obtain rfl:m=0:=by omega
  exact .inl ⟨rfl,rfl⟩
 ·injection e with e1 e2 e3;subst e1 e3;exact .inr ⟨g,c,cur,rfl,hb,hg,by omega,h2,h3,by rw [← h4,List.take_take,Nat.min_eq_left (by omega)]⟩
theorem Rows2.take {A1 A2:Option Addr}{c1 c2:Nat}{m1 m2:List Tm}(h:Rows2 B E w (.slice A1 (l++m1).length c1) (.slice A2 (r++m2).length c2) (l++m1) (r++m2)):Rows2 B E w (.slice A1 l.length c1) (.slice A2 r.length c2) l r:=by
 obtain ⟨⟨xs,ys,h1,h2,h3,h4⟩,h5,h6,h7⟩:=h;have e1:∀n m,(Value.slice A1 n c1).ownBlock=(Value.slice A1 m c1).ownBlock:=fun n m=>by cases A1<;>rfl
 have e2:∀n m,(Value.slice A2 n c2).ownBlock=(Value.slice A2 m c2).ownBlock:=fun n m=>by cases A2<;>rfl
 have hp:∀b,P2 B E w (.slice A1 (l++m1).length c1) (.slice A2 (r++m2).length c2) b→P2 B E w (.slice A1 l.length c1) (.slice A2 r.length c2) b:=fun b hb=>⟨hb.1,hb.2.1,by rw [e1 _ (l++m1).length];exact hb.2.2.1,by rw [e2 _ (r++m2).length];exact hb.2.2.2.1,hb.2.2.2.2⟩
 refine ⟨⟨_,_,qV h1 (by simp),qV h2 (by simp),(h3.take).keep hp fun _ _ _=>rfl,(h4.take).keep hp fun _ _ _=>rfl⟩,fun g hg hg'=>h5 g ?_ ?_,fun g hg=>h6 g ?_,fun g hg=>h7 g ?_⟩
 ·rw [e1 _ l.length];exact hg
 ·rw [e2 _ r.length];exact hg'
 ·rw [e1 _ l.length];exact hg
 ·rw [e2 _ r.length];exact hg
end
end Go.Proofs.YtjlaenhcemacdaaGreat
