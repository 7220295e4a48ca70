/- Parts of the proof. No condition. -/
import Derived.Test.YtjlaenhcemacdaaGreatK23
import Derived.Test.YtjlaenhcemacdaaGreatK25
open Go.Proofs.Tryz
namespace Go.Proofs.YtjlaenhcemacdaaGreat
open Go.RowKit
set_option maxHeartbeats 8000000
set_option maxRecDepth 100000
set_option linter.unusedSimpArgs false
set_option linter.unusedVariables false
def yl (want:Tm):Nat→Tm→Option (List Tm)
 | 0,_=>none
 | m+1,t=>if aE t=true then (match lD t with
  | .ok h=>if eP 200 h want=1 then some [] else if h.k=3∧sX 0 (aI h.ks 1)=0 then (yl want m (bT (-1) 0 (aI h.ks 1))).map (aI h.ks 0::·) else none
  | .no _=>none) else none
def ylI (n:Int):Option (List Tm)→Int|some l=>n+l.length|none=> -1
theorem aKc {want t:Tm}(h:aE t=false)(m:Nat):yl want m t=none:=by
 cases m with
 | zero=>rfl
 | succ m=>rw [yl,if_neg (by rw [h];decide)]
theorem aPu {want t:Tm}{b:Bool}(h:lD t = .no b)(m:Nat):yl want m t=none:=by
 cases m with
 | zero=>rfl
 | succ m=>
  rw [yl];split
  ·rw [h]
  ·rfl
theorem aLj {want t h:Tm}(hh:lD t = .ok h)(hc:eP 200 h want=1)(m:Nat):yl want (m+1) t=some []:=by
 rw [yl,if_pos (dC hh).1,hh];show (if eP 200 h want=1 then some [] else _)=some []
 rw [if_pos hc]
theorem aAb {want t h:Tm}(hh:lD t = .ok h)(hc:eP 200 h want≠1)(hk:¬(h.k=3∧sX 0 (aI h.ks 1)=0))(m:Nat):yl want (m+1) t=none:=by
 rw [yl,if_pos (dC hh).1,hh];show (if eP 200 h want=1 then some [] else if h.k=3∧sX 0 (aI h.ks 1)=0 then _ else none)=none
 rw [if_neg hc,if_neg hk]
theorem aGb {want t h:Tm}(hh:lD t = .ok h)(hc:eP 200 h want≠1)(hk:h.k=3∧sX 0 (aI h.ks 1)=0)(m:Nat):yl want (m+1) t=(yl want m (bT (-1) 0 (aI h.ks 1))).map (aI h.ks 0::·):=by
 rw [yl,if_pos (dC hh).1,hh];show (if eP 200 h want=1 then some [] else if h.k=3∧sX 0 (aI h.ks 1)=0 then _ else none)=_
 rw [if_neg hc,if_pos hk]
theorem aKa (n:Int)(a:Tm)(o:Option (List Tm)):ylI n (o.map (a::·))=ylI (n+1) o:=by
 cases o with
 | none=>rfl
 | some l=>show n+((a::l).length:Int)=n+1+l.length;rw [List.length_cons];push_cast;omega
theorem tm_kp:(∀(t:Tm) (d:Int),sX d t=0→kpS 1 d t=true)∧(∀(ts:List Tm) (d k:Int) (i:Nat),pM d k i ts=0→xA 1 k d i ts=true):=by
 refine bA (fun k n ks ih d h=>?_) (fun d k i _=>by rw [xA]) (fun t ts h1 h2 d k i h=>?_)
 ·rw [sX] at h;have h0:=(tm_le.2 ks d k 0).1;rw [kpS];by_cases hc:k=1∧n=d
  ·rw [if_pos hc] at h;omega
  ·rw [if_neg hc] at h;rw [if_neg (by rintro ⟨e,h3,h4⟩;exact hc ⟨e,by omega⟩)];exact ih d k 0 (by omega)
 ·rw [pM] at h;have a1:=(tm_le.1 t (d+aM k i)).1;have a2:=(tm_le.2 ts d k (i+1)).1;rw [xA,h1 _ (by omega),h2 _ _ _ (by omega)];rfl
theorem aFm {b:Tm}(hv:aE b=true)(h:sX 0 b=0):bD (-1) 0 b=some (bT (-1) 0 b)∧aE (bT (-1) 0 b)=true:=by
 have h1:=aCh (dp:=1) (by omega) hv;rw [if_pos (tm_kp.1 b 0 h)] at h1;exact ⟨h1,jI h1⟩
theorem aLn {t h:Tm}(hh:lD t = .ok h)(hk:h.k=3):∃n ka na sa kb nb sb,h = .mk 3 n [.mk ka na sa,.mk kb nb sb]∧aE (.mk ka na sa)=true∧aE (.mk kb nb sb)=true:=by
 have hv:=(dC hh).2.1;obtain ⟨k,n,s⟩:=h;obtain rfl:k=3:=hk;obtain ⟨a,b,rfl⟩:=jY (l:=s) (by have:=(bG hv).1;have h3:aU 3=2:=rfl;omega);obtain ⟨ka,na,sa⟩:=a;obtain ⟨kb,nb,sb⟩:=b;exact ⟨n,ka,na,sa,kb,nb,sb,rfl,aO hv (t:=.mk ka na sa) (by simp),aO hv (t:=.mk kb nb sb) (by simp)⟩
def GtL (w:World):Option (List Tm)→Ending→World→Prop
 | some l=>fun e w'=>∃B b,e = .returned (.tuple #[.slice B l.length b,.bool true])∧Rd w' B 0 l∧Bw w w'
 | none=>fun e w'=>e = .returned (.tuple #[.slice none 0 0,.bool false])∧Bw w w'
theorem PartR.ownL {lo:Nat→Prop}{B:Nat}{w:World}{v:Value}{ts:List Tm}(h:PartR lo B w v ts):∀g,v.ownBlock=some g→g<w.heap.size:=fun g hg=>by
 obtain ⟨xs,h1,_⟩:=h;exact (h1.lt g hg).2
theorem aCo (k n:Int)(ks:List Tm)(A:Option Addr)(c:Nat)(k2 n2:Int)(s2:List Tm)(A2:Option Addr)(c2:Nat)(w:World)(hv:aE (.mk k n ks)=true)(hv2:aE (.mk k2 n2 s2)=true)(hr:Rd w A 0 ks)(hr2:Rd w A2 0 s2) :
  Calls prog 33 #[.agg (Ro k n A ks.length c),.agg (Ro k2 n2 A2 s2.length c2)] w (GtL w (yl (.mk k2 n2 s2) 4 (.mk k n ks))):=by
 obtain ⟨R,hR⟩:∃R,yl (.mk k2 n2 s2) 4 (.mk k n ks)=R:=⟨_,rfl⟩;rw [hR];have hR':=aD hR;have hvt:=aD hv;have hv2':=aD hv2;have hz2:=aH hv2;clear hR hv2 hv;go_enter func33,ntmps33;go_wp2_with fail
 go_loopw [6] (fun s wr=>∃(m:Nat) (k n:Int) (ks:List Tm) (A:Option Addr) (c:Nat) (l:List Tm) (L:Option Addr) (cl:Nat),1≤m∧l.length+m=4∧s = .slice L l.length cl∧PartR (fun _=>False) (w.heap.size+2) wr (.slice L l.length cl) l∧Blk wr w.heap.size (Ro k n A ks.length c)∧Blk wr (w.heap.size+1) (Ro k2 n2 A2 s2.length c2)∧RdP (·≠w.heap.size) wr A 0 ks∧Hid (aE (.mk k n ks)=true)∧Hid ((yl (.mk k2 n2 s2) m (.mk k n ks)).map (l++·)=R)∧Bw w wr)
  (fun s _ => match s with | .slice _ l _ => 4 - l | _ => 0)
 case atStart=>exact ⟨4,k,n,ks,A,c,[],none,0,by omega,by simp,rfl,PartR.nil,((aC _ _ _ rfl).alloc _),aC _ _ _ (by simp),((hr.rdp.mono (fun b hb=>by have hb:b<w.heap.size:=hb;show b≠_;omega)).alloc _).alloc _,hvt,aD (by rw [hR'.out];cases R<;>rfl),bw2⟩
 case round=>
  clear hR' hvt hr;obtain ⟨m,k,n,ks,A,c,l,L,cl,hm1,hlm,rfl,hP,hB1,hB2,hrp,hvt,hR',hb⟩:=hrel;have hra:=hrp.rd;obtain ⟨b0,b1,b2⟩:=hB1.three;obtain ⟨m,rfl⟩:∃m',m=m'+1:=⟨m - 1,by omega⟩;have tok0:=trivial;cases hh:lD (.mk k n ks) with
  | no b=>
   have hRv:=hR'.out;rw [aPu hh] at hRv;have hRv:none=R:=hRv;obtain ⟨_,co,hco,hco2⟩:=aFt hvt.out hh;have hH:=aD (fun (w:World) (A:Option Addr) (c:Nat) (hr:Rd w A 0 ks)=>by have:=kJ k n ks A c 200 w hvt.out (by omega) hr;rw [hco] at this;exact this);have qb:(co != 0)=true:=by simpa using hco2
   clear hR' hh;subst hRv;go_wp2_with (go_at_call 51;have _t:=tok0;refine (hH.out _ A c hra).mono ?_;rintro e w2 ⟨k3,n3,s3,A3,c3,_,rfl,_,_,hb2⟩;have g2:=(hb.trans (hb2.mono hb.size)).alloc (by have:=hb.size;have:=hb2.size;omega) (.cells (Ro k3 n3 A3 s3.length c3) 32))
   go_ret2
   exact ⟨rfl,g2⟩
  | ok h=>
   obtain ⟨kh,nh,sh⟩:=h;have hvh:=(dC hh).2.1;have hre:=(dC hh).2.2;have hH:=aD (show ∀(w:World) (A:Option Addr) (c:Nat) (hr:Rd w A 0 ks),Calls prog 51 #[.agg (Ro k n A ks.length c),.int .i64 200] w fun e w'=>∃A3 c3,e = .returned (.tuple #[.agg (Ro kh nh A3 sh.length c3),.int .i64 0])∧sh.length≤9223372036854775807∧RdP (fun b=>w.heap.size≤b) w' A3 0 sh∧Bw w w' from fun w A c hr=>by
    have:=kJ k n ks A c 200 w hvt.out (by omega) hr;rw [hre] at this;refine this.mono fun e w' hg=>?_
    obtain ⟨k3,n3,s3,A3,c3,h1,h2,h3,h4,h5⟩:=hg;injection (show Tm.mk kh nh sh = .mk k3 n3 s3 from h1) with e1 e2 e3;subst e1 e2 e3;exact ⟨A3,c3,h2,h3,h4,h5⟩)
   have hS0:=fun (w:World) (A3:Option Addr) (c3:Nat) (hr:Rd w A3 0 sh) (hr2:Rd w A2 0 s2)=>sI kh nh sh A3 c3 k2 n2 s2 A2 c2 200 w (by omega) hvh hv2'.out hr hr2
   by_cases hc:eP 200 (.mk kh nh sh) (.mk k2 n2 s2)=1
   ·have hRv:=hR'.out;rw [aLj hh hc] at hRv;have hRv:some (l++[])=R:=hRv;rw [List.append_nil] at hRv;rw [hc] at hS0;have hS:=aD hS0;subst hRv;clear hR' hh hc hS0 hre;go_wp2_with (first
     | (go_at_call 52;have _t:=tok2;refine (hS.out _ A3 c3 r4.rd (hr2.below g3)).mono ?_;rintro e w4 ⟨rfl,hb4⟩;have g4:=g3.trans (hb4.mono g3.size);have hJ4:=hJ.keep hb4;have hB14:=hB13.keep hb4;have hB24:=hB23.keep hb4;have hP4:=hP3.below hb4;have tok3:=trivial)
     | (go_at_call 51;have _t:=tok0;refine (hH.out _ A c hra).mono ?_;rintro e w2 ⟨A3,c3,rfl,hl3,r3,hb2⟩;have g2:=hb.trans (hb2.mono hb.size);have hJ:=aC w2 32 (Ro kh nh A3 sh.length c3) rfl;have g3:=g2.alloc g2.size (.cells (Ro kh nh A3 sh.length c3) 32);have r4:=r3.alloc (.cells (Ro kh nh A3 sh.length c3) 32);have hB13:=(hB1.keep hb2).alloc (.cells (Ro kh nh A3 sh.length c3) 32);have hB23:=(hB2.keep hb2).alloc (.cells (Ro kh nh A3 sh.length c3) 32);have hP3:=(hP.below hb2).alloc (.cells (Ro kh nh A3 sh.length c3) 32);obtain ⟨v0,v1,v2⟩:=hJ.three;obtain ⟨z0,z1,z2⟩:=hB23.three;have tok2:=trivial))
    go_ret2
    obtain ⟨A',c',he,hrd⟩:=hP4.rd;injection he with e1 e2 e3;subst e1 e3;exact ⟨L,cl,rfl,hrd.rd,g4⟩
   ·have hS:=aD hS0;have qc:(eP 200 (.mk kh nh sh) (.mk k2 n2 s2)==1)=false:=by simpa using hc
    have qc':=aD hc;clear hS0;by_cases h3:kh=3
    rotate_left
    ·have hRv:=hR'.out;rw [aAb hh hc (fun h=>h3 h.1)] at hRv;have hRv:none=R:=hRv;have q3:(kh != 3)=true:=by simpa using h3
     generalize eP 200 (.mk kh nh sh) (.mk k2 n2 s2)=cv at *
     subst hRv;clear hR' hh hc h3 hre qc';go_wp2_with (first
      | (go_at_call 52;have _t:=tok2;refine (hS.out _ A3 c3 r4.rd (hr2.below g3)).mono ?_;rintro e w4 ⟨rfl,hb4⟩;have g4:=g3.trans (hb4.mono g3.size);have hJ4:=hJ.keep hb4;have hB14:=hB13.keep hb4;have hB24:=hB23.keep hb4;have hP4:=hP3.below hb4;clear v0 v1 v2;obtain ⟨v0,v1,v2⟩:=hJ4.three;have tok3:=trivial)
      | (go_at_call 51;have _t:=tok0;refine (hH.out _ A c hra).mono ?_;rintro e w2 ⟨A3,c3,rfl,hl3,r3,hb2⟩;have g2:=hb.trans (hb2.mono hb.size);have hJ:=aC w2 32 (Ro kh nh A3 sh.length c3) rfl;have g3:=g2.alloc g2.size (.cells (Ro kh nh A3 sh.length c3) 32);have r4:=r3.alloc (.cells (Ro kh nh A3 sh.length c3) 32);have hB13:=(hB1.keep hb2).alloc (.cells (Ro kh nh A3 sh.length c3) 32);have hB23:=(hB2.keep hb2).alloc (.cells (Ro kh nh A3 sh.length c3) 32);have hP3:=(hP.below hb2).alloc (.cells (Ro kh nh A3 sh.length c3) 32);obtain ⟨v0,v1,v2⟩:=hJ.three;obtain ⟨z0,z1,z2⟩:=hB23.three;have tok2:=trivial))
     go_ret2
     exact ⟨rfl,g4⟩
    ·subst h3;obtain ⟨_,ka,na,sa,kb,nb,sb,he,hva,hvb⟩:=aLn hh rfl;injection he with _ e2 e3;subst e2 e3;have hT:=aD (fun (w:World) (A:Option Addr) (c:Nat) (hr:Rd w A 0 sb)=>zT kb nb sb A c 0 (by omega) w hvb hr);by_cases ht:sX 0 (.mk kb nb sb)=0
     rotate_left
     ·have hRv:=hR'.out;rw [aAb hh hc (fun h=>ht h.2)] at hRv;have hRv:none=R:=hRv;have q4:decide (0<sX 0 (.mk kb nb sb))=true:=decide_eq_true (by have:=(tm_le.1 (.mk kb nb sb) 0).1;omega);generalize sX 0 (.mk kb nb sb)=tv at *
      generalize eP 200 (.mk 3 nh [.mk ka na sa,.mk kb nb sb]) (.mk k2 n2 s2)=cv at *
      subst hRv;clear hR' hh hc ht hre qc';go_wp2_with (first
       | (go_at_call 53;have _t:=tok3;refine (hT.out _ Ab cb rb4).mono ?_;rintro e w5 ⟨rfl,hb5⟩;have g5:=g4.trans (hb5.mono g4.size);have tok4:=trivial)
       | (go_at_call 52;have _t:=tok2;refine (hS.out _ A3 c3 r4.rd (hr2.below g3)).mono ?_;rintro e w4 ⟨rfl,hb4⟩;have g4:=g3.trans (hb4.mono g3.size);have hJ4:=hJ.keep hb4;have hB14:=hB13.keep hb4;have hB24:=hB23.keep hb4;have hP4:=hP3.below hb4;have r5:=r4.below hb4;clear v0 v1 v2;obtain ⟨v0,v1,v2⟩:=hJ4.three;obtain ⟨bx,ox,kk,nn,ss,Ab,cb,rfl,hkk,d1,d2,d3,hlb,rb4⟩:=r5.rd.at_ (j:=1) (by simp);injection hkk with e1 e2 e3;subst e1 e2 e3;simp only [Nat.zero_mul,Nat.add_zero,Nat.one_mul,Nat.zero_add] at d1 d2 d3;have tok3:=trivial)
       | (go_at_call 51;have _t:=tok0;refine (hH.out _ A c hra).mono ?_;rintro e w2 ⟨A3,c3,rfl,hl3,r3,hb2⟩;have g2:=hb.trans (hb2.mono hb.size);have hJ:=aC w2 32 (Ro 3 nh A3 2 c3) rfl;have g3:=g2.alloc g2.size (.cells (Ro 3 nh A3 2 c3) 32);have r4:=r3.alloc (.cells (Ro 3 nh A3 2 c3) 32);have hB13:=(hB1.keep hb2).alloc (.cells (Ro 3 nh A3 2 c3) 32);have hB23:=(hB2.keep hb2).alloc (.cells (Ro 3 nh A3 2 c3) 32);have hP3:=(hP.below hb2).alloc (.cells (Ro 3 nh A3 2 c3) 32);obtain ⟨v0,v1,v2⟩:=hJ.three;obtain ⟨z0,z1,z2⟩:=hB23.three;have tok2:=trivial))
      go_ret2
      exact ⟨rfl,g5⟩
     ·have hRv:=hR'.out;rw [aGb hh hc ⟨rfl,ht⟩] at hRv;have hT0:=aD (show ∀(w:World) (A:Option Addr) (c:Nat) (hr:Rd w A 0 sb),Calls prog 53 #[.agg (Ro kb nb A sb.length c),.int .i64 0] w fun e w'=>e = .returned (.int .i64 0)∧Bw w w' from fun w A c hr=>by have:=hT.out w A c hr;rw [ht] at this;exact this);obtain ⟨hsd,hvd⟩:=aFm hvb ht;generalize eP 200 (.mk 3 nh [.mk ka na sa,.mk kb nb sb]) (.mk k2 n2 s2)=cv at *
      cases m with
      | zero=>
       have hRv:none=R:=hRv;have q5:((l.length:Int)==3)=true:=by simp;omega
       subst hRv;clear hR' hh hc ht hre qc' hT hsd hvd;go_wp2_with (first
        | (go_at_call 53;have _t:=tok3;refine (hT0.out _ Ab cb rb4).mono ?_;rintro e w5 ⟨rfl,hb5⟩;have g5:=g4.trans (hb5.mono g4.size);clear v0 v1 v2;obtain ⟨v0,v1,v2⟩:=(hJ4.keep hb5).three;replace d1:=(cM hb5) _ _ d1;replace d2:=(cM hb5) _ _ d2;replace d3:=(cM hb5) _ _ d3;have hP5:=hP4.below hb5;have tok4:=trivial)
        | (go_at_call 52;have _t:=tok2;refine (hS.out _ A3 c3 r4.rd (hr2.below g3)).mono ?_;rintro e w4 ⟨rfl,hb4⟩;have g4:=g3.trans (hb4.mono g3.size);have hJ4:=hJ.keep hb4;have hB14:=hB13.keep hb4;have hB24:=hB23.keep hb4;have hP4:=hP3.below hb4;have r5:=r4.below hb4;clear v0 v1 v2;obtain ⟨v0,v1,v2⟩:=hJ4.three;obtain ⟨bx,ox,kk,nn,ss,Ab,cb,rfl,hkk,d1,d2,d3,hlb,rb4⟩:=r5.rd.at_ (j:=1) (by simp);injection hkk with e1 e2 e3;subst e1 e2 e3;simp only [Nat.zero_mul,Nat.add_zero,Nat.one_mul,Nat.zero_add] at d1 d2 d3;have tok3:=trivial)
        | (go_at_call 51;have _t:=tok0;refine (hH.out _ A c hra).mono ?_;rintro e w2 ⟨A3,c3,rfl,hl3,r3,hb2⟩;have g2:=hb.trans (hb2.mono hb.size);have hJ:=aC w2 32 (Ro 3 nh A3 2 c3) rfl;have g3:=g2.alloc g2.size (.cells (Ro 3 nh A3 2 c3) 32);have r4:=r3.alloc (.cells (Ro 3 nh A3 2 c3) 32);have hB13:=(hB1.keep hb2).alloc (.cells (Ro 3 nh A3 2 c3) 32);have hB23:=(hB2.keep hb2).alloc (.cells (Ro 3 nh A3 2 c3) 32);have hP3:=(hP.below hb2).alloc (.cells (Ro 3 nh A3 2 c3) 32);obtain ⟨v0,v1,v2⟩:=hJ.three;obtain ⟨z0,z1,z2⟩:=hB23.three;have tok2:=trivial))
       go_ret2
       exact ⟨rfl,g5⟩
      | succ m=>
       have q5:((l.length:Int)==3)=false:=by simp;omega
       obtain ⟨kd,nd,sd,hd⟩:∃a b l,bT (-1) 0 (.mk kb nb sb) = .mk a b l:=by cases bT (-1) 0 (.mk kb nb sb) with|mk a b l=>exact ⟨a,b,l,rfl⟩
       rw [hd] at hsd hvd;have hSh:=aD (show ∀(w:World) (A:Option Addr) (c:Nat) (hr:Rd w A 0 sb),Calls prog 50 #[.agg (Ro kb nb A sb.length c),.int .i64 (-1),.int .i64 0] w (oM w (some (.mk kd nd sd))) from fun w A c hr=>by
        have hzb:=aH hvb;have:=fK kb nb sb A c (-1) 0 w (by omega) (by omega) (by omega) (aZ hvb) hr;rw [hsd] at this;exact this)
       have hRd:=aD (show (yl (.mk k2 n2 s2) (m+1) (.mk kd nd sd)).map ((l++[.mk ka na sa])++·)=R from by
        have e:((yl (.mk k2 n2 s2) (m+1) (bT (-1) 0 (.mk kb nb sb))).map (Tm.mk ka na sa::·)).map (l++·)=R:=hRv;rw [hd] at e;rw [← e];cases yl (.mk k2 n2 s2) (m+1) (.mk kd nd sd)<;>simp)
       have hl1:(l++[Tm.mk ka na sa]).length=l.length+1:=by simp
       clear hR' hh hc ht hre qc' hT hsd hd hRv;go_wp2_with (first
        | (at_builtin;have _t:=tok5;refine jC (lo:=fun _=>False) (B:=w.heap.size+2) (m:=l.length) (k:=ka) (n:=na) (ks:=sa) (A:=Aa) (c:=ca) (q:=fun b=>wr.heap.size≤b∧b<(w6.alloc (.cells (Ro kd nd A6 sd.length c6) 32)).heap.size) hP7 (by simp;omega) ra7.lt_ (fun b hb=>⟨.inr (Nat.le_trans (by omega) hb.1),hb.2,fun e=>Nat.lt_irrefl _ (yM (hP.ownL b e) hb.1)⟩) hla rfl (by omega) rfl _ _ rfl rfl (by show Value.slice (some ⟨w6.heap.size+1,0,none⟩) 1 1=_;simp) ?_;intro A8 c8 w8 hp8 hb8 hg8;have hB18:=hB17.below hb8 (by omega);have hB28:=hB27.below hb8 (by omega);have hK8:=hK.grown hg8 (fun e=>by have:=hP.ownL w6.heap.size e.symm;omega);have r8:=r6.grown hg8 (fun b hb e=>by have h0:=hP.ownL b e.symm;have hb:w5.heap.size≤b:=hb;omega);obtain ⟨y0,y1,y2⟩:=hK8.three;obtain ⟨x0,x1,x2,f0,f1,f2⟩:=bW hB18;have tok6:=trivial)
        | (go_at_call 50;have _t:=tok4;refine (hSh.out _ Ab cb (rb4.below hb5)).mono ?_;intro e w6 hgo;obtain ⟨A6,c6,rfl,hl6,hf6,hb6⟩:=cS hgo;clear hgo;have g6:=g5.trans (hb6.mono g5.size);have hK:=aC w6 32 (Ro kd nd A6 sd.length c6) rfl;have hB17:=((hB14.keep hb5).keep hb6).alloc (.cells (Ro kd nd A6 sd.length c6) 32);have hB27:=((hB24.keep hb5).keep hb6).alloc (.cells (Ro kd nd A6 sd.length c6) 32);have hJ7:=((hJ4.keep hb5).keep hb6).alloc (.cells (Ro kd nd A6 sd.length c6) 32);have hP7:=(hP5.below hb6).alloc (.cells (Ro kd nd A6 sd.length c6) 32);have g7:=g6.alloc g6.size (.cells (Ro kd nd A6 sd.length c6) 32);have r6:=hf6.rd'.alloc (.cells (Ro kd nd A6 sd.length c6) 32);have r7:=((r5.below hb5).below hb6).alloc (.cells (Ro kd nd A6 sd.length c6) 32);clear v0 v1 v2 d1 d2 d3;obtain ⟨v0,v1,v2⟩:=hJ7.three;obtain ⟨by0,oy0,kk0,nn0,ss0,Aa,ca,he0,hkk0,i1,i2,i3,hla,ra7⟩:=r7.at_ (j:=0) (by simp);injection hkk0 with e1 e2 e3;subst e1 e2 e3;injection he0 with he0;injection he0 with e4 e5 _;subst e4 e5;simp only [Nat.zero_mul,Nat.add_zero,Nat.one_mul,Nat.zero_add] at i1 i2 i3;have l27:=hB2.lt;have s57:wr.heap.size≤w6.heap.size:=Nat.le_trans (Nat.le_trans hb2.size (by have:=hb4.size;simp at this;omega)) (Nat.le_trans hb5.size hb6.size);have s5:wr.heap.size≤w5.heap.size:=Nat.le_trans (Nat.le_trans hb2.size (by have:=hb4.size;simp at this;omega)) hb5.size;have tok5:=trivial)
        | (go_at_call 53;have _t:=tok3;refine (hT0.out _ Ab cb rb4).mono ?_;rintro e w5 ⟨rfl,hb5⟩;have g5:=g4.trans (hb5.mono g4.size);clear v0 v1 v2;obtain ⟨v0,v1,v2⟩:=(hJ4.keep hb5).three;replace d1:=(cM hb5) _ _ d1;replace d2:=(cM hb5) _ _ d2;replace d3:=(cM hb5) _ _ d3;have hP5:=hP4.below hb5;have tok4:=trivial)
        | (go_at_call 52;have _t:=tok2;refine (hS.out _ A3 c3 r4.rd (hr2.below g3)).mono ?_;rintro e w4 ⟨rfl,hb4⟩;have g4:=g3.trans (hb4.mono g3.size);have hJ4:=hJ.keep hb4;have hB14:=hB13.keep hb4;have hB24:=hB23.keep hb4;have hP4:=hP3.below hb4;have r5:=r4.below hb4;clear v0 v1 v2;obtain ⟨v0,v1,v2⟩:=hJ4.three;obtain ⟨bx,ox,kk,nn,ss,Ab,cb,rfl,hkk,d1,d2,d3,hlb,rb4⟩:=r5.rd.at_ (j:=1) (by simp);injection hkk with e1 e2 e3;subst e1 e2 e3;simp only [Nat.zero_mul,Nat.add_zero,Nat.one_mul,Nat.zero_add] at d1 d2 d3;have tok3:=trivial)
        | (go_at_call 51;have _t:=tok0;refine (hH.out _ A c hra).mono ?_;rintro e w2 ⟨A3,c3,rfl,hl3,r3,hb2⟩;have g2:=hb.trans (hb2.mono hb.size);have hJ:=aC w2 32 (Ro 3 nh A3 2 c3) rfl;have g3:=g2.alloc g2.size (.cells (Ro 3 nh A3 2 c3) 32);have r4:=r3.alloc (.cells (Ro 3 nh A3 2 c3) 32);have hB13:=(hB1.keep hb2).alloc (.cells (Ro 3 nh A3 2 c3) 32);have hB23:=(hB2.keep hb2).alloc (.cells (Ro 3 nh A3 2 c3) 32);have hP3:=(hP.below hb2).alloc (.cells (Ro 3 nh A3 2 c3) 32);obtain ⟨v0,v1,v2⟩:=hJ.three;obtain ⟨z0,z1,z2⟩:=hB23.three;have tok2:=trivial))
       go_roundw
       case rel=>exact ⟨m+1,kd,nd,sd,A6,c6,l++[.mk ka na sa],A8,c8,by omega,by rw [hl1];omega,by rw [hl1],by rw [hl1];exact ((hp8.setCell (by simp) _).setCell (by simp) _).setCell (by simp) _,((hB18.set_ 0 _).set_ 1 _).set_ 2 _,((hB28.far (by simp) _).far (by simp) _).far (by simp) _,(((r8.mono (q:=(·≠w.heap.size)) (fun b hb e=>by subst e;have hb:w5.heap.size≤w.heap.size:=hb;omega)).setCell (by simp) _).setCell (by simp) _).setCell (by simp) _,aD hvd,hRd,(((g7.trans (hb8.mono (by omega))).setCell (by simp) _).setCell (by simp) _).setCell (by simp) _⟩
       case measure=>simp;omega
theorem aId {N:Nat}(ih:nD N)(ctx:List Tm)(C:Option Addr)(cc:Nat)(k n:Int)(A:Option Addr)(c:Nat)(kp np:Int)(sp:List Tm)(kz nz:Int)(sz:List Tm)(ks ns:Int)(ss:List Tm)(kn nn:Int)(sn:List Tm)(r:Rs Tm)(w:World)(hs:aOd (bH N) ctx (.mk kp np sp) (.mk kz nz sz) (.mk ks ns ss) (.mk kn nn sn)=some r)(hvp:aE (.mk kp np sp)=true)(hvz:aE (.mk kz nz sz)=true)(hvs:aE (.mk ks ns ss)=true)(hvn:aE (.mk kn nn sn)=true)(hvc:∀u,u∈ctx→aE u=true)(hm:ctx.length≤20)(hrc:Rd w C 0 ctx)(hr:Rd w A 0 [.mk kp np sp,.mk kz nz sz,.mk ks ns ss,.mk kn nn sn]) :
  Calls prog 122 #[.slice C ctx.length cc,.agg (Ro k n A 4 c)] w (oS w r):=by
 have hszp:=aH hvp;obtain ⟨bk,ok,Ap,cp,rfl,p1,p2,p3,hlp,rp⟩:=oJ hr;obtain ⟨Az,cz,z1,z2,z3,hlz,rz⟩:=tV hr;obtain ⟨As,cs,s1,s2,s3,hls,rs⟩:=kd2 hr;obtain ⟨An,cn,n1,n2,n3,hln,rn⟩:=kd3 hr;simp only [Nat.zero_mul,Nat.add_zero,Nat.one_mul,Nat.reduceMul] at p1 p2 p3 z1 z2 z3 s1 s2 s3 n1 n2 n3
 have lbp:=mI _ _ p1;have hvl:=aD (show ∀t,t∈[.mk kp np sp,.mk kn nn sn]→aE t=true from fun t ht=>by
  rcases List.mem_cons.1 ht with rfl|ht
  ·exact hvp
  ·rw [List.mem_singleton.1 ht];exact hvn)
 rcases aL hs with ⟨b,h1,rfl⟩|⟨u1,h1,hs⟩
 ·have hF:=aD (fun (w:World) (hrc:Rd w C 0 ctx) (hrp:Rd w Ap 0 sp) (hr2:Rd w none 0 [])=>lC ih ctx C cc kp np sp Ap cp 6 0 [] none 0 _ w h1 hvp (by simp [aG]) hvc hm hrc hrp hr2);have qb:=gK b;clear hs h1 hvp hvz hvs hvn hvc ih;go_enter func122,ntmps122;go_upto_region 10 with (first
   | (go_at_call 151;have _t:=tok;refine (hF.out _ (hrc.below kw2) (rp.below kw2) Rd.nil).mono ?_;rintro e w3 ⟨he,hb3⟩;obtain rfl:e = .returned (.int .i64 (cX b)):=he;have hTw3:=hT2.keep hb3;have hZw3:=hZ2.keep hb3;have hPw3:=hP2.keep hb3;have hNw3:=hN2.keep hb3;have kww3:=kw2.trans (hb3.mono kw2.size);clear y0 y1 y2)
   | (go_at_call 55;refine (cG _ _ _).mono ?_;rintro e w1 ⟨rfl,hb1⟩;have hT1:Blk w1 w.heap.size (Ro k n (some ⟨bk,ok,none⟩) 4 c):=(((aC w 32 (Ro k n (some ⟨bk,ok,none⟩) 4 c) rfl).alloc _).alloc _).keep hb1;have hZ1:Blk w1 (w.heap.size+1) Zr:=((aC _ 32 Zr (by simp)).alloc _).keep hb1;have hP1:Blk w1 (w.heap.size+1+1) (Ro kp np Ap sp.length cp):=(aC _ 32 (Ro kp np Ap sp.length cp) (by simp)).keep hb1;have kw1:Bw w w1:=bU bw3 hb1;have hT2:=hT1.alloc (.cells (Ro 6 0 none 0 0) 32);have hZ2:=hZ1.alloc (.cells (Ro 6 0 none 0 0) 32);have hP2:=hP1.alloc (.cells (Ro 6 0 none 0 0) 32);have kw2:=kw1.alloc kw1.size (.cells (Ro 6 0 none 0 0) 32);have hN2:=aC w1 32 (Ro 6 0 none 0 0) rfl;obtain ⟨y0,y1,y2⟩:=hP2.three;have tok:=trivial))
  refine aOz hTw3 hZw3 hPw3 hNw3 kww3 ?_;intro wl hTwl hZwl hPwl hNwl kwwl;have lPz:=hPwl.lt;have lZz:=hZwl.lt;have nz0:bk≠(w.heap.size+1):=by omega
  have nz1:w.heap.size≠(w.heap.size+1):=by omega
  have nz2:(w.heap.size+1+1)≠(w.heap.size+1):=by omega
  have lv:=dW (z:=(w.heap.size+1)) hTwl.three.2.2 nz1;obtain ⟨lp0,lp1,lp2⟩:=rkB hPwl nz2;obtain ⟨ln1,ln2,ln3⟩:=rk3 kwwl nz0 n1 n2 n3;refine gBk wl (w.heap.size+1) [9] [0,1,2,3,4,7] 10 4 (lT:=[_,_,_,_,_,_]) ?_;intro q0 bq0 keq0;refine bZ (aD ?_);refine bB 5 ?_;go_wp2_with fail
  refine aS ?_;intro q1 hn;have hbq1:Bw q0 q1:=by rw [hn];exact bw1
  have zq1:Blk q1 q0.heap.size #[.int .i64 kp,.int .i64 np,.slice Ap sp.length cp,.int .i64 kn,.int .i64 nn,.slice An sn.length cn]:=by rw [hn];exact aC _ 32 _ rfl
  have seq1:q0.heap.size<q1.heap.size:=by rw [hn];simp
  clear hn;refine wN bq0 hbq1 ?_;intro bq1 lq1 keq1;refine bB 6 ?_;go_wp2_with (go_at_call 67;refine (bK 5 (aN hlp ((rp.below kwwl).below bq1).rdp (aN hln ((rn.below kwwl).below bq1).rdp cC)) 2 rfl (by omega) _ _ zq1).mono ?_;rintro e q2 ⟨A7,c7,rfl,r7,hbq2⟩)
  refine wN bq1 hbq2 ?_;intro bq2 lq2 keq2;refine bB 8 ?_;have hZz:=hZwl.keep bq2;obtain ⟨d0,d1,d2,e0,e1,e2,lz⟩:=dJ hZz;go_wp2_with fail
  refine aS ?_;intro q3 hn;have hZq3:Blk q3 (w.heap.size+1) (Ro 5 0 A7 2 c7):=by rw [hn];exact ((hZz.set_ 0 _).set_ 1 _).set_ 2 _
  have rq3:Rd q3 A7 0 [.mk kp np sp,.mk kn nn sn]:=by rw [hn];exact eB hZz hvl.out r7 _ _ _
  have kwq3:Bw w q3:=by rw [hn];exact (bP (kwwl.trans (bq2.mono kwwl.size)))
  have keq3:KE wl (w.heap.size+1) q3:=by rw [hn];exact ((keq2.set _ _).set _ _).set _ _
  clear hn d0 d1 d2 e0 e1 e2 lz;refine aQ keq3 ?_;refine cP [9] (lB:=[_]) ?_;refine gS (aD ?_);obtain ⟨d0,d1,d2,e0,e1,e2,lz⟩:=dJ hZq3;go_wp2_with fail
  refine bodyPost_ret (v:=.tuple #[.agg (Ro 5 0 A7 2 c7),.int .i64 (cX b)]) (by simp [results,results122,go_sem,d0,d1,d2]) rfl ⟨5,0,A7,2,c7,rfl,kwq3⟩
 ·have hF:=aD (fun (w:World) (hrc:Rd w C 0 ctx) (hrp:Rd w Ap 0 sp) (hr2:Rd w none 0 [])=>lC ih ctx C cc kp np sp Ap cp 6 0 [] none 0 _ w h1 hvp (by simp [aG]) hvc hm hrc hrp hr2);replace hs:bd (jU (bH N) ctx (.mk kz nz sz) (.mk 5 0 [.mk kp np sp,Tm.mk 7 0 []])) (fun _=>bd (jU (bH N) ctx (.mk ks ns ss) (mH (.mk kp np sp))) fun _=>bd (jU (bH N) ctx (.mk kn nn sn) (.mk 6 0 [])) fun _=>some (.ok (.mk 5 0 [.mk kp np sp,.mk kn nn sn])))=some r:=hs;rcases aL hs with ⟨b,h2,rfl⟩|⟨u2,h2,hs⟩
  ·have hC1:=aD (fun (A2:Option Addr) (c2:Nat) (w:World) (hrc:Rd w C 0 ctx) (hrt:Rd w Az 0 sz) (hr2:Rd w A2 0 [.mk kp np sp,Tm.mk 7 0 []])=>cI ih ctx C cc kz nz sz Az cz 5 0 [.mk kp np sp,Tm.mk 7 0 []] A2 c2 _ w h2 hvz hvc (by omega) hrc hrt (by simp only [aG,Tm.size];omega) hr2);have qb:=gK b;clear hs h1 h2 hvp hvz hvs hvn hvc ih;go_enter func122,ntmps122;go_upto_region 5 with (first
    | (go_at_call 151;have _t:=tok;refine (hF.out _ (hrc.below kw2) (rp.below kw2) Rd.nil).mono ?_;rintro e w3 ⟨he,hb3⟩;obtain rfl:e = .returned (.int .i64 0):=he;have hTw3:=hT2.keep hb3;have hZw3:=hZ2.keep hb3;have hPw3:=hP2.keep hb3;have hNw3:=hN2.keep hb3;have kww3:=kw2.trans (hb3.mono kw2.size);clear y0 y1 y2)
    | (go_at_call 55;refine (cG _ _ _).mono ?_;rintro e w1 ⟨rfl,hb1⟩;have hT1:Blk w1 w.heap.size (Ro k n (some ⟨bk,ok,none⟩) 4 c):=(((aC w 32 (Ro k n (some ⟨bk,ok,none⟩) 4 c) rfl).alloc _).alloc _).keep hb1;have hZ1:Blk w1 (w.heap.size+1) Zr:=((aC _ 32 Zr (by simp)).alloc _).keep hb1;have hP1:Blk w1 (w.heap.size+1+1) (Ro kp np Ap sp.length cp):=(aC _ 32 (Ro kp np Ap sp.length cp) (by simp)).keep hb1;have kw1:Bw w w1:=bU bw3 hb1;have hT2:=hT1.alloc (.cells (Ro 6 0 none 0 0) 32);have hZ2:=hZ1.alloc (.cells (Ro 6 0 none 0 0) 32);have hP2:=hP1.alloc (.cells (Ro 6 0 none 0 0) 32);have kw2:=kw1.alloc kw1.size (.cells (Ro 6 0 none 0 0) 32);have hN2:=aC w1 32 (Ro 6 0 none 0 0) rfl;obtain ⟨y0,y1,y2⟩:=hP2.three;have tok:=trivial))
   refine aOz hTw3 hZw3 hPw3 hNw3 kww3 ?_;intro wx hTwx hZwx hPwx hNwx kwwx;have v2:=aF hTwx.three.2.2;obtain ⟨y0,y1,y2⟩:=jR hPwx;obtain ⟨uz1,uz2,uz3⟩:=iG kwwx z1 z2 z3;refine eT wx [10] [0,1,2,3,4,5] 11 5 (lT:=[_,_,_,_,_,_]) ?_;intro q0 bq0;refine bZ (aD ?_);refine bB 6 ?_
   ·go_wp2_with (go_at_call 55;refine (cG _ _ _).mono ?_;rintro e q1 ⟨rfl,hbq1⟩)
    refine aX bq0 hbq1 ?_;intro bq1 lq1;refine bB 7 ?_
    ·go_wp2_with fail
     refine aS ?_;intro q2 hn;have hbq2:Bw q1 q2:=by rw [hn];exact bw1
     have zq2:Blk q2 q1.heap.size #[.int .i64 kp,.int .i64 np,.slice Ap sp.length cp,.int .i64 7,.int .i64 0,.slice none 0 0]:=by rw [hn];exact aC _ 32 _ rfl
     have seq2:q1.heap.size<q2.heap.size:=by rw [hn];simp
     clear hn;refine aX bq1 hbq2 ?_;intro bq2 lq2;refine bB 8 ?_
     ·go_wp2_with (go_at_call 67;refine (bK 5 (aN hlp ((rp.below kwwx).below bq2).rdp (aN (ks:=[]) (by simp) (Rd.nil (w:=q2)).rdp cC)) 2 rfl (by omega) _ _ zq2).mono ?_;rintro e q3 ⟨A6,c6,rfl,r6,hbq3⟩)
      refine aX bq2 hbq3 ?_;intro bq3 lq3;refine bB 9 ?_
      ·go_wp2_with (go_at_call 57;refine (hC1.out _ _ _ ((hrc.below kwwx).below bq3) ((rz.below kwwx).below bq3) r6).mono ?_;rintro e q4 ⟨he,hbq4⟩;obtain rfl:e = .returned (.int .i64 (cX b)):=he)
       refine aX bq3 hbq4 ?_;intro bq4 lq4;refine cP [10] (lB:=[_]) ?_;refine gS (aD ?_);have hTq4:=hTwx.keep bq4;have hZq4:=hZwx.keep bq4;have hPq4:=hPwx.keep bq4;have hNq4:=hNwx.keep bq4;have kwq4:=kwwx.trans (bq4.mono kwwx.size);have kwxq4:=bq4;go_upto_region 10 with fail
       refine aQe hTq4 hZq4 hPq4 hNq4 kwq4 kwxq4 ?_;intro wl hTwl hZwl hPwl hNwl kwwl kwxwl;have lPz:=hPwl.lt;have lZz:=hZwl.lt;have nz0:bk≠(w.heap.size+1):=by omega
       have nz1:w.heap.size≠(w.heap.size+1):=by omega
       have nz2:(w.heap.size+1+1)≠(w.heap.size+1):=by omega
       have lv:=dW (z:=(w.heap.size+1)) hTwl.three.2.2 nz1;obtain ⟨lp0,lp1,lp2⟩:=rkB hPwl nz2;obtain ⟨ln1,ln2,ln3⟩:=rk3 kwwl nz0 n1 n2 n3;refine gBk wl (w.heap.size+1) [9] [0,1,2,3,4,7] 10 4 (lT:=[_,_,_,_,_,_]) ?_;intro q0 bq0 keq0;refine bZ (aD ?_);refine bB 5 ?_;go_wp2_with fail
       refine aS ?_;intro q1 hn;have hbq1:Bw q0 q1:=by rw [hn];exact bw1
       have zq1:Blk q1 q0.heap.size #[.int .i64 kp,.int .i64 np,.slice Ap sp.length cp,.int .i64 kn,.int .i64 nn,.slice An sn.length cn]:=by rw [hn];exact aC _ 32 _ rfl
       have seq1:q0.heap.size<q1.heap.size:=by rw [hn];simp
       clear hn;refine wN bq0 hbq1 ?_;intro bq1 lq1 keq1;refine bB 6 ?_;go_wp2_with (go_at_call 67;refine (bK 5 (aN hlp ((rp.below kwwl).below bq1).rdp (aN hln ((rn.below kwwl).below bq1).rdp cC)) 2 rfl (by omega) _ _ zq1).mono ?_;rintro e q2 ⟨A7,c7,rfl,r7,hbq2⟩)
       refine wN bq1 hbq2 ?_;intro bq2 lq2 keq2;refine bB 8 ?_;have hZz:=hZwl.keep bq2;obtain ⟨d0,d1,d2,e0,e1,e2,lz⟩:=dJ hZz;go_wp2_with fail
       refine aS ?_;intro q3 hn;have hZq3:Blk q3 (w.heap.size+1) (Ro 5 0 A7 2 c7):=by rw [hn];exact ((hZz.set_ 0 _).set_ 1 _).set_ 2 _
       have rq3:Rd q3 A7 0 [.mk kp np sp,.mk kn nn sn]:=by rw [hn];exact eB hZz hvl.out r7 _ _ _
       have kwq3:Bw w q3:=by rw [hn];exact (bP (kwwl.trans (bq2.mono kwwl.size)))
       have keq3:KE wl (w.heap.size+1) q3:=by rw [hn];exact ((keq2.set _ _).set _ _).set _ _
       clear hn d0 d1 d2 e0 e1 e2 lz;refine aQ keq3 ?_;refine cP [9] (lB:=[_]) ?_;refine gS (aD ?_);obtain ⟨d0,d1,d2,e0,e1,e2,lz⟩:=dJ hZq3;go_wp2_with fail
       refine bodyPost_ret (v:=.tuple #[.agg (Ro 5 0 A7 2 c7),.int .i64 (cX b)]) (by simp [results,results122,go_sem,d0,d1,d2]) rfl ⟨5,0,A7,2,c7,rfl,kwq3⟩
  ·have hC1:=aD (fun (A2:Option Addr) (c2:Nat) (w:World) (hrc:Rd w C 0 ctx) (hrt:Rd w Az 0 sz) (hr2:Rd w A2 0 [.mk kp np sp,Tm.mk 7 0 []])=>cI ih ctx C cc kz nz sz Az cz 5 0 [.mk kp np sp,Tm.mk 7 0 []] A2 c2 _ w h2 hvz hvc (by omega) hrc hrt (by simp only [aG,Tm.size];omega) hr2);obtain ⟨k8,n8,s8,h8⟩:=jF (bT 1 0 (.mk kp np sp));obtain ⟨k9,n9,s9,h9⟩:=jF (bT 2 0 (.mk kp np sp));obtain rfl:k8=kp:=by have:=h8;rw [bT] at this;injection this with a _ _;exact a.symm
   obtain rfl:k9=k8:=by have:=h9;rw [bT] at this;injection this with a _ _;exact a.symm
   have hT9:=aD (fun (w:World) (hr:Rd w Ap 0 sp)=>aEy k9 np sp Ap cp n8 n9 s8 s9 w hvp h8 h9 hr);have hsz3:aG [Tm.mk 6 0 [],Tm.mk 3 0 [Tm.mk 5 0 [Tm.mk k9 n8 s8,Tm.mk 1 0 []],Tm.mk 5 0 [Tm.mk k9 n9 s9,Tm.mk 8 0 [Tm.mk 1 1 []]]]]≤1000000:=by
    have e1:=mC 1 (.mk k9 np sp) 0;have e2:=mC 2 (.mk k9 np sp) 0;rw [h8] at e1;rw [h9] at e2;simp only [Tm.size] at e1 e2
    simp only [aG,Tm.size]
    omega
   have hstp:mH (.mk k9 np sp) = .mk 3 0 [Tm.mk 6 0 [],Tm.mk 3 0 [Tm.mk 5 0 [Tm.mk k9 n8 s8,Tm.mk 1 0 []],Tm.mk 5 0 [Tm.mk k9 n9 s9,Tm.mk 8 0 [Tm.mk 1 1 []]]]]:=by unfold mH;rw [h8,h9];rfl
   rw [hstp] at hs;clear h8 h9 hstp;rcases aL hs with ⟨b,h3,rfl⟩|⟨u3,h3,hs⟩
   ·have hC2:=aD (fun (A2:Option Addr) (c2:Nat) (w:World) (hrc:Rd w C 0 ctx) (hrt:Rd w As 0 ss) (hr2:Rd w A2 0 [Tm.mk 6 0 [],Tm.mk 3 0 [Tm.mk 5 0 [Tm.mk k9 n8 s8,Tm.mk 1 0 []],Tm.mk 5 0 [Tm.mk k9 n9 s9,Tm.mk 8 0 [Tm.mk 1 1 []]]]])=>cI ih ctx C cc ks ns ss As cs 3 0 [Tm.mk 6 0 [],Tm.mk 3 0 [Tm.mk 5 0 [Tm.mk k9 n8 s8,Tm.mk 1 0 []],Tm.mk 5 0 [Tm.mk k9 n9 s9,Tm.mk 8 0 [Tm.mk 1 1 []]]]] A2 c2 _ w h3 hvs hvc (by omega) hrc hrt hsz3 hr2);have qb:=gK b;clear hs h1 h2 h3 hvp hvz hvs hvn hvc ih;go_enter func122,ntmps122;go_upto_region 5 with (first
     | (go_at_call 151;have _t:=tok;refine (hF.out _ (hrc.below kw2) (rp.below kw2) Rd.nil).mono ?_;rintro e w3 ⟨he,hb3⟩;obtain rfl:e = .returned (.int .i64 0):=he;have hTw3:=hT2.keep hb3;have hZw3:=hZ2.keep hb3;have hPw3:=hP2.keep hb3;have hNw3:=hN2.keep hb3;have kww3:=kw2.trans (hb3.mono kw2.size);clear y0 y1 y2)
     | (go_at_call 55;refine (cG _ _ _).mono ?_;rintro e w1 ⟨rfl,hb1⟩;have hT1:Blk w1 w.heap.size (Ro k n (some ⟨bk,ok,none⟩) 4 c):=(((aC w 32 (Ro k n (some ⟨bk,ok,none⟩) 4 c) rfl).alloc _).alloc _).keep hb1;have hZ1:Blk w1 (w.heap.size+1) Zr:=((aC _ 32 Zr (by simp)).alloc _).keep hb1;have hP1:Blk w1 (w.heap.size+1+1) (Ro k9 np Ap sp.length cp):=(aC _ 32 (Ro k9 np Ap sp.length cp) (by simp)).keep hb1;have kw1:Bw w w1:=bU bw3 hb1;have hT2:=hT1.alloc (.cells (Ro 6 0 none 0 0) 32);have hZ2:=hZ1.alloc (.cells (Ro 6 0 none 0 0) 32);have hP2:=hP1.alloc (.cells (Ro 6 0 none 0 0) 32);have kw2:=kw1.alloc kw1.size (.cells (Ro 6 0 none 0 0) 32);have hN2:=aC w1 32 (Ro 6 0 none 0 0) rfl;obtain ⟨y0,y1,y2⟩:=hP2.three;have tok:=trivial))
    refine aOz hTw3 hZw3 hPw3 hNw3 kww3 ?_;intro wx hTwx hZwx hPwx hNwx kwwx;have v2:=aF hTwx.three.2.2;obtain ⟨y0,y1,y2⟩:=jR hPwx;obtain ⟨uz1,uz2,uz3⟩:=iG kwwx z1 z2 z3;refine eT wx [10] [0,1,2,3,4,5] 11 5 (lT:=[_,_,_,_,_,_]) ?_;intro q0 bq0;refine bZ (aD ?_);refine bB 6 ?_
    ·go_wp2_with (go_at_call 55;refine (cG _ _ _).mono ?_;rintro e q1 ⟨rfl,hbq1⟩)
     refine aX bq0 hbq1 ?_;intro bq1 lq1;refine bB 7 ?_
     ·go_wp2_with fail
      refine aS ?_;intro q2 hn;have hbq2:Bw q1 q2:=by rw [hn];exact bw1
      have zq2:Blk q2 q1.heap.size #[.int .i64 k9,.int .i64 np,.slice Ap sp.length cp,.int .i64 7,.int .i64 0,.slice none 0 0]:=by rw [hn];exact aC _ 32 _ rfl
      have seq2:q1.heap.size<q2.heap.size:=by rw [hn];simp
      clear hn;refine aX bq1 hbq2 ?_;intro bq2 lq2;refine bB 8 ?_
      ·go_wp2_with (go_at_call 67;refine (bK 5 (aN hlp ((rp.below kwwx).below bq2).rdp (aN (ks:=[]) (by simp) (Rd.nil (w:=q2)).rdp cC)) 2 rfl (by omega) _ _ zq2).mono ?_;rintro e q3 ⟨A6,c6,rfl,r6,hbq3⟩)
       refine aX bq2 hbq3 ?_;intro bq3 lq3;refine bB 9 ?_
       ·go_wp2_with (go_at_call 57;refine (hC1.out _ _ _ ((hrc.below kwwx).below bq3) ((rz.below kwwx).below bq3) r6).mono ?_;rintro e q4 ⟨he,hbq4⟩;obtain rfl:e = .returned (.int .i64 0):=he)
        refine aX bq3 hbq4 ?_;intro bq4 lq4;refine cP [10] (lB:=[_]) ?_;refine gS (aD ?_);have hTq4:=hTwx.keep bq4;have hZq4:=hZwx.keep bq4;have hPq4:=hPwx.keep bq4;have hNq4:=hNwx.keep bq4;have kwq4:=kwwx.trans (bq4.mono kwwx.size);have kwxq4:=bq4;go_upto_region 7 with fail
        refine aQe hTq4 hZq4 hPq4 hNq4 kwq4 kwxq4 ?_;intro wu hTwu hZwu hPwu hNwu kwwu kwxwu;clear v2 y0 y1 y2 uz1 uz2 uz3;have v2:=aF hTwu.three.2.2;obtain ⟨y0,y1,y2⟩:=jR hPwu;obtain ⟨us1,us2,us3⟩:=iG kwwu s1 s2 s3;refine eT wu [8] [0,1,2,3,4,5] 9 3 (lT:=[_,_,_,_,_,_]) ?_;intro q0 bq0;refine bZ (aD ?_);refine bB 6 ?_
        ·go_wp2_with (go_at_call 152;refine (hT9.out _ ((rp.below kwwu).below bq0)).mono ?_;rintro e q1 ⟨A8,c8,rfl,hl8,r8,hbq1⟩)
         refine aX bq0 hbq1 ?_;intro bq1 lq1;refine bB 7 ?_
         ·go_wp2_with (go_at_call 57;refine (hC2.out _ _ _ ((hrc.below kwwu).below bq1) ((rs.below kwwu).below bq1) r8).mono ?_;rintro e q2 ⟨he,hbq2⟩;obtain rfl:e = .returned (.int .i64 (cX b)):=he)
          refine aX bq1 hbq2 ?_;intro bq2 lq2;refine cP [8] (lB:=[_]) ?_;refine gS (aD ?_);have hTq2:=hTwu.keep bq2;have hZq2:=hZwu.keep bq2;have hPq2:=hPwu.keep bq2;have hNq2:=hNwu.keep bq2;have kwq2:=kwwu.trans (bq2.mono kwwu.size);have kwxq2:=kwxwu.trans (bq2.mono kwxwu.size);have kwuq2:=bq2;go_upto_region 10 with fail
          refine aTu hTq2 hZq2 hPq2 hNq2 kwq2 kwxq2 kwuq2 ?_;intro wl hTwl hZwl hPwl hNwl kwwl kwxwl kwuwl;have lPz:=hPwl.lt;have lZz:=hZwl.lt;have nz0:bk≠(w.heap.size+1):=by omega
          have nz1:w.heap.size≠(w.heap.size+1):=by omega
          have nz2:(w.heap.size+1+1)≠(w.heap.size+1):=by omega
          have lv:=dW (z:=(w.heap.size+1)) hTwl.three.2.2 nz1;obtain ⟨lp0,lp1,lp2⟩:=rkB hPwl nz2;obtain ⟨ln1,ln2,ln3⟩:=rk3 kwwl nz0 n1 n2 n3;refine gBk wl (w.heap.size+1) [9] [0,1,2,3,4,7] 10 4 (lT:=[_,_,_,_,_,_]) ?_;intro q0 bq0 keq0;refine bZ (aD ?_);refine bB 5 ?_;go_wp2_with fail
          refine aS ?_;intro q1 hn;have hbq1:Bw q0 q1:=by rw [hn];exact bw1
          have zq1:Blk q1 q0.heap.size #[.int .i64 k9,.int .i64 np,.slice Ap sp.length cp,.int .i64 kn,.int .i64 nn,.slice An sn.length cn]:=by rw [hn];exact aC _ 32 _ rfl
          have seq1:q0.heap.size<q1.heap.size:=by rw [hn];simp
          clear hn;refine wN bq0 hbq1 ?_;intro bq1 lq1 keq1;refine bB 6 ?_;go_wp2_with (go_at_call 67;refine (bK 5 (aN hlp ((rp.below kwwl).below bq1).rdp (aN hln ((rn.below kwwl).below bq1).rdp cC)) 2 rfl (by omega) _ _ zq1).mono ?_;rintro e q2 ⟨A7,c7,rfl,r7,hbq2⟩)
          refine wN bq1 hbq2 ?_;intro bq2 lq2 keq2;refine bB 8 ?_;have hZz:=hZwl.keep bq2;obtain ⟨d0,d1,d2,e0,e1,e2,lz⟩:=dJ hZz;go_wp2_with fail
          refine aS ?_;intro q3 hn;have hZq3:Blk q3 (w.heap.size+1) (Ro 5 0 A7 2 c7):=by rw [hn];exact ((hZz.set_ 0 _).set_ 1 _).set_ 2 _
          have rq3:Rd q3 A7 0 [.mk k9 np sp,.mk kn nn sn]:=by rw [hn];exact eB hZz hvl.out r7 _ _ _
          have kwq3:Bw w q3:=by rw [hn];exact (bP (kwwl.trans (bq2.mono kwwl.size)))
          have keq3:KE wl (w.heap.size+1) q3:=by rw [hn];exact ((keq2.set _ _).set _ _).set _ _
          clear hn d0 d1 d2 e0 e1 e2 lz;refine aQ keq3 ?_;refine cP [9] (lB:=[_]) ?_;refine gS (aD ?_);obtain ⟨d0,d1,d2,e0,e1,e2,lz⟩:=dJ hZq3;go_wp2_with fail
          refine bodyPost_ret (v:=.tuple #[.agg (Ro 5 0 A7 2 c7),.int .i64 (cX b)]) (by simp [results,results122,go_sem,d0,d1,d2]) rfl ⟨5,0,A7,2,c7,rfl,kwq3⟩
   ·have hC2:=aD (fun (A2:Option Addr) (c2:Nat) (w:World) (hrc:Rd w C 0 ctx) (hrt:Rd w As 0 ss) (hr2:Rd w A2 0 [Tm.mk 6 0 [],Tm.mk 3 0 [Tm.mk 5 0 [Tm.mk k9 n8 s8,Tm.mk 1 0 []],Tm.mk 5 0 [Tm.mk k9 n9 s9,Tm.mk 8 0 [Tm.mk 1 1 []]]]])=>cI ih ctx C cc ks ns ss As cs 3 0 [Tm.mk 6 0 [],Tm.mk 3 0 [Tm.mk 5 0 [Tm.mk k9 n8 s8,Tm.mk 1 0 []],Tm.mk 5 0 [Tm.mk k9 n9 s9,Tm.mk 8 0 [Tm.mk 1 1 []]]]] A2 c2 _ w h3 hvs hvc (by omega) hrc hrt hsz3 hr2);rcases aL hs with ⟨b,h4,rfl⟩|⟨u4,h4,hs⟩
    ·have hC3:=aD (fun (A2:Option Addr) (c2:Nat) (w:World) (hrc:Rd w C 0 ctx) (hrt:Rd w An 0 sn) (hr2:Rd w A2 0 [])=>cI ih ctx C cc kn nn sn An cn 6 0 [] A2 c2 _ w h4 hvn hvc (by omega) hrc hrt (by simp [aG]) hr2);have qb:=gK b;clear hs h1 h2 h3 h4 hvp hvz hvs hvn hvc ih;go_enter func122,ntmps122;go_upto_region 5 with (first
      | (go_at_call 151;have _t:=tok;refine (hF.out _ (hrc.below kw2) (rp.below kw2) Rd.nil).mono ?_;rintro e w3 ⟨he,hb3⟩;obtain rfl:e = .returned (.int .i64 0):=he;have hTw3:=hT2.keep hb3;have hZw3:=hZ2.keep hb3;have hPw3:=hP2.keep hb3;have hNw3:=hN2.keep hb3;have kww3:=kw2.trans (hb3.mono kw2.size);clear y0 y1 y2)
      | (go_at_call 55;refine (cG _ _ _).mono ?_;rintro e w1 ⟨rfl,hb1⟩;have hT1:Blk w1 w.heap.size (Ro k n (some ⟨bk,ok,none⟩) 4 c):=(((aC w 32 (Ro k n (some ⟨bk,ok,none⟩) 4 c) rfl).alloc _).alloc _).keep hb1;have hZ1:Blk w1 (w.heap.size+1) Zr:=((aC _ 32 Zr (by simp)).alloc _).keep hb1;have hP1:Blk w1 (w.heap.size+1+1) (Ro k9 np Ap sp.length cp):=(aC _ 32 (Ro k9 np Ap sp.length cp) (by simp)).keep hb1;have kw1:Bw w w1:=bU bw3 hb1;have hT2:=hT1.alloc (.cells (Ro 6 0 none 0 0) 32);have hZ2:=hZ1.alloc (.cells (Ro 6 0 none 0 0) 32);have hP2:=hP1.alloc (.cells (Ro 6 0 none 0 0) 32);have kw2:=kw1.alloc kw1.size (.cells (Ro 6 0 none 0 0) 32);have hN2:=aC w1 32 (Ro 6 0 none 0 0) rfl;obtain ⟨y0,y1,y2⟩:=hP2.three;have tok:=trivial))
     refine aOz hTw3 hZw3 hPw3 hNw3 kww3 ?_;intro wx hTwx hZwx hPwx hNwx kwwx;have v2:=aF hTwx.three.2.2;obtain ⟨y0,y1,y2⟩:=jR hPwx;obtain ⟨uz1,uz2,uz3⟩:=iG kwwx z1 z2 z3;refine eT wx [10] [0,1,2,3,4,5] 11 5 (lT:=[_,_,_,_,_,_]) ?_;intro q0 bq0;refine bZ (aD ?_);refine bB 6 ?_
     ·go_wp2_with (go_at_call 55;refine (cG _ _ _).mono ?_;rintro e q1 ⟨rfl,hbq1⟩)
      refine aX bq0 hbq1 ?_;intro bq1 lq1;refine bB 7 ?_
      ·go_wp2_with fail
       refine aS ?_;intro q2 hn;have hbq2:Bw q1 q2:=by rw [hn];exact bw1
       have zq2:Blk q2 q1.heap.size #[.int .i64 k9,.int .i64 np,.slice Ap sp.length cp,.int .i64 7,.int .i64 0,.slice none 0 0]:=by rw [hn];exact aC _ 32 _ rfl
       have seq2:q1.heap.size<q2.heap.size:=by rw [hn];simp
       clear hn;refine aX bq1 hbq2 ?_;intro bq2 lq2;refine bB 8 ?_
       ·go_wp2_with (go_at_call 67;refine (bK 5 (aN hlp ((rp.below kwwx).below bq2).rdp (aN (ks:=[]) (by simp) (Rd.nil (w:=q2)).rdp cC)) 2 rfl (by omega) _ _ zq2).mono ?_;rintro e q3 ⟨A6,c6,rfl,r6,hbq3⟩)
        refine aX bq2 hbq3 ?_;intro bq3 lq3;refine bB 9 ?_
        ·go_wp2_with (go_at_call 57;refine (hC1.out _ _ _ ((hrc.below kwwx).below bq3) ((rz.below kwwx).below bq3) r6).mono ?_;rintro e q4 ⟨he,hbq4⟩;obtain rfl:e = .returned (.int .i64 0):=he)
         refine aX bq3 hbq4 ?_;intro bq4 lq4;refine cP [10] (lB:=[_]) ?_;refine gS (aD ?_);have hTq4:=hTwx.keep bq4;have hZq4:=hZwx.keep bq4;have hPq4:=hPwx.keep bq4;have hNq4:=hNwx.keep bq4;have kwq4:=kwwx.trans (bq4.mono kwwx.size);have kwxq4:=bq4;go_upto_region 7 with fail
         refine aQe hTq4 hZq4 hPq4 hNq4 kwq4 kwxq4 ?_;intro wu hTwu hZwu hPwu hNwu kwwu kwxwu;clear v2 y0 y1 y2 uz1 uz2 uz3;have v2:=aF hTwu.three.2.2;obtain ⟨y0,y1,y2⟩:=jR hPwu;obtain ⟨us1,us2,us3⟩:=iG kwwu s1 s2 s3;refine eT wu [8] [0,1,2,3,4,5] 9 3 (lT:=[_,_,_,_,_,_]) ?_;intro q0 bq0;refine bZ (aD ?_);refine bB 6 ?_
         ·go_wp2_with (go_at_call 152;refine (hT9.out _ ((rp.below kwwu).below bq0)).mono ?_;rintro e q1 ⟨A8,c8,rfl,hl8,r8,hbq1⟩)
          refine aX bq0 hbq1 ?_;intro bq1 lq1;refine bB 7 ?_
          ·go_wp2_with (go_at_call 57;refine (hC2.out _ _ _ ((hrc.below kwwu).below bq1) ((rs.below kwwu).below bq1) r8).mono ?_;rintro e q2 ⟨he,hbq2⟩;obtain rfl:e = .returned (.int .i64 0):=he)
           refine aX bq1 hbq2 ?_;intro bq2 lq2;refine cP [8] (lB:=[_]) ?_;refine gS (aD ?_);have hTq2:=hTwu.keep bq2;have hZq2:=hZwu.keep bq2;have hPq2:=hPwu.keep bq2;have hNq2:=hNwu.keep bq2;have kwq2:=kwwu.trans (bq2.mono kwwu.size);have kwxq2:=kwxwu.trans (bq2.mono kwxwu.size);have kwuq2:=bq2;go_upto_region 9 with fail
           refine aTu hTq2 hZq2 hPq2 hNq2 kwq2 kwxq2 kwuq2 ?_;intro wv hTwv hZwv hPwv hNwv kwwv kwxwv kwuwv;clear v2 y0 y1 y2 us1 us2 us3;have v2:=aF hTwv.three.2.2;obtain ⟨y0,y1,y2⟩:=jR hNwv;obtain ⟨un1,un2,un3⟩:=iG kwwv n1 n2 n3;refine eT wv [7] [0,1,2,3,4,5] 8 2 (lT:=[_,_,_,_,_,_]) ?_;intro q0 bq0;refine bZ (aD ?_);refine bB 6 ?_
           ·go_wp2_with (go_at_call 57;refine (hC3.out _ _ _ ((hrc.below kwwv).below bq0) ((rn.below kwwv).below bq0) Rd.nil).mono ?_;rintro e q1 ⟨he,hbq1⟩;obtain rfl:e = .returned (.int .i64 (cX b)):=he)
            refine aX bq0 hbq1 ?_;intro bq1 lq1;refine cP [7] (lB:=[_]) ?_;refine gS (aD ?_);have hTq1:=hTwv.keep bq1;have hZq1:=hZwv.keep bq1;have hPq1:=hPwv.keep bq1;have hNq1:=hNwv.keep bq1;have kwq1:=kwwv.trans (bq1.mono kwwv.size);have kwxq1:=kwxwv.trans (bq1.mono kwxwv.size);have kwuq1:=kwuwv.trans (bq1.mono kwuwv.size);have kwvq1:=bq1;go_upto_region 10 with fail
            refine aUp hTq1 hZq1 hPq1 hNq1 kwq1 kwxq1 kwuq1 kwvq1 ?_;intro wl hTwl hZwl hPwl hNwl kwwl kwxwl kwuwl kwvwl;have lPz:=hPwl.lt;have lZz:=hZwl.lt;have nz0:bk≠(w.heap.size+1):=by omega
            have nz1:w.heap.size≠(w.heap.size+1):=by omega
            have nz2:(w.heap.size+1+1)≠(w.heap.size+1):=by omega
            have lv:=dW (z:=(w.heap.size+1)) hTwl.three.2.2 nz1;obtain ⟨lp0,lp1,lp2⟩:=rkB hPwl nz2;obtain ⟨ln1,ln2,ln3⟩:=rk3 kwwl nz0 n1 n2 n3;refine gBk wl (w.heap.size+1) [9] [0,1,2,3,4,7] 10 4 (lT:=[_,_,_,_,_,_]) ?_;intro q0 bq0 keq0;refine bZ (aD ?_);refine bB 5 ?_;go_wp2_with fail
            refine aS ?_;intro q1 hn;have hbq1:Bw q0 q1:=by rw [hn];exact bw1
            have zq1:Blk q1 q0.heap.size #[.int .i64 k9,.int .i64 np,.slice Ap sp.length cp,.int .i64 kn,.int .i64 nn,.slice An sn.length cn]:=by rw [hn];exact aC _ 32 _ rfl
            have seq1:q0.heap.size<q1.heap.size:=by rw [hn];simp
            clear hn;refine wN bq0 hbq1 ?_;intro bq1 lq1 keq1;refine bB 6 ?_;go_wp2_with (go_at_call 67;refine (bK 5 (aN hlp ((rp.below kwwl).below bq1).rdp (aN hln ((rn.below kwwl).below bq1).rdp cC)) 2 rfl (by omega) _ _ zq1).mono ?_;rintro e q2 ⟨A7,c7,rfl,r7,hbq2⟩)
            refine wN bq1 hbq2 ?_;intro bq2 lq2 keq2;refine bB 8 ?_;have hZz:=hZwl.keep bq2;obtain ⟨d0,d1,d2,e0,e1,e2,lz⟩:=dJ hZz;go_wp2_with fail
            refine aS ?_;intro q3 hn;have hZq3:Blk q3 (w.heap.size+1) (Ro 5 0 A7 2 c7):=by rw [hn];exact ((hZz.set_ 0 _).set_ 1 _).set_ 2 _
            have rq3:Rd q3 A7 0 [.mk k9 np sp,.mk kn nn sn]:=by rw [hn];exact eB hZz hvl.out r7 _ _ _
            have kwq3:Bw w q3:=by rw [hn];exact (bP (kwwl.trans (bq2.mono kwwl.size)))
            have keq3:KE wl (w.heap.size+1) q3:=by rw [hn];exact ((keq2.set _ _).set _ _).set _ _
            clear hn d0 d1 d2 e0 e1 e2 lz;refine aQ keq3 ?_;refine cP [9] (lB:=[_]) ?_;refine gS (aD ?_);obtain ⟨d0,d1,d2,e0,e1,e2,lz⟩:=dJ hZq3;go_wp2_with fail
            refine bodyPost_ret (v:=.tuple #[.agg (Ro 5 0 A7 2 c7),.int .i64 (cX b)]) (by simp [results,results122,go_sem,d0,d1,d2]) rfl ⟨5,0,A7,2,c7,rfl,kwq3⟩
    ·have hC3:=aD (fun (A2:Option Addr) (c2:Nat) (w:World) (hrc:Rd w C 0 ctx) (hrt:Rd w An 0 sn) (hr2:Rd w A2 0 [])=>cI ih ctx C cc kn nn sn An cn 6 0 [] A2 c2 _ w h4 hvn hvc (by omega) hrc hrt (by simp [aG]) hr2);injection hs with hs;subst hs;clear h1 h2 h3 h4 hvp hvz hvs hvn hvc ih;go_enter func122,ntmps122;go_upto_region 5 with (first
      | (go_at_call 151;have _t:=tok;refine (hF.out _ (hrc.below kw2) (rp.below kw2) Rd.nil).mono ?_;rintro e w3 ⟨he,hb3⟩;obtain rfl:e = .returned (.int .i64 0):=he;have hTw3:=hT2.keep hb3;have hZw3:=hZ2.keep hb3;have hPw3:=hP2.keep hb3;have hNw3:=hN2.keep hb3;have kww3:=kw2.trans (hb3.mono kw2.size);clear y0 y1 y2)
      | (go_at_call 55;refine (cG _ _ _).mono ?_;rintro e w1 ⟨rfl,hb1⟩;have hT1:Blk w1 w.heap.size (Ro k n (some ⟨bk,ok,none⟩) 4 c):=(((aC w 32 (Ro k n (some ⟨bk,ok,none⟩) 4 c) rfl).alloc _).alloc _).keep hb1;have hZ1:Blk w1 (w.heap.size+1) Zr:=((aC _ 32 Zr (by simp)).alloc _).keep hb1;have hP1:Blk w1 (w.heap.size+1+1) (Ro k9 np Ap sp.length cp):=(aC _ 32 (Ro k9 np Ap sp.length cp) (by simp)).keep hb1;have kw1:Bw w w1:=bU bw3 hb1;have hT2:=hT1.alloc (.cells (Ro 6 0 none 0 0) 32);have hZ2:=hZ1.alloc (.cells (Ro 6 0 none 0 0) 32);have hP2:=hP1.alloc (.cells (Ro 6 0 none 0 0) 32);have kw2:=kw1.alloc kw1.size (.cells (Ro 6 0 none 0 0) 32);have hN2:=aC w1 32 (Ro 6 0 none 0 0) rfl;obtain ⟨y0,y1,y2⟩:=hP2.three;have tok:=trivial))
     refine aOz hTw3 hZw3 hPw3 hNw3 kww3 ?_;intro wx hTwx hZwx hPwx hNwx kwwx;have v2:=aF hTwx.three.2.2;obtain ⟨y0,y1,y2⟩:=jR hPwx;obtain ⟨uz1,uz2,uz3⟩:=iG kwwx z1 z2 z3;refine eT wx [10] [0,1,2,3,4,5] 11 5 (lT:=[_,_,_,_,_,_]) ?_;intro q0 bq0;refine bZ (aD ?_);refine bB 6 ?_
     ·go_wp2_with (go_at_call 55;refine (cG _ _ _).mono ?_;rintro e q1 ⟨rfl,hbq1⟩)
      refine aX bq0 hbq1 ?_;intro bq1 lq1;refine bB 7 ?_
      ·go_wp2_with fail
       refine aS ?_;intro q2 hn;have hbq2:Bw q1 q2:=by rw [hn];exact bw1
       have zq2:Blk q2 q1.heap.size #[.int .i64 k9,.int .i64 np,.slice Ap sp.length cp,.int .i64 7,.int .i64 0,.slice none 0 0]:=by rw [hn];exact aC _ 32 _ rfl
       have seq2:q1.heap.size<q2.heap.size:=by rw [hn];simp
       clear hn;refine aX bq1 hbq2 ?_;intro bq2 lq2;refine bB 8 ?_
       ·go_wp2_with (go_at_call 67;refine (bK 5 (aN hlp ((rp.below kwwx).below bq2).rdp (aN (ks:=[]) (by simp) (Rd.nil (w:=q2)).rdp cC)) 2 rfl (by omega) _ _ zq2).mono ?_;rintro e q3 ⟨A6,c6,rfl,r6,hbq3⟩)
        refine aX bq2 hbq3 ?_;intro bq3 lq3;refine bB 9 ?_
        ·go_wp2_with (go_at_call 57;refine (hC1.out _ _ _ ((hrc.below kwwx).below bq3) ((rz.below kwwx).below bq3) r6).mono ?_;rintro e q4 ⟨he,hbq4⟩;obtain rfl:e = .returned (.int .i64 0):=he)
         refine aX bq3 hbq4 ?_;intro bq4 lq4;refine cP [10] (lB:=[_]) ?_;refine gS (aD ?_);have hTq4:=hTwx.keep bq4;have hZq4:=hZwx.keep bq4;have hPq4:=hPwx.keep bq4;have hNq4:=hNwx.keep bq4;have kwq4:=kwwx.trans (bq4.mono kwwx.size);have kwxq4:=bq4;go_upto_region 7 with fail
         refine aQe hTq4 hZq4 hPq4 hNq4 kwq4 kwxq4 ?_;intro wu hTwu hZwu hPwu hNwu kwwu kwxwu;clear v2 y0 y1 y2 uz1 uz2 uz3;have v2:=aF hTwu.three.2.2;obtain ⟨y0,y1,y2⟩:=jR hPwu;obtain ⟨us1,us2,us3⟩:=iG kwwu s1 s2 s3;refine eT wu [8] [0,1,2,3,4,5] 9 3 (lT:=[_,_,_,_,_,_]) ?_;intro q0 bq0;refine bZ (aD ?_);refine bB 6 ?_
         ·go_wp2_with (go_at_call 152;refine (hT9.out _ ((rp.below kwwu).below bq0)).mono ?_;rintro e q1 ⟨A8,c8,rfl,hl8,r8,hbq1⟩)
          refine aX bq0 hbq1 ?_;intro bq1 lq1;refine bB 7 ?_
          ·go_wp2_with (go_at_call 57;refine (hC2.out _ _ _ ((hrc.below kwwu).below bq1) ((rs.below kwwu).below bq1) r8).mono ?_;rintro e q2 ⟨he,hbq2⟩;obtain rfl:e = .returned (.int .i64 0):=he)
           refine aX bq1 hbq2 ?_;intro bq2 lq2;refine cP [8] (lB:=[_]) ?_;refine gS (aD ?_);have hTq2:=hTwu.keep bq2;have hZq2:=hZwu.keep bq2;have hPq2:=hPwu.keep bq2;have hNq2:=hNwu.keep bq2;have kwq2:=kwwu.trans (bq2.mono kwwu.size);have kwxq2:=kwxwu.trans (bq2.mono kwxwu.size);have kwuq2:=bq2;go_upto_region 9 with fail
           refine aTu hTq2 hZq2 hPq2 hNq2 kwq2 kwxq2 kwuq2 ?_;intro wv hTwv hZwv hPwv hNwv kwwv kwxwv kwuwv;clear v2 y0 y1 y2 us1 us2 us3;have v2:=aF hTwv.three.2.2;obtain ⟨y0,y1,y2⟩:=jR hNwv;obtain ⟨un1,un2,un3⟩:=iG kwwv n1 n2 n3;refine eT wv [7] [0,1,2,3,4,5] 8 2 (lT:=[_,_,_,_,_,_]) ?_;intro q0 bq0;refine bZ (aD ?_);refine bB 6 ?_
           ·go_wp2_with (go_at_call 57;refine (hC3.out _ _ _ ((hrc.below kwwv).below bq0) ((rn.below kwwv).below bq0) Rd.nil).mono ?_;rintro e q1 ⟨he,hbq1⟩;obtain rfl:e = .returned (.int .i64 0):=he)
            refine aX bq0 hbq1 ?_;intro bq1 lq1;refine cP [7] (lB:=[_]) ?_;refine gS (aD ?_);have hTq1:=hTwv.keep bq1;have hZq1:=hZwv.keep bq1;have hPq1:=hPwv.keep bq1;have hNq1:=hNwv.keep bq1;have kwq1:=kwwv.trans (bq1.mono kwwv.size);have kwxq1:=kwxwv.trans (bq1.mono kwxwv.size);have kwuq1:=kwuwv.trans (bq1.mono kwuwv.size);have kwvq1:=bq1;go_upto_region 10 with fail
            refine aUp hTq1 hZq1 hPq1 hNq1 kwq1 kwxq1 kwuq1 kwvq1 ?_;intro wl hTwl hZwl hPwl hNwl kwwl kwxwl kwuwl kwvwl;have lPz:=hPwl.lt;have lZz:=hZwl.lt;have nz0:bk≠(w.heap.size+1):=by omega
            have nz1:w.heap.size≠(w.heap.size+1):=by omega
            have nz2:(w.heap.size+1+1)≠(w.heap.size+1):=by omega
            have lv:=dW (z:=(w.heap.size+1)) hTwl.three.2.2 nz1;obtain ⟨lp0,lp1,lp2⟩:=rkB hPwl nz2;obtain ⟨ln1,ln2,ln3⟩:=rk3 kwwl nz0 n1 n2 n3;refine gBk wl (w.heap.size+1) [9] [0,1,2,3,4,7] 10 4 (lT:=[_,_,_,_,_,_]) ?_;intro q0 bq0 keq0;refine bZ (aD ?_);refine bB 5 ?_;go_wp2_with fail
            refine aS ?_;intro q1 hn;have hbq1:Bw q0 q1:=by rw [hn];exact bw1
            have zq1:Blk q1 q0.heap.size #[.int .i64 k9,.int .i64 np,.slice Ap sp.length cp,.int .i64 kn,.int .i64 nn,.slice An sn.length cn]:=by rw [hn];exact aC _ 32 _ rfl
            have seq1:q0.heap.size<q1.heap.size:=by rw [hn];simp
            clear hn;refine wN bq0 hbq1 ?_;intro bq1 lq1 keq1;refine bB 6 ?_;go_wp2_with (go_at_call 67;refine (bK 5 (aN hlp ((rp.below kwwl).below bq1).rdp (aN hln ((rn.below kwwl).below bq1).rdp cC)) 2 rfl (by omega) _ _ zq1).mono ?_;rintro e q2 ⟨A7,c7,rfl,r7,hbq2⟩)
            refine wN bq1 hbq2 ?_;intro bq2 lq2 keq2;refine bB 8 ?_;have hZz:=hZwl.keep bq2;obtain ⟨d0,d1,d2,e0,e1,e2,lz⟩:=dJ hZz;go_wp2_with fail
            refine aS ?_;intro q3 hn;have hZq3:Blk q3 (w.heap.size+1) (Ro 5 0 A7 2 c7):=by rw [hn];exact ((hZz.set_ 0 _).set_ 1 _).set_ 2 _
            have rq3:Rd q3 A7 0 [.mk k9 np sp,.mk kn nn sn]:=by rw [hn];exact eB hZz hvl.out r7 _ _ _
            have kwq3:Bw w q3:=by rw [hn];exact (bP (kwwl.trans (bq2.mono kwwl.size)))
            have keq3:KE wl (w.heap.size+1) q3:=by rw [hn];exact ((keq2.set _ _).set _ _).set _ _
            clear hn d0 d1 d2 e0 e1 e2 lz;refine aQ keq3 ?_;refine cP [9] (lB:=[_]) ?_;refine gS (aD ?_);obtain ⟨d0,d1,d2,e0,e1,e2,lz⟩:=dJ hZq3;go_wp2_with fail
            refine bodyPost_ret (v:=.tuple #[.agg (Ro 5 0 A7 2 c7),.int .i64 0]) (by simp [results,results122,go_sem,d0,d1,d2]) rfl ⟨A7,c7,rfl,by simp,rq3,kwq3⟩
theorem zK {N:Nat}(ctx:List Tm)(C:Option Addr)(cc:Nat)(n:Int)(A:Option Addr)(c:Nat)(k:Int)(ks:List Tm)(r:Rs Tm)(w:World)(hn:0≤n∧n≤20)(hk:k=2∨k=6∨k=7)(hs:dQ (bH N) ctx (.mk k n ks)=some r) :
  Calls prog 126 #[.slice C ctx.length cc,.agg (Ro k n A ks.length c)] w (oS w r):=by
 have kz:IntKind.i64.wrap (n+1)=n+1:=IntWalk.i64_in _ (by omega);have kz2:wrap64 (n+1)=n+1:=IntWalk.wrap64_in _ (by omega);rcases hk with rfl|rfl|rfl
 ·simp only [dQ,Int.reduceEq,if_false,if_true,or_self,false_or,or_false] at hs
  by_cases h3:3≤n
  ·rw [if_pos h3] at hs;injection hs with hs;subst hs;have q3:decide (3≤n)=true:=decide_eq_true h3;go_enter func126,ntmps126;go_wp2_with fail
   have gB:Bw w ((w.alloc (.cells (Ro 2 n A ks.length c) 32)).alloc (.cells Zr 32)):=bw2;refine bodyPost_ret (v:=.tuple #[.agg Zr,.int .i64 1]) (by simp [results,results126,go_sem]) rfl ⟨0,0,none,0,0,rfl,?_⟩;first
    | exact gB
    | exact ((gB.setCell (by simp<;>omega) _).setCell (by simp<;>omega) _).setCell (by simp<;>omega) _
  ·rw [if_neg h3] at hs;injection hs with hs;subst hs;have q3:decide (3≤n)=false:=decide_eq_false h3;go_enter func126,ntmps126;go_wp2_with (go_at_call 55;refine (cG _ _ _).mono ?_;rintro e w1 ⟨rfl,hb1⟩;have hZ1:Blk w1 (w.heap.size+1) Zr:=(aC _ 32 Zr (by simp)).keep hb1;have g1:Bw w w1:=bU bw2 hb1;obtain ⟨d0,d1,d2,e0,e1,e2,lz⟩:=dJ hZ1)
   refine bodyPost_ret (v:=.tuple #[.agg (Ro 2 (n+1) none 0 0),.int .i64 0]) (by simp [results,results126,go_sem,d0,d1,d2]) rfl ⟨none,0,rfl,by simp,Rd.nil,?_⟩;exact bP g1
 ·simp only [dQ,Int.reduceEq,if_false,if_true,or_self,false_or,or_false] at hs
  injection hs with hs;subst hs;go_enter func126,ntmps126;go_wp2_with (go_at_call 55;refine (cG _ _ _).mono ?_;rintro e w1 ⟨rfl,hb1⟩;have hZ1:Blk w1 (w.heap.size+1) Zr:=(aC _ 32 Zr (by simp)).keep hb1;have g1:Bw w w1:=bU bw2 hb1;obtain ⟨d0,d1,d2,e0,e1,e2,lz⟩:=dJ hZ1)
  refine bodyPost_ret (v:=.tuple #[.agg (Ro 2 0 none 0 0),.int .i64 0]) (by simp [results,results126,go_sem,d0,d1,d2]) rfl ⟨none,0,rfl,by simp,Rd.nil,?_⟩;exact bP g1
 ·simp only [dQ,Int.reduceEq,if_false,if_true,or_self,false_or,or_false] at hs
  injection hs with hs;subst hs;go_enter func126,ntmps126;go_wp2_with (go_at_call 55;refine (cG _ _ _).mono ?_;rintro e w1 ⟨rfl,hb1⟩;have hZ1:Blk w1 (w.heap.size+1) Zr:=(aC _ 32 Zr (by simp)).keep hb1;have g1:Bw w w1:=bU bw2 hb1;obtain ⟨d0,d1,d2,e0,e1,e2,lz⟩:=dJ hZ1)
  refine bodyPost_ret (v:=.tuple #[.agg (Ro 6 0 none 0 0),.int .i64 0]) (by simp [results,results126,go_sem,d0,d1,d2]) rfl ⟨none,0,rfl,by simp,Rd.nil,?_⟩;exact bP g1
theorem aAn (ctx:List Tm)(C:Option Addr)(cc:Nat)(n:Int)(A:Option Addr)(c:Nat)(ks:List Tm)(r:Rs Tm)(w:World)(hn:0≤n∧n≤20)(hvc:∀u,u∈ctx→aE u=true)(hm:ctx.length≤20)(hs:aBu ctx n=some r)(hrc:Rd w C 0 ctx) :
  Calls prog 126 #[.slice C ctx.length cc,.agg (Ro 1 n A ks.length c)] w (oS w r):=by
 unfold aBu at hs
 by_cases hx:(ctx.length:Int)≤n
 ·rw [if_pos hx] at hs;injection hs with hs;subst hs;have q:decide ((ctx.length:Int)≤n)=true:=decide_eq_true hx;go_enter func126,ntmps126;go_wp2_with fail
  have gB:Bw w ((w.alloc (.cells (Ro 1 n A ks.length c) 32)).alloc (.cells Zr 32)):=bw2;refine bodyPost_ret (v:=.tuple #[.agg Zr,.int .i64 1]) (by simp [results,results126,go_sem]) rfl ⟨0,0,none,0,0,rfl,?_⟩;first
   | exact gB
   | exact ((gB.setCell (by simp<;>omega) _).setCell (by simp<;>omega) _).setCell (by simp<;>omega) _
 ·rw [if_neg hx] at hs;injection hs with hs;have q:decide ((ctx.length:Int)≤n)=false:=decide_eq_false hx;obtain ⟨m,rfl⟩:∃m:Nat,n=(m:Int):=⟨n.toNat,by omega⟩;rw [Int.toNat_natCast] at hs;obtain ⟨j,hj⟩:∃j,ctx.length - 1 - m=j:=⟨_,rfl⟩;have hjl:j<ctx.length:=by omega
  rw [hj] at hs;obtain ⟨bx,ox,kx,nx,sx,Ax,cx,rfl,hkj,x1,x2,x3,hlx,rx⟩:=hrc.at_ hjl;have hvx:aE (.mk kx nx sx)=true:=by rw [← hkj];exact hvc _ (iC hjl)
  rw [show ctx.getD j default = .mk kx nx sx by rw [← hkj];simp [List.getD,qR hjl]] at hs;have hszx:=aH hvx;obtain ⟨k5,n5,s5,h5⟩:=jF (bT ((m:Int)+1) 0 (.mk kx nx sx));rw [h5] at hs;subst hs;have hS:=aD (show ∀(w:World) (hr:Rd w Ax 0 sx),Calls prog 29 #[.agg (Ro kx nx Ax sx.length cx),.int .i64 ((m:Int)+1),.int .i64 0] w (qU w k5 n5 s5) from fun w hr=>by
   have:=gN _ kx nx sx Ax cx ((m:Int)+1) 0 30 w (oH _) (by omega) (aY hvx) (by omega) (by omega) (by omega) hr;rw [bT] at h5;injection h5 with e1 e2 e3;subst e1;rw [e2,e3] at this;exact this)
  have k1:IntKind.i64.wrap ((ctx.length:Int) - 1)=(ctx.length:Int) - 1:=IntWalk.i64_in _ (by omega);have k2:IntKind.i64.wrap ((ctx.length:Int) - 1 - (m:Int))=(j:Int):=by rw [IntWalk.i64_in _ (by omega)];omega
  have k3:IntKind.i64.wrap ((m:Int)+1)=(m:Int)+1:=IntWalk.i64_in _ (by omega);have k4:wrap64 ((ctx.length:Int) - 1)=(ctx.length:Int) - 1:=IntWalk.wrap64_in _ (by omega);have k5':wrap64 ((ctx.length:Int) - 1 - (m:Int))=(j:Int):=by rw [IntWalk.wrap64_in _ (by omega)];omega
  have k6:wrap64 ((m:Int)+1)=(m:Int)+1:=IntWalk.wrap64_in _ (by omega);have q2:decide (ctx.length≤m)=false:=decide_eq_false (fun h=>hx (Int.ofNat_le.2 h));have hjc:(j:Int)<(ctx.length:Int):=by omega
  clear hj h5 hkj hvc hvx hx;go_enter func126,ntmps126;go_upto_region 5 with fail
  refine sT (show Blk _ w.heap.size (Ro 1 (m:Int) A ks.length c) from ((aC w 32 _ rfl).alloc _)) (show Blk _ (w.heap.size+1) Zr from (aC _ 32 _ (by simp))) bw2 ?_;intro wx hTwx hZwx kwwx;have v1:=aF hTwx.three.2.1;obtain ⟨ux1,ux2,ux3⟩:=iG kwwx x1 x2 x3;refine eT wx [13,14] [0,1,4,5,9,10,11] 15 8 (lT:=[_,_,_,_,_,_,_]) ?_;intro q0 bq0;refine bZ (aD ?_);refine bB 2 ?_;go_wp2_with fail
  refine aQ bq0 ?_;refine aAd [3,6,7,8] (f:=3) (l':=#[true,true,true,true,true,true,true,true,true,true,true,true,false,false,false]) (lT:=[_,_,_,_]) bq0 rfl (by kernel_rfl) (by kernel_rfl) (by kernel_rfl) rfl (fun _ _ d _ _ h=>by cases d<;>exact h) ?_;refine bZ (aD ?_);refine bB 12 ?_;go_wp2_with (go_at_call 29;refine (hS.out _ ((rx.below kwwx).below bq0)).mono ?_;rintro e q1 ⟨A5,c5,rfl,hl5,hf5,hbq1⟩)
  have bq1:Bw wx q1:=bq0.trans (hbq1.mono bq0.size);refine aQ bq1 ?_;refine cP [13,14] (lB:=[_,_]) ?_;refine gS (aD ?_);have hZ5:=hZwx.keep bq1;have g5:=kwwx.trans (bq1.mono kwwx.size);obtain ⟨d0,d1,d2,e0,e1,e2,lz⟩:=dJ hZ5;have lz0:=hZwx.lt;have s0:=bq0.size;go_wp2_with fail
  refine bodyPost_ret (v:=.tuple #[.agg (Ro k5 n5 A5 s5.length c5),.int .i64 0]) (by simp [results,results126,go_sem,d0,d1,d2]) rfl ⟨A5,c5,rfl,hl5,?_,?_⟩
  ·exact (tT hf5).rd
  ·exact bP g5
theorem aBc {N:Nat}(ih:nD N)(ctx:List Tm)(C:Option Addr)(cc:Nat)(n:Int)(A:Option Addr)(c:Nat)(ka na:Int)(sa:List Tm)(r:Rs Tm)(w:World)(hs:aRs (bH N) ctx (.mk ka na sa)=some r)(hva:aE (.mk ka na sa)=true)(hvc:∀u,u∈ctx→aE u=true)(hm:ctx.length≤20)(hrc:Rd w C 0 ctx)(hr:Rd w A 0 [.mk ka na sa]) :
  Calls prog 126 #[.slice C ctx.length cc,.agg (Ro 8 n A 1 c)] w (oS w r):=by
 obtain ⟨bk,ok,Aa,ca,rfl,a1,a2,a3,hla,ra⟩:=oJ hr;simp only [Nat.zero_mul,Nat.add_zero,Nat.one_mul,Nat.reduceMul] at a1 a2 a3
 have lbp:=mI _ _ a1;rcases aL hs with ⟨b,h1,rfl⟩|⟨u1,h1,hs⟩
 ·replace h1:jU (bH N) ctx (.mk ka na sa) (.mk 6 0 [])=_:=h1;have hC:=aD (fun (A2:Option Addr) (c2:Nat) (w:World) (hrc:Rd w C 0 ctx) (hrt:Rd w Aa 0 sa) (hr2:Rd w A2 0 [])=>cI ih ctx C cc ka na sa Aa ca 6 0 [] A2 c2 _ w h1 hva hvc (by omega) hrc hrt (by simp [aG]) hr2);have qb:=gK b;clear hs h1 hva hvc ih;go_enter func126,ntmps126;go_upto_region 15 with fail
  refine sT (show Blk _ w.heap.size (Ro 8 n (some ⟨bk,ok,none⟩) 1 c) from ((aC w 32 _ rfl).alloc _)) (show Blk _ (w.heap.size+1) Zr from (aC _ 32 _ (by simp))) bw2 ?_;intro wx hTwx hZwx kwwx;have v2:=aF hTwx.three.2.2;obtain ⟨ua1,ua2,ua3⟩:=iG kwwx a1 a2 a3;refine eT wx [8,9] [1,2,3,4,5] 10 5 (lT:=[_,_,_,_,_]) ?_;intro q0 bq0;refine bZ (aD ?_);refine bB 0 ?_
  ·go_wp2_with (go_at_call 55;refine (cG _ _ _).mono ?_;rintro e q1 ⟨rfl,hbq1⟩)
   refine aX bq0 hbq1 ?_;intro bq1 lq1;refine bB 6 ?_
   ·go_wp2_with (go_at_call 55;refine (cG _ _ _).mono ?_;rintro e q2 ⟨rfl,hbq2⟩)
    refine aX bq1 hbq2 ?_;intro bq2 lq2;refine bB 7 ?_
    ·go_wp2_with (go_at_call 57;refine (hC.out none 0 _ ((hrc.below kwwx).below bq2) ((ra.below kwwx).below bq2) Rd.nil).mono ?_;rintro e q3 ⟨he,hbq3⟩;obtain rfl:e = .returned (.int .i64 (cX b)):=he)
     refine aX bq2 hbq3 ?_;intro bq3 lq3;refine cP [8,9] (lB:=[_,_]) ?_;refine gS (aD ?_);have hTq3:=hTwx.keep bq3;have hZq3:=hZwx.keep bq3;have kwq3:=kwwx.trans (bq3.mono kwwx.size);have kwxq3:=bq3;obtain ⟨d0,d1,d2,e0,e1,e2,lz⟩:=dJ hZq3;go_wp2_with fail
     refine bodyPost_ret (v:=.tuple #[.agg (Ro 6 0 none 0 0),.int .i64 (cX b)]) (by simp [results,results126,go_sem,d0,d1,d2]) rfl ⟨6,0,none,0,0,rfl,?_⟩;exact ((kwq3.setCell (by simp<;>omega) _).setCell (by simp<;>omega) _).setCell (by simp<;>omega) _
 ·replace h1:jU (bH N) ctx (.mk ka na sa) (.mk 6 0 [])=_:=h1;have hC:=aD (fun (A2:Option Addr) (c2:Nat) (w:World) (hrc:Rd w C 0 ctx) (hrt:Rd w Aa 0 sa) (hr2:Rd w A2 0 [])=>cI ih ctx C cc ka na sa Aa ca 6 0 [] A2 c2 _ w h1 hva hvc (by omega) hrc hrt (by simp [aG]) hr2);injection hs with hs;subst hs;clear h1 hva hvc ih;go_enter func126,ntmps126;go_upto_region 15 with fail
  refine sT (show Blk _ w.heap.size (Ro 8 n (some ⟨bk,ok,none⟩) 1 c) from ((aC w 32 _ rfl).alloc _)) (show Blk _ (w.heap.size+1) Zr from (aC _ 32 _ (by simp))) bw2 ?_;intro wx hTwx hZwx kwwx;have v2:=aF hTwx.three.2.2;obtain ⟨ua1,ua2,ua3⟩:=iG kwwx a1 a2 a3;refine eT wx [8,9] [1,2,3,4,5] 10 5 (lT:=[_,_,_,_,_]) ?_;intro q0 bq0;refine bZ (aD ?_);refine bB 0 ?_
  ·go_wp2_with (go_at_call 55;refine (cG _ _ _).mono ?_;rintro e q1 ⟨rfl,hbq1⟩)
   refine aX bq0 hbq1 ?_;intro bq1 lq1;refine bB 6 ?_
   ·go_wp2_with (go_at_call 55;refine (cG _ _ _).mono ?_;rintro e q2 ⟨rfl,hbq2⟩)
    refine aX bq1 hbq2 ?_;intro bq2 lq2;refine bB 7 ?_
    ·go_wp2_with (go_at_call 57;refine (hC.out none 0 _ ((hrc.below kwwx).below bq2) ((ra.below kwwx).below bq2) Rd.nil).mono ?_;rintro e q3 ⟨he,hbq3⟩;obtain rfl:e = .returned (.int .i64 0):=he)
     refine aX bq2 hbq3 ?_;intro bq3 lq3;refine cP [8,9] (lB:=[_,_]) ?_;refine gS (aD ?_);have hTq3:=hTwx.keep bq3;have hZq3:=hZwx.keep bq3;have kwq3:=kwwx.trans (bq3.mono kwwx.size);have kwxq3:=bq3;obtain ⟨d0,d1,d2,e0,e1,e2,lz⟩:=dJ hZq3;go_wp2_with fail
     refine bodyPost_ret (v:=.tuple #[.agg (Ro 6 0 none 0 0),.int .i64 0]) (by simp [results,results126,go_sem,d0,d1,d2]) rfl ⟨none,0,rfl,by simp,Rd.nil,?_⟩;exact ((kwq3.setCell (by simp<;>omega) _).setCell (by simp<;>omega) _).setCell (by simp<;>omega) _
theorem zI {N:Nat}(ih:nD N)(ctx:List Tm)(C:Option Addr)(cc:Nat)(n:Int)(A:Option Addr)(c:Nat)(ka na:Int)(sa:List Tm)(r:Rs Tm)(w:World)(hs:aOy (bH N) ctx (.mk ka na sa)=some r)(hva:aE (.mk ka na sa)=true)(hvc:∀u,u∈ctx→aE u=true)(hm:ctx.length≤20)(hrc:Rd w C 0 ctx)(hr:Rd w A 0 [.mk ka na sa]) :
  Calls prog 126 #[.slice C ctx.length cc,.agg (Ro 11 n A 1 c)] w (oS w r):=by
 obtain ⟨bk,ok,Aa,ca,rfl,a1,a2,a3,hla,ra⟩:=oJ hr;simp only [Nat.zero_mul,Nat.add_zero,Nat.one_mul,Nat.reduceMul] at a1 a2 a3
 have lbp:=mI _ _ a1;rcases aL hs with ⟨b,h1,rfl⟩|⟨⟨k1,n1,s1⟩,h1,hs⟩
 ·have hI:=aD (fun (w:World) (hrc:Rd w C 0 ctx) (hra:Rd w Aa 0 sa)=>ih ctx ka na sa _ h1 hva hvc (by omega) C cc Aa ca w hrc hra);have qb:=gK b;clear hs h1 hva hvc ih;go_enter func126,ntmps126;go_upto_region 20 with (go_at_call 74;refine (hI.out _ ((hrc.alloc _).alloc _) ((ra.alloc _).alloc _)).mono ?_;rintro e w1 ⟨rfl,hb1⟩;have hTw1:Blk w1 w.heap.size (Ro 11 n (some ⟨bk,ok,none⟩) 1 c):=((aC w 32 (Ro 11 n (some ⟨bk,ok,none⟩) 1 c) rfl).alloc _).keep hb1;have hZw1:Blk w1 (w.heap.size+1) Zr:=(aC _ 32 Zr (by simp)).keep hb1;have kww1:Bw w w1:=bU bw2 hb1;have hTw2:=hTw1.alloc (.cells Zr 32);have hZw2:=hZw1.alloc (.cells Zr 32);have hGw2:=aC w1 32 Zr rfl;have kww2:=kww1.alloc kww1.size (.cells Zr 32))
  refine aRv hTw2 hZw2 hGw2 kww2 ?_;intro wl hTwl hZwl hGwl kwwl;have lTz:=hTwl.lt;have lZz:=hZwl.lt;have lGz:=hGwl.lt;have nz0:bk≠(w.heap.size+1):=by omega
  have nz1:w.heap.size≠(w.heap.size+1):=by omega
  have nz2:w1.heap.size≠(w.heap.size+1):=by have:=hZw1.lt;omega
  have lv:=dW (z:=(w.heap.size+1)) hTwl.three.2.2 nz1;obtain ⟨lg0,lg1,lg2⟩:=rkB hGwl nz2;obtain ⟨la1,la2,la3⟩:=rk3 kwwl nz0 a1 a2 a3;refine gBk wl (w.heap.size+1) [13] [0,1,2,3,4,5,6,7,8,11] 14 4 (lT:=[_,_,_,_,_,_,_,_,_,_]) ?_;intro q0 bq0 keq0;refine bZ (aD ?_);refine bB 9 ?_;go_wp2_with fail
  refine aS ?_;intro q1 hn;have hbq1:Bw q0 q1:=by rw [hn];exact bw1
  have zq1:Blk q1 q0.heap.size #[.int .i64 0,.int .i64 0,.slice none 0 0,.int .i64 ka,.int .i64 na,.slice Aa sa.length ca,.int .i64 ka,.int .i64 na,.slice Aa sa.length ca]:=by rw [hn];exact aC _ 32 _ rfl
  have seq1:q0.heap.size<q1.heap.size:=by rw [hn];simp
  clear hn;refine wN bq0 hbq1 ?_;intro bq1 lq1 keq1;refine bB 10 ?_;go_wp2_with (go_at_call 67;refine (bK 10 (aN (k:=0) (n:=0) (ks:=[]) (by simp) (Rd.nil (w:=q1)).rdp (aN hla ((ra.below kwwl).below bq1).rdp (aN hla ((ra.below kwwl).below bq1).rdp cC))) 3 rfl (by omega) _ _ zq1).mono ?_;rintro e q2 ⟨A7,c7,rfl,r7,hbq2⟩)
  refine wN bq1 hbq2 ?_;intro bq2 lq2 keq2;refine bB 12 ?_;have hZz:=hZwl.keep bq2;obtain ⟨d0,d1,d2,e0,e1,e2,lz⟩:=dJ hZz;go_wp2_with fail
  refine aS ?_;intro q3 hn;have hZq3:Blk q3 (w.heap.size+1) (Ro 10 0 A7 3 c7):=by rw [hn];exact ((hZz.set_ 0 _).set_ 1 _).set_ 2 _
  have kwq3:Bw w q3:=by rw [hn];exact (bP (kwwl.trans (bq2.mono kwwl.size)))
  have keq3:KE wl (w.heap.size+1) q3:=by rw [hn];exact ((keq2.set _ _).set _ _).set _ _
  clear hn d0 d1 d2 e0 e1 e2 lz;refine aQ keq3 ?_;refine cP [13] (lB:=[_]) ?_;refine gS (aD ?_);obtain ⟨d0,d1,d2,e0,e1,e2,lz⟩:=dJ hZq3;go_wp2_with fail
  refine bodyPost_ret (v:=.tuple #[.agg (Ro 10 0 A7 3 c7),.int .i64 (cX b)]) (by simp [results,results126,go_sem,d0,d1,d2]) rfl ⟨10,0,A7,3,c7,rfl,kwq3⟩
 ·have hI:=aD (fun (w:World) (hrc:Rd w C 0 ctx) (hra:Rd w Aa 0 sa)=>ih ctx ka na sa _ h1 hva hvc (by omega) C cc Aa ca w hrc hra);have hvl:=aD (show ∀t,t∈[.mk k1 n1 s1,.mk ka na sa,.mk ka na sa]→aE t=true from fun t ht=>by
   have hd:=cY h1;rcases List.mem_cons.1 ht with rfl|ht
   ·exact hd
   ·rcases List.mem_cons.1 ht with rfl|ht
    ·exact hva
    ·rw [List.mem_singleton.1 ht];exact hva)
  rcases aL hs with ⟨b,h2,rfl⟩|⟨l5,h2,hs⟩
  ·have hS:=aD (fun (A:Option Addr) (c:Nat) (w:World) (hrc:Rd w C 0 ctx) (hr:Rd w A 0 s1)=>dV ih ctx C cc k1 n1 s1 A c _ w h2 (cY h1) hvc (by omega) hrc hr);have qb:=gK b;clear hs h1 h2 hva hvc ih;go_enter func126,ntmps126;go_upto_region 20 with (first
    | (go_at_call 43;have _t:=tok;refine (hS.out _ _ _ (hrc.below kww2) r1w2).mono ?_;rintro e w3 ⟨l5,rfl,hb3⟩;have hTw3:=hTw2.keep hb3;have hZw3:=hZw2.keep hb3;have hGw3:=hGw2.keep hb3;have kww3:=kww2.trans (hb3.mono kww2.size);have r1q:=r1w2.below hb3)
    | (go_at_call 74;refine (hI.out _ ((hrc.alloc _).alloc _) ((ra.alloc _).alloc _)).mono ?_;rintro e w1 ⟨A1,c1,rfl,hl1,r1,hb1⟩;have hTw1:Blk w1 w.heap.size (Ro 11 n (some ⟨bk,ok,none⟩) 1 c):=((aC w 32 (Ro 11 n (some ⟨bk,ok,none⟩) 1 c) rfl).alloc _).keep hb1;have hZw1:Blk w1 (w.heap.size+1) Zr:=(aC _ 32 Zr (by simp)).keep hb1;have kww1:Bw w w1:=bU bw2 hb1;have hTw2:=hTw1.alloc (.cells (Ro k1 n1 A1 s1.length c1) 32);have hZw2:=hZw1.alloc (.cells (Ro k1 n1 A1 s1.length c1) 32);have hGw2:=aC w1 32 (Ro k1 n1 A1 s1.length c1) rfl;have kww2:=kww1.alloc kww1.size (.cells (Ro k1 n1 A1 s1.length c1) 32);have r1w2:=r1.alloc (.cells (Ro k1 n1 A1 s1.length c1) 32);obtain ⟨y0,y1,y2⟩:=hGw2.three;have tok:=trivial))
   refine aBe hTw3 hZw3 hGw3 kww3 ?_;intro wl hTwl hZwl hGwl kwwl hwwl;have rGl:Rd wl A1 0 s1:=by rw [hwwl];exact r1q
   clear hwwl;have lTz:=hTwl.lt;have lZz:=hZwl.lt;have lGz:=hGwl.lt;have nz0:bk≠(w.heap.size+1):=by omega
   have nz1:w.heap.size≠(w.heap.size+1):=by omega
   have nz2:w1.heap.size≠(w.heap.size+1):=by have:=hZw1.lt;omega
   have lv:=dW (z:=(w.heap.size+1)) hTwl.three.2.2 nz1;obtain ⟨lg0,lg1,lg2⟩:=rkB hGwl nz2;obtain ⟨la1,la2,la3⟩:=rk3 kwwl nz0 a1 a2 a3;refine gBk wl (w.heap.size+1) [13] [0,1,2,3,4,5,6,7,8,11] 14 4 (lT:=[_,_,_,_,_,_,_,_,_,_]) ?_;intro q0 bq0 keq0;refine bZ (aD ?_);refine bB 9 ?_;go_wp2_with fail
   refine aS ?_;intro q1 hn;have hbq1:Bw q0 q1:=by rw [hn];exact bw1
   have zq1:Blk q1 q0.heap.size #[.int .i64 k1,.int .i64 n1,.slice A1 s1.length c1,.int .i64 ka,.int .i64 na,.slice Aa sa.length ca,.int .i64 ka,.int .i64 na,.slice Aa sa.length ca]:=by rw [hn];exact aC _ 32 _ rfl
   have seq1:q0.heap.size<q1.heap.size:=by rw [hn];simp
   clear hn;refine wN bq0 hbq1 ?_;intro bq1 lq1 keq1;refine bB 10 ?_;go_wp2_with (go_at_call 67;refine (bK 10 (aN hl1 (rGl.below bq1).rdp (aN hla ((ra.below kwwl).below bq1).rdp (aN hla ((ra.below kwwl).below bq1).rdp cC))) 3 rfl (by omega) _ _ zq1).mono ?_;rintro e q2 ⟨A7,c7,rfl,r7,hbq2⟩)
   refine wN bq1 hbq2 ?_;intro bq2 lq2 keq2;refine bB 12 ?_;have hZz:=hZwl.keep bq2;obtain ⟨d0,d1,d2,e0,e1,e2,lz⟩:=dJ hZz;go_wp2_with fail
   refine aS ?_;intro q3 hn;have hZq3:Blk q3 (w.heap.size+1) (Ro 10 0 A7 3 c7):=by rw [hn];exact ((hZz.set_ 0 _).set_ 1 _).set_ 2 _
   have kwq3:Bw w q3:=by rw [hn];exact (bP (kwwl.trans (bq2.mono kwwl.size)))
   have keq3:KE wl (w.heap.size+1) q3:=by rw [hn];exact ((keq2.set _ _).set _ _).set _ _
   clear hn d0 d1 d2 e0 e1 e2 lz;refine aQ keq3 ?_;refine cP [13] (lB:=[_]) ?_;refine gS (aD ?_);obtain ⟨d0,d1,d2,e0,e1,e2,lz⟩:=dJ hZq3;go_wp2_with fail
   refine bodyPost_ret (v:=.tuple #[.agg (Ro 10 0 A7 3 c7),.int .i64 (cX b)]) (by simp [results,results126,go_sem,d0,d1,d2]) rfl ⟨10,0,A7,3,c7,rfl,kwq3⟩
  ·have hS:=aD (fun (A:Option Addr) (c:Nat) (w:World) (hrc:Rd w C 0 ctx) (hr:Rd w A 0 s1)=>dV ih ctx C cc k1 n1 s1 A c _ w h2 (cY h1) hvc (by omega) hrc hr);injection hs with hs;subst hs;clear h1 h2 hva hvc ih;go_enter func126,ntmps126;go_upto_region 20 with (first
    | (go_at_call 43;have _t:=tok;refine (hS.out _ _ _ (hrc.below kww2) r1w2).mono ?_;rintro e w3 ⟨rfl,hb3⟩;have hTw3:=hTw2.keep hb3;have hZw3:=hZw2.keep hb3;have hGw3:=hGw2.keep hb3;have kww3:=kww2.trans (hb3.mono kww2.size);have r1q:=r1w2.below hb3)
    | (go_at_call 74;refine (hI.out _ ((hrc.alloc _).alloc _) ((ra.alloc _).alloc _)).mono ?_;rintro e w1 ⟨A1,c1,rfl,hl1,r1,hb1⟩;have hTw1:Blk w1 w.heap.size (Ro 11 n (some ⟨bk,ok,none⟩) 1 c):=((aC w 32 (Ro 11 n (some ⟨bk,ok,none⟩) 1 c) rfl).alloc _).keep hb1;have hZw1:Blk w1 (w.heap.size+1) Zr:=(aC _ 32 Zr (by simp)).keep hb1;have kww1:Bw w w1:=bU bw2 hb1;have hTw2:=hTw1.alloc (.cells (Ro k1 n1 A1 s1.length c1) 32);have hZw2:=hZw1.alloc (.cells (Ro k1 n1 A1 s1.length c1) 32);have hGw2:=aC w1 32 (Ro k1 n1 A1 s1.length c1) rfl;have kww2:=kww1.alloc kww1.size (.cells (Ro k1 n1 A1 s1.length c1) 32);have r1w2:=r1.alloc (.cells (Ro k1 n1 A1 s1.length c1) 32);obtain ⟨y0,y1,y2⟩:=hGw2.three;have tok:=trivial))
   refine aBe hTw3 hZw3 hGw3 kww3 ?_;intro wl hTwl hZwl hGwl kwwl hwwl;have rGl:Rd wl A1 0 s1:=by rw [hwwl];exact r1q
   clear hwwl;have lTz:=hTwl.lt;have lZz:=hZwl.lt;have lGz:=hGwl.lt;have nz0:bk≠(w.heap.size+1):=by omega
   have nz1:w.heap.size≠(w.heap.size+1):=by omega
   have nz2:w1.heap.size≠(w.heap.size+1):=by have:=hZw1.lt;omega
   have lv:=dW (z:=(w.heap.size+1)) hTwl.three.2.2 nz1;obtain ⟨lg0,lg1,lg2⟩:=rkB hGwl nz2;obtain ⟨la1,la2,la3⟩:=rk3 kwwl nz0 a1 a2 a3;refine gBk wl (w.heap.size+1) [13] [0,1,2,3,4,5,6,7,8,11] 14 4 (lT:=[_,_,_,_,_,_,_,_,_,_]) ?_;intro q0 bq0 keq0;refine bZ (aD ?_);refine bB 9 ?_;go_wp2_with fail
   refine aS ?_;intro q1 hn;have hbq1:Bw q0 q1:=by rw [hn];exact bw1
   have zq1:Blk q1 q0.heap.size #[.int .i64 k1,.int .i64 n1,.slice A1 s1.length c1,.int .i64 ka,.int .i64 na,.slice Aa sa.length ca,.int .i64 ka,.int .i64 na,.slice Aa sa.length ca]:=by rw [hn];exact aC _ 32 _ rfl
   have seq1:q0.heap.size<q1.heap.size:=by rw [hn];simp
   clear hn;refine wN bq0 hbq1 ?_;intro bq1 lq1 keq1;refine bB 10 ?_;go_wp2_with (go_at_call 67;refine (bK 10 (aN hl1 (rGl.below bq1).rdp (aN hla ((ra.below kwwl).below bq1).rdp (aN hla ((ra.below kwwl).below bq1).rdp cC))) 3 rfl (by omega) _ _ zq1).mono ?_;rintro e q2 ⟨A7,c7,rfl,r7,hbq2⟩)
   refine wN bq1 hbq2 ?_;intro bq2 lq2 keq2;refine bB 12 ?_;have hZz:=hZwl.keep bq2;obtain ⟨d0,d1,d2,e0,e1,e2,lz⟩:=dJ hZz;go_wp2_with fail
   refine aS ?_;intro q3 hn;have hZq3:Blk q3 (w.heap.size+1) (Ro 10 0 A7 3 c7):=by rw [hn];exact ((hZz.set_ 0 _).set_ 1 _).set_ 2 _
   have rq3:Rd q3 A7 0 [.mk k1 n1 s1,.mk ka na sa,.mk ka na sa]:=by rw [hn];exact eB hZz hvl.out r7 _ _ _
   have kwq3:Bw w q3:=by rw [hn];exact (bP (kwwl.trans (bq2.mono kwwl.size)))
   have keq3:KE wl (w.heap.size+1) q3:=by rw [hn];exact ((keq2.set _ _).set _ _).set _ _
   clear hn d0 d1 d2 e0 e1 e2 lz;refine aQ keq3 ?_;refine cP [13] (lB:=[_]) ?_;refine gS (aD ?_);obtain ⟨d0,d1,d2,e0,e1,e2,lz⟩:=dJ hZq3;go_wp2_with fail
   refine bodyPost_ret (v:=.tuple #[.agg (Ro 10 0 A7 3 c7),.int .i64 0]) (by simp [results,results126,go_sem,d0,d1,d2]) rfl ⟨A7,c7,rfl,by simp,rq3,kwq3⟩
theorem aRq (u:Tm)(hu:oY u=true):(∀(t:Tm) (x d:Int),oY t=true→oY (bX u x d t)=true)∧∀(ts:List Tm) (k x d:Int) (i:Nat),xV ts=true→xV (cE u k x d i ts)=true:=by
 refine bA (fun k n ks ih x d h=>?_) (fun k x d i _=>rfl) (fun t ts h1 h2 k x d i h=>?_)
 ·rw [oY,Bool.and_eq_true] at h;rw [bX];split
  ·rw [(aAy d).1];exact hu
  ·rw [oY,h.1,ih k x d 0 h.2];rfl
 ·rw [xV,Bool.and_eq_true] at h;rw [cE,xV,h1 _ _ h.1,h2 k x d (i+1) h.2];rfl
theorem iI {t:Tm}(h:aE t=true):oY t=true:=shape_nz.1 _ _ (aY h)
def NzR (o:Tm):Prop:=oY o=true∧o.size≤200000
theorem xO {t:Tm}(h:aE t=true):NzR t:=⟨iI h,by have:=dR h;omega⟩
theorem aKn {u t:Tm}(hu:oY u=true)(huz:u.size≤401)(ht:aE t=true):NzR (bX u 0 0 t):=by
 refine ⟨(aRq u hu).1 t 0 0 (iI ht),?_⟩;have h1:=vD u huz (by omega) t 0 0;have h2:=dR ht;have h3:t.size*401≤400*401:=Nat.mul_le_mul_right _ h2;omega
theorem uY {k:Int}(hk:(k != 0)=true){a b:Tm}(ha:aE a=true)(hb:aE b=true):NzR (.mk k 0 [a,b]):=by
 have h1:=dR ha;have h2:=dR hb;refine ⟨?_,by simp only [Tm.size,aG];omega⟩;simp only [oY,xV,hk,iI ha,iI hb];rfl
theorem dE {α β:Type}{o:Option (Rs α)}{f:α→Option (Rs β)}{x:β}(h:bd o f=some (.ok x)):∃a,o=some (.ok a)∧f a=some (.ok x):=by
 rcases aL h with ⟨b,_,hb⟩|h
 ·cases hb
 ·exact h
theorem bR {α:Type}{a b:α}(h:(some (.ok a):Option (Rs α))=some (.ok b)):a=b:=by injection h with h;injection h
theorem aFp {d:Nat}{k n:Int}{ks:List Tm}(h:shape d (.mk k n ks)=true)(hn:¬(k=3∨k=13)∧¬k=4∧¬k=5∧¬k=9∧¬k=10∧¬k=12∧¬k=14∧¬k=1∧¬k=2∧¬k=6∧¬k=7∧¬k=8∧¬k=11):k=15∨k=16:=by
 obtain ⟨q,_,ha,_,_,_⟩:=bY h;unfold aU at ha
 repeat' split at ha
 all_goals omega
theorem zC {N:Nat}{ctx:List Tm}{k n:Int}{ks:List Tm}{o:Tm}(hv:aE (.mk k n ks)=true)(hvc:∀u,u∈ctx→aE u=true)(h:dQ (bH N) ctx (.mk k n ks)=some (.ok o)):NzR o:=by
 have leaf:∀(k' n':Int),(k' != 0)=true→NzR (.mk k' n' []):=fun k' n' hk=>⟨by simp [oY,xV,hk],by simp [Tm.size,aG]⟩
 have hkv:∀i,i<ks.length→aE (aI ks i)=true:=fun i hi=>aT hv hi
 have hlen:=fA hv;rw [dQ] at h;by_cases h3:k=3∨k=13
 ·rw [if_pos h3] at h;obtain ⟨i,_,h⟩:=dE h;obtain ⟨j,_,h⟩:=dE h;have:=bR h;subst this;exact leaf _ _ rfl
 rw [if_neg h3] at h;by_cases h4:k=4
 ·rw [if_pos h4] at h;subst h4;have h0:aU 4=2:=rfl;obtain ⟨i,_,h⟩:=dE h;obtain ⟨u,hu,h⟩:=dE h;obtain ⟨_,_,h⟩:=dE h;have:=bR h;subst this;exact uY rfl (hkv 0 (by omega)) (cY hu)
 rw [if_neg h4] at h;by_cases h5:k=5
 ·rw [if_pos h5] at h;subst h5;have h0:aU 5=2:=rfl;obtain ⟨hh,h1,h⟩:=dE h;obtain ⟨_,_,h⟩:=dE h;obtain ⟨hk,hvh⟩:=mQ h1;obtain ⟨kh,nh,sh⟩:=hh;obtain rfl:kh=3:=hk;obtain ⟨_,_,_,_,_,_,rfl⟩:=xM (k:=3) rfl hvh;have:=bR h;subst this;have hu:=hkv 1 (by omega);exact aKn (iI hu) (by have:=dR hu;omega) (aT (i:=1) hvh (by show 1<2;omega))
 rw [if_neg h5] at h;by_cases h9:k=9
 ·rw [if_pos h9] at h;subst h9;have h0:aU 9=4:=rfl;obtain ⟨_,_,h⟩:=dE h;obtain ⟨_,_,h⟩:=dE h;obtain ⟨_,_,h⟩:=dE h;obtain ⟨_,_,h⟩:=dE h;have:=bR h;subst this;exact uY rfl (hkv 0 (by omega)) (hkv 3 (by omega))
 rw [if_neg h9] at h;by_cases h10:k=10
 ·rw [if_pos h10] at h;obtain ⟨_,_,h⟩:=dE h;obtain ⟨_,_,h⟩:=dE h;obtain ⟨_,_,h⟩:=dE h;have:=bR h;subst this;exact leaf _ _ rfl
 rw [if_neg h10] at h;by_cases h12:k=12
 ·rw [if_pos h12] at h;subst h12;have h0:aU 12=3:=rfl;obtain ⟨hh,h1,h⟩:=dE h;obtain ⟨_,_,h⟩:=dE h;obtain ⟨_,_,h⟩:=dE h;obtain ⟨hk,hvh⟩:=mQ h1;obtain ⟨kh,nh,sh⟩:=hh;obtain rfl:kh=10:=hk;obtain ⟨_,_,_,_,_,_,_,_,_,rfl⟩:=aPj (k:=10) rfl hvh;have:=bR h;subst this;exact uY rfl (hkv 0 (by omega)) (aT (i:=2) hvh (by show 2<3;omega))
 rw [if_neg h12] at h;by_cases h14:k=14
 ·rw [if_pos h14] at h;subst h14;have h0:aU 14=3:=rfl;obtain ⟨_,_,h⟩:=dE h;obtain ⟨_,_,h⟩:=dE h;obtain ⟨_,_,h⟩:=dE h;obtain ⟨_,_,h⟩:=dE h;obtain ⟨_,_,h⟩:=dE h;have:=bR h;subst this;exact xO (hkv 0 (by omega))
 rw [if_neg h14] at h;by_cases h1:k=1
 ·rw [if_pos h1] at h;unfold aBu at h
  split at h
  ·injection h with h;cases h
  ·rename_i hl
   have:=bR h;subst this;obtain ⟨q,_,_,hn0,_,_⟩:=bY (aY hv);have hj:ctx.length - 1 - n.toNat<ctx.length:=by omega
   have hvx:=hvc _ (iC hj);rw [show ctx.getD (ctx.length - 1 - n.toNat) default=ctx[ctx.length - 1 - n.toNat] by simp [List.getD,qR hj]];refine ⟨by rw [(aAy (n+1)).1];exact iI hvx,by rw [mC];have:=dR hvx;omega⟩
 rw [if_neg h1] at h;by_cases h2:k=2
 ·rw [if_pos h2] at h;split at h
  ·injection h with h;cases h
  ·have:=bR h;subst this;exact leaf _ _ rfl
 rw [if_neg h2] at h;by_cases h6:k=6
 ·rw [if_pos h6] at h;have:=bR h;subst this;exact leaf _ _ rfl
 rw [if_neg h6] at h;by_cases h7:k=7
 ·rw [if_pos h7] at h;have:=bR h;subst this;exact leaf _ _ rfl
 rw [if_neg h7] at h;by_cases h8:k=8
 ·rw [if_pos h8] at h;obtain ⟨_,_,h⟩:=dE h;have:=bR h;subst this;exact leaf _ _ rfl
 rw [if_neg h8] at h;by_cases h11:k=11
 ·rw [if_pos h11] at h;subst h11;have h0:aU 11=1:=rfl;obtain ⟨s,hs,h⟩:=dE h;obtain ⟨_,_,h⟩:=dE h;have:=bR h;subst this;have hva:=hkv 0 (by omega);have hvs:=cY hs;have z1:=dR hva;have z2:=dR hvs;exact ⟨by simp only [oY,xV,iI hva,iI hvs];rfl,by simp only [Tm.size,aG];omega⟩
 rw [if_neg h11] at h;obtain ⟨hh,hsx,h⟩:=dE h;obtain ⟨hk,hvh⟩:=mQ hsx;obtain ⟨kh,nh,sh⟩:=hh;obtain rfl:kh=13:=hk;obtain ⟨_,_,_,_,_,_,rfl⟩:=xM (k:=13) rfl hvh;have hks:0<ks.length:=by
  have ha:=hlen;have hm:k=15∨k=16:=aFp (aY hv) ⟨h3,h4,h5,h9,h10,h12,h14,h1,h2,h6,h7,h8,h11⟩;rcases hm with rfl|rfl
  ·have h0:aU 15=1:=rfl;omega
  ·have h0:aU 16=1:=rfl;omega
 split at h
 ·have:=bR h;subst this;exact xO (aT (i:=0) hvh (by show 0<2;omega))
 ·have:=bR h;subst this;have hu:=hkv 0 hks;have hz:=dR hu;exact aKn (by simp only [oY,xV,iI hu];rfl) (by simp only [Tm.size,aG];omega) (aT (i:=1) hvh (by show 1<2;omega))
theorem jH {w:World}{z:Nat}{k n:Int}{ks:List Tm}{A:Option Addr}(hZ:Blk w z Zr)(hv:oY (.mk k n ks)=true)(hr:Rd w A 0 ks)(x y v:Value) :
  Rd (((w.setCell ⟨z,0,none⟩ x).setCell ⟨z,1,none⟩ y).setCell ⟨z,2,none⟩ v) A 0 ks:=by
 rw [oY,Bool.and_eq_true] at hv;exact (((((aMg hZ).2 ks A 0 hv.2 hr).setCell (a:=⟨z,0,none⟩) (fun h=>h rfl) x).setCell (a:=⟨z,1,none⟩) (fun h=>h rfl) y).setCell (a:=⟨z,2,none⟩) (fun h=>h rfl) v).rd
theorem aAc (ctx:List Tm)(C:Option Addr)(cc:Nat)(k n:Int)(ks:List Tm)(A:Option Addr)(c:Nat)(r:Rs Tm)(w:World)(q1:(k==1)=false)(q2:(k==2)=false)(q6:(k==6)=false)(q7:(k==7)=false)(q8:(k==8)=false)(q11:(k==11)=false)(hX:Hid (∀(w:World),Rd w C 0 ctx→Rd w A 0 ks→Calls prog 153 #[.slice C ctx.length cc,.agg (Ro k n A ks.length c)] w (oS w r)))(hnz:∀o,r = .ok o→oY o=true)(hrc:Rd w C 0 ctx)(hra:Rd w A 0 ks) :
  Calls prog 126 #[.slice C ctx.length cc,.agg (Ro k n A ks.length c)] w (oS w r):=by
 cases r with
 | ok o=>
  obtain ⟨k1,n1,s1⟩:=o;replace hnz:=hnz _ rfl;go_enter func126,ntmps126;go_wp2_with (go_at_call 153;refine (hX.out _ ((hrc.alloc _).alloc _) ((hra.alloc _).alloc _)).mono ?_;rintro e w1 ⟨A1,c1,rfl,hl1,r1,hb1⟩;have hZ1:Blk w1 (w.heap.size+1) Zr:=(aC _ 32 Zr (by simp)).keep hb1;have g1:Bw w w1:=bU bw2 hb1;obtain ⟨d0,d1,d2,e0,e1,e2,lz⟩:=dJ hZ1)
  refine bodyPost_ret (v:=.tuple #[.agg (Ro k1 n1 A1 s1.length c1),.int .i64 0]) (by simp [results,results126,go_sem,d0,d1,d2]) rfl ⟨A1,c1,rfl,hl1,jH hZ1 hnz r1 _ _ _,?_⟩;exact bP g1
 | no b=>
  clear hnz;go_enter func126,ntmps126;go_wp2_with (go_at_call 153;refine (hX.out _ ((hrc.alloc _).alloc _) ((hra.alloc _).alloc _)).mono ?_;rintro e w1 ⟨k1,n1,A1,l1,c1,rfl,hb1⟩;have hZ1:Blk w1 (w.heap.size+1) Zr:=(aC _ 32 Zr (by simp)).keep hb1;have g1:Bw w w1:=bU bw2 hb1;obtain ⟨d0,d1,d2,e0,e1,e2,lz⟩:=dJ hZ1)
  refine bodyPost_ret (v:=.tuple #[.agg (Ro k1 n1 A1 l1 c1),.int .i64 (cX b)]) (by simp [results,results126,go_sem,d0,d1,d2]) rfl ⟨k1,n1,A1,l1,c1,rfl,?_⟩;exact bP g1
theorem aOk (ctx:List Tm)(C:Option Addr)(cc:Nat)(k n:Int)(ks:List Tm)(A:Option Addr)(c:Nat)(r:Rs Tm)(w:World)(hk:((k==3)=true)∨((k==3)=false∧(k==13)=true))(hX:Hid (∀(w:World),Rd w C 0 ctx→Rd w A 0 ks→Calls prog 119 #[.slice C ctx.length cc,.agg (Ro k n A ks.length c)] w (oS w r)))(hnz:∀o,r = .ok o→oY o=true)(hrc:Rd w C 0 ctx)(hra:Rd w A 0 ks) :
  Calls prog 102 #[.slice C ctx.length cc,.agg (Ro k n A ks.length c)] w (oS w r):=by
 rcases hk with q3|⟨q3,q13⟩
 ·cases r with
   | ok o=>
    obtain ⟨k1,n1,s1⟩:=o;replace hnz:=hnz _ rfl;go_enter func102,ntmps102;go_wp2_with (go_at_call 119;refine (hX.out _ ((hrc.alloc _).alloc _) ((hra.alloc _).alloc _)).mono ?_;rintro e w1 ⟨A1,c1,rfl,hl1,r1,hb1⟩;have hZ1:Blk w1 (w.heap.size+1) Zr:=(aC _ 32 Zr (by simp)).keep hb1;have g1:Bw w w1:=bU bw2 hb1;obtain ⟨d0,d1,d2,e0,e1,e2,lz⟩:=dJ hZ1)
    refine bodyPost_ret (v:=.tuple #[.agg (Ro k1 n1 A1 s1.length c1),.int .i64 0]) (by simp [results,results102,go_sem,d0,d1,d2]) rfl ⟨A1,c1,rfl,hl1,jH hZ1 hnz r1 _ _ _,?_⟩;exact bP g1
   | no b=>
    clear hnz;go_enter func102,ntmps102;go_wp2_with (go_at_call 119;refine (hX.out _ ((hrc.alloc _).alloc _) ((hra.alloc _).alloc _)).mono ?_;rintro e w1 ⟨k1,n1,A1,l1,c1,rfl,hb1⟩;have hZ1:Blk w1 (w.heap.size+1) Zr:=(aC _ 32 Zr (by simp)).keep hb1;have g1:Bw w w1:=bU bw2 hb1;obtain ⟨d0,d1,d2,e0,e1,e2,lz⟩:=dJ hZ1)
    refine bodyPost_ret (v:=.tuple #[.agg (Ro k1 n1 A1 l1 c1),.int .i64 (cX b)]) (by simp [results,results102,go_sem,d0,d1,d2]) rfl ⟨k1,n1,A1,l1,c1,rfl,?_⟩;exact bP g1
 ·cases r with
   | ok o=>
    obtain ⟨k1,n1,s1⟩:=o;replace hnz:=hnz _ rfl;go_enter func102,ntmps102;go_wp2_with (go_at_call 119;refine (hX.out _ ((hrc.alloc _).alloc _) ((hra.alloc _).alloc _)).mono ?_;rintro e w1 ⟨A1,c1,rfl,hl1,r1,hb1⟩;have hZ1:Blk w1 (w.heap.size+1) Zr:=(aC _ 32 Zr (by simp)).keep hb1;have g1:Bw w w1:=bU bw2 hb1;obtain ⟨d0,d1,d2,e0,e1,e2,lz⟩:=dJ hZ1)
    refine bodyPost_ret (v:=.tuple #[.agg (Ro k1 n1 A1 s1.length c1),.int .i64 0]) (by simp [results,results102,go_sem,d0,d1,d2]) rfl ⟨A1,c1,rfl,hl1,jH hZ1 hnz r1 _ _ _,?_⟩;exact bP g1
   | no b=>
    clear hnz;go_enter func102,ntmps102;go_wp2_with (go_at_call 119;refine (hX.out _ ((hrc.alloc _).alloc _) ((hra.alloc _).alloc _)).mono ?_;rintro e w1 ⟨k1,n1,A1,l1,c1,rfl,hb1⟩;have hZ1:Blk w1 (w.heap.size+1) Zr:=(aC _ 32 Zr (by simp)).keep hb1;have g1:Bw w w1:=bU bw2 hb1;obtain ⟨d0,d1,d2,e0,e1,e2,lz⟩:=dJ hZ1)
    refine bodyPost_ret (v:=.tuple #[.agg (Ro k1 n1 A1 l1 c1),.int .i64 (cX b)]) (by simp [results,results102,go_sem,d0,d1,d2]) rfl ⟨k1,n1,A1,l1,c1,rfl,?_⟩;exact bP g1
theorem aNh (ctx:List Tm)(C:Option Addr)(cc:Nat)(k n:Int)(ks:List Tm)(A:Option Addr)(c:Nat)(r:Rs Tm)(w:World)(q3:(k==3)=false)(q13:(k==13)=false)(qk:(k==4)=true)(hX:Hid (∀(w:World),Rd w C 0 ctx→Rd w A 0 ks→Calls prog 120 #[.slice C ctx.length cc,.agg (Ro k n A ks.length c)] w (oS w r)))(hnz:∀o,r = .ok o→oY o=true)(hrc:Rd w C 0 ctx)(hra:Rd w A 0 ks) :
  Calls prog 102 #[.slice C ctx.length cc,.agg (Ro k n A ks.length c)] w (oS w r):=by
 cases r with
 | ok o=>
  obtain ⟨k1,n1,s1⟩:=o;replace hnz:=hnz _ rfl;go_enter func102,ntmps102;go_wp2_with (go_at_call 120;refine (hX.out _ ((hrc.alloc _).alloc _) ((hra.alloc _).alloc _)).mono ?_;rintro e w1 ⟨A1,c1,rfl,hl1,r1,hb1⟩;have hZ1:Blk w1 (w.heap.size+1) Zr:=(aC _ 32 Zr (by simp)).keep hb1;have g1:Bw w w1:=bU bw2 hb1;obtain ⟨d0,d1,d2,e0,e1,e2,lz⟩:=dJ hZ1)
  refine bodyPost_ret (v:=.tuple #[.agg (Ro k1 n1 A1 s1.length c1),.int .i64 0]) (by simp [results,results102,go_sem,d0,d1,d2]) rfl ⟨A1,c1,rfl,hl1,jH hZ1 hnz r1 _ _ _,?_⟩;exact bP g1
 | no b=>
  clear hnz;go_enter func102,ntmps102;go_wp2_with (go_at_call 120;refine (hX.out _ ((hrc.alloc _).alloc _) ((hra.alloc _).alloc _)).mono ?_;rintro e w1 ⟨k1,n1,A1,l1,c1,rfl,hb1⟩;have hZ1:Blk w1 (w.heap.size+1) Zr:=(aC _ 32 Zr (by simp)).keep hb1;have g1:Bw w w1:=bU bw2 hb1;obtain ⟨d0,d1,d2,e0,e1,e2,lz⟩:=dJ hZ1)
  refine bodyPost_ret (v:=.tuple #[.agg (Ro k1 n1 A1 l1 c1),.int .i64 (cX b)]) (by simp [results,results102,go_sem,d0,d1,d2]) rfl ⟨k1,n1,A1,l1,c1,rfl,?_⟩;exact bP g1
theorem aOl (ctx:List Tm)(C:Option Addr)(cc:Nat)(k n:Int)(ks:List Tm)(A:Option Addr)(c:Nat)(r:Rs Tm)(w:World)(q3:(k==3)=false)(q13:(k==13)=false)(q4:(k==4)=false)(qk:(k==5)=true)(hX:Hid (∀(w:World),Rd w C 0 ctx→Rd w A 0 ks→Calls prog 121 #[.slice C ctx.length cc,.agg (Ro k n A ks.length c)] w (oS w r)))(hnz:∀o,r = .ok o→oY o=true)(hrc:Rd w C 0 ctx)(hra:Rd w A 0 ks) :
  Calls prog 102 #[.slice C ctx.length cc,.agg (Ro k n A ks.length c)] w (oS w r):=by
 cases r with
 | ok o=>
  obtain ⟨k1,n1,s1⟩:=o;replace hnz:=hnz _ rfl;go_enter func102,ntmps102;go_wp2_with (go_at_call 121;refine (hX.out _ ((hrc.alloc _).alloc _) ((hra.alloc _).alloc _)).mono ?_;rintro e w1 ⟨A1,c1,rfl,hl1,r1,hb1⟩;have hZ1:Blk w1 (w.heap.size+1) Zr:=(aC _ 32 Zr (by simp)).keep hb1;have g1:Bw w w1:=bU bw2 hb1;obtain ⟨d0,d1,d2,e0,e1,e2,lz⟩:=dJ hZ1)
  refine bodyPost_ret (v:=.tuple #[.agg (Ro k1 n1 A1 s1.length c1),.int .i64 0]) (by simp [results,results102,go_sem,d0,d1,d2]) rfl ⟨A1,c1,rfl,hl1,jH hZ1 hnz r1 _ _ _,?_⟩;exact bP g1
 | no b=>
  clear hnz;go_enter func102,ntmps102;go_wp2_with (go_at_call 121;refine (hX.out _ ((hrc.alloc _).alloc _) ((hra.alloc _).alloc _)).mono ?_;rintro e w1 ⟨k1,n1,A1,l1,c1,rfl,hb1⟩;have hZ1:Blk w1 (w.heap.size+1) Zr:=(aC _ 32 Zr (by simp)).keep hb1;have g1:Bw w w1:=bU bw2 hb1;obtain ⟨d0,d1,d2,e0,e1,e2,lz⟩:=dJ hZ1)
  refine bodyPost_ret (v:=.tuple #[.agg (Ro k1 n1 A1 l1 c1),.int .i64 (cX b)]) (by simp [results,results102,go_sem,d0,d1,d2]) rfl ⟨k1,n1,A1,l1,c1,rfl,?_⟩;exact bP g1
theorem aNk (ctx:List Tm)(C:Option Addr)(cc:Nat)(k n:Int)(ks:List Tm)(A:Option Addr)(c:Nat)(r:Rs Tm)(w:World)(q3:(k==3)=false)(q13:(k==13)=false)(q4:(k==4)=false)(q5:(k==5)=false)(qk:(k==9)=true)(hX:Hid (∀(w:World),Rd w C 0 ctx→Rd w A 0 ks→Calls prog 122 #[.slice C ctx.length cc,.agg (Ro k n A ks.length c)] w (oS w r)))(hnz:∀o,r = .ok o→oY o=true)(hrc:Rd w C 0 ctx)(hra:Rd w A 0 ks) :
  Calls prog 102 #[.slice C ctx.length cc,.agg (Ro k n A ks.length c)] w (oS w r):=by
 cases r with
 | ok o=>
  obtain ⟨k1,n1,s1⟩:=o;replace hnz:=hnz _ rfl;go_enter func102,ntmps102;go_wp2_with (go_at_call 122;refine (hX.out _ ((hrc.alloc _).alloc _) ((hra.alloc _).alloc _)).mono ?_;rintro e w1 ⟨A1,c1,rfl,hl1,r1,hb1⟩;have hZ1:Blk w1 (w.heap.size+1) Zr:=(aC _ 32 Zr (by simp)).keep hb1;have g1:Bw w w1:=bU bw2 hb1;obtain ⟨d0,d1,d2,e0,e1,e2,lz⟩:=dJ hZ1)
  refine bodyPost_ret (v:=.tuple #[.agg (Ro k1 n1 A1 s1.length c1),.int .i64 0]) (by simp [results,results102,go_sem,d0,d1,d2]) rfl ⟨A1,c1,rfl,hl1,jH hZ1 hnz r1 _ _ _,?_⟩;exact bP g1
 | no b=>
  clear hnz;go_enter func102,ntmps102;go_wp2_with (go_at_call 122;refine (hX.out _ ((hrc.alloc _).alloc _) ((hra.alloc _).alloc _)).mono ?_;rintro e w1 ⟨k1,n1,A1,l1,c1,rfl,hb1⟩;have hZ1:Blk w1 (w.heap.size+1) Zr:=(aC _ 32 Zr (by simp)).keep hb1;have g1:Bw w w1:=bU bw2 hb1;obtain ⟨d0,d1,d2,e0,e1,e2,lz⟩:=dJ hZ1)
  refine bodyPost_ret (v:=.tuple #[.agg (Ro k1 n1 A1 l1 c1),.int .i64 (cX b)]) (by simp [results,results102,go_sem,d0,d1,d2]) rfl ⟨k1,n1,A1,l1,c1,rfl,?_⟩;exact bP g1
theorem aOs (ctx:List Tm)(C:Option Addr)(cc:Nat)(k n:Int)(ks:List Tm)(A:Option Addr)(c:Nat)(r:Rs Tm)(w:World)(q3:(k==3)=false)(q13:(k==13)=false)(q4:(k==4)=false)(q5:(k==5)=false)(q9:(k==9)=false)(qk:(k==10)=true)(hX:Hid (∀(w:World),Rd w C 0 ctx→Rd w A 0 ks→Calls prog 123 #[.slice C ctx.length cc,.agg (Ro k n A ks.length c)] w (oS w r)))(hnz:∀o,r = .ok o→oY o=true)(hrc:Rd w C 0 ctx)(hra:Rd w A 0 ks) :
  Calls prog 102 #[.slice C ctx.length cc,.agg (Ro k n A ks.length c)] w (oS w r):=by
 cases r with
 | ok o=>
  obtain ⟨k1,n1,s1⟩:=o;replace hnz:=hnz _ rfl;go_enter func102,ntmps102;go_wp2_with (go_at_call 123;refine (hX.out _ ((hrc.alloc _).alloc _) ((hra.alloc _).alloc _)).mono ?_;rintro e w1 ⟨A1,c1,rfl,hl1,r1,hb1⟩;have hZ1:Blk w1 (w.heap.size+1) Zr:=(aC _ 32 Zr (by simp)).keep hb1;have g1:Bw w w1:=bU bw2 hb1;obtain ⟨d0,d1,d2,e0,e1,e2,lz⟩:=dJ hZ1)
  refine bodyPost_ret (v:=.tuple #[.agg (Ro k1 n1 A1 s1.length c1),.int .i64 0]) (by simp [results,results102,go_sem,d0,d1,d2]) rfl ⟨A1,c1,rfl,hl1,jH hZ1 hnz r1 _ _ _,?_⟩;exact bP g1
 | no b=>
  clear hnz;go_enter func102,ntmps102;go_wp2_with (go_at_call 123;refine (hX.out _ ((hrc.alloc _).alloc _) ((hra.alloc _).alloc _)).mono ?_;rintro e w1 ⟨k1,n1,A1,l1,c1,rfl,hb1⟩;have hZ1:Blk w1 (w.heap.size+1) Zr:=(aC _ 32 Zr (by simp)).keep hb1;have g1:Bw w w1:=bU bw2 hb1;obtain ⟨d0,d1,d2,e0,e1,e2,lz⟩:=dJ hZ1)
  refine bodyPost_ret (v:=.tuple #[.agg (Ro k1 n1 A1 l1 c1),.int .i64 (cX b)]) (by simp [results,results102,go_sem,d0,d1,d2]) rfl ⟨k1,n1,A1,l1,c1,rfl,?_⟩;exact bP g1
theorem aNg (ctx:List Tm)(C:Option Addr)(cc:Nat)(k n:Int)(ks:List Tm)(A:Option Addr)(c:Nat)(r:Rs Tm)(w:World)(q3:(k==3)=false)(q13:(k==13)=false)(q4:(k==4)=false)(q5:(k==5)=false)(q9:(k==9)=false)(q10:(k==10)=false)(qk:(k==12)=true)(hX:Hid (∀(w:World),Rd w C 0 ctx→Rd w A 0 ks→Calls prog 124 #[.slice C ctx.length cc,.agg (Ro k n A ks.length c)] w (oS w r)))(hnz:∀o,r = .ok o→oY o=true)(hrc:Rd w C 0 ctx)(hra:Rd w A 0 ks) :
  Calls prog 102 #[.slice C ctx.length cc,.agg (Ro k n A ks.length c)] w (oS w r):=by
 cases r with
 | ok o=>
  obtain ⟨k1,n1,s1⟩:=o;replace hnz:=hnz _ rfl;go_enter func102,ntmps102;go_wp2_with (go_at_call 124;refine (hX.out _ ((hrc.alloc _).alloc _) ((hra.alloc _).alloc _)).mono ?_;rintro e w1 ⟨A1,c1,rfl,hl1,r1,hb1⟩;have hZ1:Blk w1 (w.heap.size+1) Zr:=(aC _ 32 Zr (by simp)).keep hb1;have g1:Bw w w1:=bU bw2 hb1;obtain ⟨d0,d1,d2,e0,e1,e2,lz⟩:=dJ hZ1)
  refine bodyPost_ret (v:=.tuple #[.agg (Ro k1 n1 A1 s1.length c1),.int .i64 0]) (by simp [results,results102,go_sem,d0,d1,d2]) rfl ⟨A1,c1,rfl,hl1,jH hZ1 hnz r1 _ _ _,?_⟩;exact bP g1
 | no b=>
  clear hnz;go_enter func102,ntmps102;go_wp2_with (go_at_call 124;refine (hX.out _ ((hrc.alloc _).alloc _) ((hra.alloc _).alloc _)).mono ?_;rintro e w1 ⟨k1,n1,A1,l1,c1,rfl,hb1⟩;have hZ1:Blk w1 (w.heap.size+1) Zr:=(aC _ 32 Zr (by simp)).keep hb1;have g1:Bw w w1:=bU bw2 hb1;obtain ⟨d0,d1,d2,e0,e1,e2,lz⟩:=dJ hZ1)
  refine bodyPost_ret (v:=.tuple #[.agg (Ro k1 n1 A1 l1 c1),.int .i64 (cX b)]) (by simp [results,results102,go_sem,d0,d1,d2]) rfl ⟨k1,n1,A1,l1,c1,rfl,?_⟩;exact bP g1
theorem aOm (ctx:List Tm)(C:Option Addr)(cc:Nat)(k n:Int)(ks:List Tm)(A:Option Addr)(c:Nat)(r:Rs Tm)(w:World)(q3:(k==3)=false)(q13:(k==13)=false)(q4:(k==4)=false)(q5:(k==5)=false)(q9:(k==9)=false)(q10:(k==10)=false)(q12:(k==12)=false)(qk:(k==14)=true)(hX:Hid (∀(w:World),Rd w C 0 ctx→Rd w A 0 ks→Calls prog 125 #[.slice C ctx.length cc,.agg (Ro k n A ks.length c)] w (oS w r)))(hnz:∀o,r = .ok o→oY o=true)(hrc:Rd w C 0 ctx)(hra:Rd w A 0 ks) :
  Calls prog 102 #[.slice C ctx.length cc,.agg (Ro k n A ks.length c)] w (oS w r):=by
 cases r with
 | ok o=>
  obtain ⟨k1,n1,s1⟩:=o;replace hnz:=hnz _ rfl;go_enter func102,ntmps102;go_wp2_with (go_at_call 125;refine (hX.out _ ((hrc.alloc _).alloc _) ((hra.alloc _).alloc _)).mono ?_;rintro e w1 ⟨A1,c1,rfl,hl1,r1,hb1⟩;have hZ1:Blk w1 (w.heap.size+1) Zr:=(aC _ 32 Zr (by simp)).keep hb1;have g1:Bw w w1:=bU bw2 hb1;obtain ⟨d0,d1,d2,e0,e1,e2,lz⟩:=dJ hZ1)
  refine bodyPost_ret (v:=.tuple #[.agg (Ro k1 n1 A1 s1.length c1),.int .i64 0]) (by simp [results,results102,go_sem,d0,d1,d2]) rfl ⟨A1,c1,rfl,hl1,jH hZ1 hnz r1 _ _ _,?_⟩;exact bP g1
 | no b=>
  clear hnz;go_enter func102,ntmps102;go_wp2_with (go_at_call 125;refine (hX.out _ ((hrc.alloc _).alloc _) ((hra.alloc _).alloc _)).mono ?_;rintro e w1 ⟨k1,n1,A1,l1,c1,rfl,hb1⟩;have hZ1:Blk w1 (w.heap.size+1) Zr:=(aC _ 32 Zr (by simp)).keep hb1;have g1:Bw w w1:=bU bw2 hb1;obtain ⟨d0,d1,d2,e0,e1,e2,lz⟩:=dJ hZ1)
  refine bodyPost_ret (v:=.tuple #[.agg (Ro k1 n1 A1 l1 c1),.int .i64 (cX b)]) (by simp [results,results102,go_sem,d0,d1,d2]) rfl ⟨k1,n1,A1,l1,c1,rfl,?_⟩;exact bP g1
theorem aOo (ctx:List Tm)(C:Option Addr)(cc:Nat)(k n:Int)(ks:List Tm)(A:Option Addr)(c:Nat)(r:Rs Tm)(w:World)(q3:(k==3)=false)(q13:(k==13)=false)(q4:(k==4)=false)(q5:(k==5)=false)(q9:(k==9)=false)(q10:(k==10)=false)(q12:(k==12)=false)(q14:(k==14)=false)(hX:Hid (∀(w:World),Rd w C 0 ctx→Rd w A 0 ks→Calls prog 126 #[.slice C ctx.length cc,.agg (Ro k n A ks.length c)] w (oS w r)))(hnz:∀o,r = .ok o→oY o=true)(hrc:Rd w C 0 ctx)(hra:Rd w A 0 ks) :
  Calls prog 102 #[.slice C ctx.length cc,.agg (Ro k n A ks.length c)] w (oS w r):=by
 cases r with
 | ok o=>
  obtain ⟨k1,n1,s1⟩:=o;replace hnz:=hnz _ rfl;go_enter func102,ntmps102;go_wp2_with (go_at_call 126;refine (hX.out _ ((hrc.alloc _).alloc _) ((hra.alloc _).alloc _)).mono ?_;rintro e w1 ⟨A1,c1,rfl,hl1,r1,hb1⟩;have hZ1:Blk w1 (w.heap.size+1) Zr:=(aC _ 32 Zr (by simp)).keep hb1;have g1:Bw w w1:=bU bw2 hb1;obtain ⟨d0,d1,d2,e0,e1,e2,lz⟩:=dJ hZ1)
  refine bodyPost_ret (v:=.tuple #[.agg (Ro k1 n1 A1 s1.length c1),.int .i64 0]) (by simp [results,results102,go_sem,d0,d1,d2]) rfl ⟨A1,c1,rfl,hl1,jH hZ1 hnz r1 _ _ _,?_⟩;exact bP g1
 | no b=>
  clear hnz;go_enter func102,ntmps102;go_wp2_with (go_at_call 126;refine (hX.out _ ((hrc.alloc _).alloc _) ((hra.alloc _).alloc _)).mono ?_;rintro e w1 ⟨k1,n1,A1,l1,c1,rfl,hb1⟩;have hZ1:Blk w1 (w.heap.size+1) Zr:=(aC _ 32 Zr (by simp)).keep hb1;have g1:Bw w w1:=bU bw2 hb1;obtain ⟨d0,d1,d2,e0,e1,e2,lz⟩:=dJ hZ1)
  refine bodyPost_ret (v:=.tuple #[.agg (Ro k1 n1 A1 l1 c1),.int .i64 (cX b)]) (by simp [results,results102,go_sem,d0,d1,d2]) rfl ⟨k1,n1,A1,l1,c1,rfl,?_⟩;exact bP g1
theorem kq {k x:Int}(h:¬k=x):(k==x)=false:=by simpa using h
theorem aDd {N:Nat}(ih:nD N)(ctx:List Tm)(C:Option Addr)(cc:Nat)(k n:Int)(ks:List Tm)(A:Option Addr)(c:Nat)(r:Rs Tm)(w:World)(hv:aE (.mk k n ks)=true)(hk:¬(k=3∨k=13)∧¬k=4∧¬k=5∧¬k=9∧¬k=10∧¬k=12∧¬k=14)(hs:dQ (bH N) ctx (.mk k n ks)=some r)(hvc:∀u,u∈ctx→aE u=true)(hm:ctx.length≤20)(hrc:Rd w C 0 ctx)(hr:Rd w A 0 ks) :
  Calls prog 126 #[.slice C ctx.length cc,.agg (Ro k n A ks.length c)] w (oS w r):=by
 obtain ⟨hk3,hk4,hk5,hk9,hk10,hk12,hk14⟩:=hk;have hlen:=fA hv;have hnz:∀o,r = .ok o→oY o=true:=fun o ho=>(zC hv hvc (by rw [hs,ho])).1
 obtain ⟨q,_,_,hn0,hn1,_⟩:=bY (aY hv);have hs0:=hs;rw [dQ,if_neg hk3,if_neg hk4,if_neg hk5,if_neg hk9,if_neg hk10,if_neg hk12,if_neg hk14] at hs;by_cases h1:k=1
 ·subst h1;rw [if_pos rfl] at hs;have hn20:n≤20:=hn1;exact aAn ctx C cc n A c ks r w ⟨hn0,hn20⟩ hvc hm hs hrc
 rw [if_neg h1] at hs;by_cases h267:k=2∨k=6∨k=7
 ·have hn20:n≤20:=by
   rcases h267 with rfl|rfl|rfl
   ·have:n≤3:=hn1;omega
   ·have:n≤0:=hn1;omega
   ·have:n≤0:=hn1;omega
  exact zK (N:=N) ctx C cc n A c k ks r w ⟨hn0,hn20⟩ h267 hs0
 rw [if_neg (fun h=>h267 (.inl h)),if_neg (fun h=>h267 (.inr (.inl h))),if_neg (fun h=>h267 (.inr (.inr h)))] at hs;by_cases h8:k=8
 ·subst h8;rw [if_pos rfl] at hs;have h0:aU 8=1:=rfl;obtain ⟨⟨ka,na,sa⟩,rfl⟩:=aHm (ks:=ks) (by omega);exact aBc ih ctx C cc n A c ka na sa r w hs (aT (i:=0) hv (by simp)) hvc hm hrc hr
 rw [if_neg h8] at hs;by_cases h11:k=11
 ·subst h11;rw [if_pos rfl] at hs;have h0:aU 11=1:=rfl;obtain ⟨⟨ka,na,sa⟩,rfl⟩:=aHm (ks:=ks) (by omega);exact zI ih ctx C cc n A c ka na sa r w hs (aT (i:=0) hv (by simp)) hvc hm hrc hr
 rw [if_neg h11] at hs;have hk15:=aFp (aY hv) ⟨hk3,hk4,hk5,hk9,hk10,hk12,hk14,h1,fun h=>h267 (.inl h),fun h=>h267 (.inr (.inl h)),fun h=>h267 (.inr (.inr h)),h8,h11⟩;have h0:aU k=1:=by rcases hk15 with rfl|rfl<;>rfl
 obtain ⟨⟨ka,na,sa⟩,rfl⟩:=aHm (ks:=ks) (by omega);exact aAc ctx C cc k n [.mk ka na sa] A c r w (kq h1) (kq (fun h=>h267 (.inl h))) (kq (fun h=>h267 (.inr (.inl h)))) (kq (fun h=>h267 (.inr (.inr h)))) (kq h8) (kq h11) (aD (fun w hrc hr=>aJd ih ctx C cc k n A c ka na sa r w hs (aT (i:=0) hv (by simp)) hvc hm hrc hr)) hnz hrc hr
theorem yF {N:Nat}(ih:nD N)(ctx:List Tm)(C:Option Addr)(cc:Nat)(k n:Int)(ks:List Tm)(A:Option Addr)(c:Nat)(r:Rs Tm)(w:World)(hv:aE (.mk k n ks)=true)(hs:dQ (bH N) ctx (.mk k n ks)=some r)(hvc:∀u,u∈ctx→aE u=true)(hm:ctx.length≤20)(hrc:Rd w C 0 ctx)(hr:Rd w A 0 ks) :
  Calls prog 102 #[.slice C ctx.length cc,.agg (Ro k n A ks.length c)] w (oS w r):=by
 have hlen:=fA hv;have hnz:∀o,r = .ok o→oY o=true:=fun o ho=>(zC hv hvc (by rw [hs,ho])).1
 have hs0:=hs;rw [dQ] at hs;by_cases h3:k=3∨k=13
 ·rw [if_pos h3] at hs;have h0:aU k=2:=by rcases h3 with rfl|rfl<;>rfl
  obtain ⟨⟨ka,na,sa⟩,⟨kb,nb,sb⟩,rfl⟩:=aIa (ks:=ks) (by omega);exact aOk ctx C cc k n _ A c r w (by rcases h3 with rfl|rfl<;>decide) (aD (fun w hrc hr=>qG ih ctx C cc k n A c ka na sa kb nb sb r w hs (aT (i:=0) hv (by simp)) (aT (i:=1) hv (by simp)) hvc hm hrc hr)) hnz hrc hr
 rw [if_neg h3] at hs;have q3:(k==3)=false:=kq (fun h=>h3 (.inl h));have q13:(k==13)=false:=kq (fun h=>h3 (.inr h));by_cases h4:k=4
 ·rw [if_pos h4] at hs;have h0:aU k=2:=by rw [h4];rfl
  obtain ⟨⟨ka,na,sa⟩,⟨kb,nb,sb⟩,rfl⟩:=aIa (ks:=ks) (by omega);exact aNh ctx C cc k n _ A c r w q3 q13 (by simpa using h4) (aD (fun w hrc hr=>aLf ih ctx C cc k n A c ka na sa kb nb sb r w hs (aT (i:=0) hv (by simp)) (aT (i:=1) hv (by simp)) hvc hm hrc hr)) hnz hrc hr
 rw [if_neg h4] at hs;by_cases h5:k=5
 ·rw [if_pos h5] at hs;have h0:aU k=2:=by rw [h5];rfl
  obtain ⟨⟨ka,na,sa⟩,⟨kb,nb,sb⟩,rfl⟩:=aIa (ks:=ks) (by omega);exact aOl ctx C cc k n _ A c r w q3 q13 (kq h4) (by simpa using h5) (aD (fun w hrc hr=>aKr ih ctx C cc k n A c ka na sa kb nb sb r w hs (aT (i:=0) hv (by simp)) (aT (i:=1) hv (by simp)) hvc hm hrc hr)) hnz hrc hr
 rw [if_neg h5] at hs;by_cases h9:k=9
 ·rw [if_pos h9] at hs;have h0:aU k=4:=by rw [h9];rfl
  obtain ⟨⟨ka,na,sa⟩,⟨kb,nb,sb⟩,⟨kd,nd,sd⟩,⟨ke,ne,se⟩,rfl⟩:=aTi (ks:=ks) (by omega);exact aNk ctx C cc k n _ A c r w q3 q13 (kq h4) (kq h5) (by simpa using h9) (aD (fun w hrc hr=>aId ih ctx C cc k n A c ka na sa kb nb sb kd nd sd ke ne se r w hs (aT (i:=0) hv (by simp)) (aT (i:=1) hv (by simp)) (aT (i:=2) hv (by simp)) (aT (i:=3) hv (by simp)) hvc hm hrc hr)) hnz hrc hr
 rw [if_neg h9] at hs;by_cases h10:k=10
 ·rw [if_pos h10] at hs;have h0:aU k=3:=by rw [h10];rfl
  obtain ⟨⟨ka,na,sa⟩,⟨kb,nb,sb⟩,⟨kd,nd,sd⟩,rfl⟩:=aDt (ks:=ks) (by omega);exact aOs ctx C cc k n _ A c r w q3 q13 (kq h4) (kq h5) (kq h9) (by simpa using h10) (aD (fun w hrc hr=>aNe ih ctx C cc k n A c ka na sa kb nb sb kd nd sd r w hs (aT (i:=0) hv (by simp)) (aT (i:=1) hv (by simp)) (aT (i:=2) hv (by simp)) hvc hm hrc hr)) hnz hrc hr
 rw [if_neg h10] at hs;by_cases h12:k=12
 ·rw [if_pos h12] at hs;have h0:aU k=3:=by rw [h12];rfl
  obtain ⟨⟨ka,na,sa⟩,⟨kb,nb,sb⟩,⟨kd,nd,sd⟩,rfl⟩:=aDt (ks:=ks) (by omega);exact aNg ctx C cc k n _ A c r w q3 q13 (kq h4) (kq h5) (kq h9) (kq h10) (by simpa using h12) (aD (fun w hrc hr=>aHa ih ctx C cc k n A c ka na sa kb nb sb kd nd sd r w hs (aT (i:=0) hv (by simp)) (aT (i:=1) hv (by simp)) (aT (i:=2) hv (by simp)) hvc hm hrc hr)) hnz hrc hr
 rw [if_neg h12] at hs;by_cases h14:k=14
 ·rw [if_pos h14] at hs;have h0:aU k=3:=by rw [h14];rfl
  obtain ⟨⟨ka,na,sa⟩,⟨kb,nb,sb⟩,⟨kd,nd,sd⟩,rfl⟩:=aDt (ks:=ks) (by omega);exact aOm ctx C cc k n _ A c r w q3 q13 (kq h4) (kq h5) (kq h9) (kq h10) (kq h12) (by simpa using h14) (aD (fun w hrc hr=>aHp ih ctx C cc k n A c ka na sa kb nb sb kd nd sd r w hs (aT (i:=0) hv (by simp)) (aT (i:=1) hv (by simp)) (aT (i:=2) hv (by simp)) hvc hm hrc hr)) hnz hrc hr
 exact aOo ctx C cc k n ks A c r w q3 q13 (kq h4) (kq h5) (kq h9) (kq h10) (kq h12) (kq h14) (aD (fun w hrc hr=>aDd ih ctx C cc k n ks A c r w hv ⟨h3,h4,h5,h9,h10,h12,h14⟩ hs0 hvc hm hrc hr)) hnz hrc hr
theorem aGu {N:Nat}(ih:nD N):nD (N+1):=by
 intro ctx k n ks r hs hv hvc hm C cc A c w hrc hr;have hM:=aH hv;have hv':=aD hv;rw [bH] at hs;by_cases hl:ctx.length≤20
 ·rw [if_pos ⟨hv,hl⟩] at hs;have ql:decide ((20:Int)<(ctx.length:Int))=false:=decide_eq_false (by omega);have ql2:decide (20<ctx.length)=false:=decide_eq_false (by omega);rcases aL hs with ⟨b,h1,rfl⟩|⟨⟨k3,n3,s3⟩,h1,hs⟩
  ·have hK:=aD (fun (w:World) (hrc:Rd w C 0 ctx) (hr:Rd w A 0 ks)=>yF ih ctx C cc k n ks A c _ w hv h1 hvc hl hrc hr);have qb:=eO b;clear hs h1 hv hvc ih;go_enter func74,ntmps74;go_wp2_with (first
    | (go_at_call 102;have _t:=tok;refine (hK.out _ (hrc.below g1) (hr.below g1)).mono ?_;rintro e w2 ⟨k3,n3,A3,l3,c3,rfl,hb2⟩;have hZ2:=(hZ1.keep hb2).alloc (.cells (Ro k3 n3 A3 l3 c3) 32);have g2:=(g1.trans (hb2.mono g1.size)).alloc (by have:=g1.size;have:=hb2.size;omega) (.cells (Ro k3 n3 A3 l3 c3) 32);clear d0 d1 d2 e0 e1 e2 lz;obtain ⟨d0,d1,d2,e0,e1,e2,lz⟩:=dJ hZ2;clear tok;have tok2:=trivial)
    | (go_at_call 41;refine (aV k n ks A c _ (by omega) ((hr.alloc _).alloc _)).mono ?_;rw [hv'.out];rintro e w1 ⟨rfl,hb1⟩;have hT1:Blk w1 w.heap.size (Ro k n A ks.length c):=((aC w 32 (Ro k n A ks.length c) rfl).alloc _).keep hb1;have hZ1:Blk w1 (w.heap.size+1) Zr:=(aC _ 32 Zr (by simp)).keep hb1;have g1:Bw w w1:=bU bw2 hb1;obtain ⟨x0,x1,x2⟩:=hT1.three;obtain ⟨d0,d1,d2,e0,e1,e2,lz⟩:=dJ hZ1;have tok:=trivial))
   refine bodyPost_ret (v:=.tuple #[.agg Zr,.int .i64 (cX b)]) (by simp [results,results74,go_sem,d0,d1,d2]) rfl ⟨rfl,?_⟩;exact bP g2
  ·have hK:=aD (fun (w:World) (hrc:Rd w C 0 ctx) (hr:Rd w A 0 ks)=>yF ih ctx C cc k n ks A c _ w hv h1 hvc hl hrc hr);have hnz:=zC hv hvc h1;have hz3:aG s3≤1000000:=by have:=hnz.2;rw [Tm.size] at this;omega
   unfold fL at hs
   cases hvv:aE (.mk k3 n3 s3) with
   | false=>
    rw [if_neg (by rw [hvv];decide)] at hs;injection hs with hs;subst hs;have hvo:=aD hvv;clear h1 hv hvc ih hvv hnz;go_enter func74,ntmps74;go_wp2_with (first
     | (go_at_call 41;have _t:=tok2;refine (aV k3 n3 s3 A3 c3 _ (by omega) r4).mono ?_;rw [hvo.out];rintro e w3 ⟨rfl,hb3⟩;have hZ3:=hZ2.keep hb3;have hG3:=hG2.keep hb3;have g3:=g2.trans (hb3.mono g2.size);have r5:=r4.below hb3;clear y0 y1 y2 d0 d1 d2 e0 e1 e2 lz;obtain ⟨y0,y1,y2⟩:=hG3.three;obtain ⟨d0,d1,d2,e0,e1,e2,lz⟩:=dJ hZ3)
     | (go_at_call 102;have _t:=tok;refine (hK.out _ (hrc.below g1) (hr.below g1)).mono ?_;rintro e w2 ⟨A3,c3,rfl,hl3,r3,hb2⟩;have hZ2:=(hZ1.keep hb2).alloc (.cells (Ro k3 n3 A3 s3.length c3) 32);have g2:=(g1.trans (hb2.mono g1.size)).alloc (by have:=g1.size;have:=hb2.size;omega) (.cells (Ro k3 n3 A3 s3.length c3) 32);have r4:=r3.alloc (.cells (Ro k3 n3 A3 s3.length c3) 32);have hG2:=aC w2 32 (Ro k3 n3 A3 s3.length c3) rfl;obtain ⟨y0,y1,y2⟩:=hG2.three;clear d0 d1 d2 e0 e1 e2 lz;obtain ⟨d0,d1,d2,e0,e1,e2,lz⟩:=dJ hZ2;clear tok;have tok2:=trivial)
     | (go_at_call 41;refine (aV k n ks A c _ (by omega) ((hr.alloc _).alloc _)).mono ?_;rw [hv'.out];rintro e w1 ⟨rfl,hb1⟩;have hT1:Blk w1 w.heap.size (Ro k n A ks.length c):=((aC w 32 (Ro k n A ks.length c) rfl).alloc _).keep hb1;have hZ1:Blk w1 (w.heap.size+1) Zr:=(aC _ 32 Zr (by simp)).keep hb1;have g1:Bw w w1:=bU bw2 hb1;obtain ⟨x0,x1,x2⟩:=hT1.three;obtain ⟨d0,d1,d2,e0,e1,e2,lz⟩:=dJ hZ1;have tok:=trivial))
    refine bodyPost_ret (v:=.tuple #[.agg Zr,.int .i64 2]) (by simp [results,results74,go_sem,d0,d1,d2]) rfl ⟨rfl,?_⟩;exact bP g3
   | true=>
    rw [if_pos hvv] at hs;injection hs with hs;subst hs;have hvo:=aD hvv;clear h1 hv hvc ih hvv hnz;go_enter func74,ntmps74;go_wp2_with (first
     | (go_at_call 41;have _t:=tok2;refine (aV k3 n3 s3 A3 c3 _ (by omega) r4).mono ?_;rw [hvo.out];rintro e w3 ⟨rfl,hb3⟩;have hZ3:=hZ2.keep hb3;have hG3:=hG2.keep hb3;have g3:=g2.trans (hb3.mono g2.size);have r5:=r4.below hb3;clear y0 y1 y2 d0 d1 d2 e0 e1 e2 lz;obtain ⟨y0,y1,y2⟩:=hG3.three;obtain ⟨d0,d1,d2,e0,e1,e2,lz⟩:=dJ hZ3)
     | (go_at_call 102;have _t:=tok;refine (hK.out _ (hrc.below g1) (hr.below g1)).mono ?_;rintro e w2 ⟨A3,c3,rfl,hl3,r3,hb2⟩;have hZ2:=(hZ1.keep hb2).alloc (.cells (Ro k3 n3 A3 s3.length c3) 32);have g2:=(g1.trans (hb2.mono g1.size)).alloc (by have:=g1.size;have:=hb2.size;omega) (.cells (Ro k3 n3 A3 s3.length c3) 32);have r4:=r3.alloc (.cells (Ro k3 n3 A3 s3.length c3) 32);have hG2:=aC w2 32 (Ro k3 n3 A3 s3.length c3) rfl;obtain ⟨y0,y1,y2⟩:=hG2.three;clear d0 d1 d2 e0 e1 e2 lz;obtain ⟨d0,d1,d2,e0,e1,e2,lz⟩:=dJ hZ2;clear tok;have tok2:=trivial)
     | (go_at_call 41;refine (aV k n ks A c _ (by omega) ((hr.alloc _).alloc _)).mono ?_;rw [hv'.out];rintro e w1 ⟨rfl,hb1⟩;have hT1:Blk w1 w.heap.size (Ro k n A ks.length c):=((aC w 32 (Ro k n A ks.length c) rfl).alloc _).keep hb1;have hZ1:Blk w1 (w.heap.size+1) Zr:=(aC _ 32 Zr (by simp)).keep hb1;have g1:Bw w w1:=bU bw2 hb1;obtain ⟨x0,x1,x2⟩:=hT1.three;obtain ⟨d0,d1,d2,e0,e1,e2,lz⟩:=dJ hZ1;have tok:=trivial))
    refine bodyPost_ret (v:=.tuple #[.agg (Ro k3 n3 A3 s3.length c3),.int .i64 0]) (by simp [results,results74,go_sem,d0,d1,d2]) rfl ⟨A3,c3,rfl,hl3,iM hZ3 hvo.out r5 _ _ _,?_⟩;exact bP g3
 ·rw [if_neg (fun h=>hl h.2)] at hs;injection hs with hs;subst hs;have ql:decide ((20:Int)<(ctx.length:Int))=true:=decide_eq_true (by omega);have ql2:decide (20<ctx.length)=true:=decide_eq_true (by omega);clear hv hvc ih;go_enter func74,ntmps74;go_wp2_with (go_at_call 41;refine (aV k n ks A c _ (by omega) ((hr.alloc _).alloc _)).mono ?_;rw [hv'.out];rintro e w1 ⟨rfl,hb1⟩;have hT1:Blk w1 w.heap.size (Ro k n A ks.length c):=((aC w 32 (Ro k n A ks.length c) rfl).alloc _).keep hb1;have hZ1:Blk w1 (w.heap.size+1) Zr:=(aC _ 32 Zr (by simp)).keep hb1;have g1:Bw w w1:=bU bw2 hb1;obtain ⟨x0,x1,x2⟩:=hT1.three;obtain ⟨d0,d1,d2,e0,e1,e2,lz⟩:=dJ hZ1;have tok:=trivial)
  refine bodyPost_ret (v:=.tuple #[.agg Zr,.int .i64 2]) (by simp [results,results74,go_sem,d0,d1,d2]) rfl ⟨rfl,?_⟩;exact bP g1
theorem vC:∀N,nD N
 | 0=>fun _ _ _ _ _ h=>by cases h
 | N+1=>aGu (vC N)
def kB (ctx:List Tm):Bool:=ctx.all (fun t=>aE t) && decide (ctx.length≤8)
def ccG (N:Nat)(ctx:List Tm):Nat→Option Int
 | 0=>some 0
 | m+1=>match jA (bH N) (ctx.take (ctx.length - (m+1))) (ctx.getD (ctx.length - (m+1)) default) with
  | none=>none
  | some (.no b)=>some (cX b)
  | some (.ok _)=>ccG N ctx m
def ccR (N:Nat)(ctx:List Tm):Option Int:=if kB ctx=true then ccG N ctx ctx.length else some 3
theorem jN {ctx:List Tm}(h:kB ctx=true):(∀u,u∈ctx→aE u=true)∧ctx.length≤8:=by
 simp only [kB,Bool.and_eq_true,List.all_eq_true,decide_eq_true_eq] at h
 exact h
theorem Rd.take {w:World}{A:Option Addr}:∀{ts:List Tm} {i:Nat} (n:Nat),Rd w A i ts→Rd w A i (ts.take n)
 | [],i,n,h=>by simpa using h
 | t::ts,i,0,h=>Rd.nil
 | t::ts,i,n+1,h=>by
  rw [List.take_succ_cons];exact Rd.cons_iff.2 ⟨(Rd.cons_iff.1 h).1,Rd.take n (Rd.cons_iff.1 h).2⟩
theorem sU (ctx:List Tm)(C:Option Addr)(cc:Nat)(w:World)(hsz:aG ctx≤2000000)(hrc:Rd w C 0 ctx) :
  Calls prog 40 #[.slice C ctx.length cc] w fun e w'=>e = .returned (.bool (kB ctx))∧Bw w w':=by
 have hlen:=aJ ctx;obtain ⟨bb,hbb⟩:∃b,kB ctx=b:=⟨_,rfl⟩;rw [hbb];replace hbb:=aD hbb;go_enter func40,ntmps40;go_wp2_with fail
 go_loopw [3] (fun jv wr=>∃j:Nat,j≤ctx.length∧jv = .int .i64 j∧Hid (∀i (hi:i<ctx.length),i<j→aE ctx[i]=true)∧Bw w wr) (fun jv _=>ctx.length - (intOf jv).toNat)
 case atStart=>exact ⟨0,Nat.zero_le _,rfl,aD (fun i hi h=>absurd h (by omega)),eR _ _⟩
 case round=>
  obtain ⟨j,hj,rfl,hval,hb⟩:=hrel;by_cases hlt:j<ctx.length
  ·obtain ⟨b,off,k',n',ks',A',c',rfl,hkj,hc1,hc2,hc3,hl',hr'⟩:=(hrc.below hb).at_ hlt;have hsz2:=cF (iC hlt);rw [hkj] at hsz2;simp only [Tm.size] at hsz2
   have H5:=aD hkj;have hlk:(j:Int)<(ctx.length:Int):=by omega
   cases hvv:aE (.mk k' n' ks') with
   | false=>
    have hv':=aD hvv;obtain rfl:bb=false:=by
     rw [← hbb.out];unfold kB
     rw [Bool.and_eq_false_iff];left
     rw [List.all_eq_false];exact ⟨ctx[j],iC hlt,by rw [hkj,hvv];decide⟩
    clear hkj hvv;go_wp2_with (go_at_call 41;refine (aV k' n' ks' A' c' _ (by omega) hr').mono ?_;rw [hv'.out];rintro e w2 ⟨rfl,hb2⟩)
    go_ret
    exact ⟨rfl,hb.trans (hb2.mono hb.size)⟩
   | true=>
    have hv':=aD hvv;clear hkj hvv;go_wp2_with (go_at_call 41;refine (aV k' n' ks' A' c' _ (by omega) hr').mono ?_;rw [hv'.out];rintro e w2 ⟨rfl,hb2⟩)
    refine ⟨⟨j+1,by omega,by go_num,aD (fun i hi hij=>?_),hb.trans (hb2.mono hb.size)⟩,by simp [intOf];omega⟩;by_cases hij2:i=j
    ·subst hij2;rw [H5.out];exact hv'.out
    ·exact hval.out i hi (by omega)
  ·have hje:j=ctx.length:=by omega
   subst hje;have hall:ctx.all (fun t=>aE t)=true:=by
    rw [List.all_eq_true];intro u hu;obtain ⟨i,hi,rfl⟩:=List.mem_iff_getElem.1 hu;exact hval.out i hi hi
   have hq:decide ((ctx.length:Int)≤8)=bb:=by
    rw [← hbb.out];unfold kB
    rw [hall,Bool.true_and];rw [decide_eq_decide];omega
   have hq2:decide (ctx.length≤8)=bb:=by
    rw [← hbb.out];unfold kB
    rw [hall,Bool.true_and]
   go_wp2_with fail
   go_ret
   exact ⟨rfl,hb⟩
theorem pT (N:Nat)(ctx:List Tm)(C:Option Addr)(cc:Nat)(co:Int)(w:World)(hs:ccR N ctx=some co)(hcc:ctx.length≤cc)(hsz:aG ctx≤2000000)(hrc:Rd w C 0 ctx) :
  Calls prog 42 #[.slice C ctx.length cc] w fun e w'=>e = .returned (.int .i64 co)∧Bw w w':=by
 have hlen:=aJ ctx;have hF:=aD (fun (w:World) (hrc:Rd w C 0 ctx)=>sU ctx C cc w hsz hrc);unfold ccR at hs
 cases hf:kB ctx with
 | false=>
  rw [hf,if_neg (by decide)] at hs;injection hs with hs;subst hs;rw [hf] at hF;clear hf;go_enter func42,ntmps42;go_wp2_with (go_at_call 40;refine (hF.out _ hrc).mono ?_;rintro e w1 ⟨rfl,hb1⟩)
  go_ret
  exact ⟨rfl,hb1⟩
 | true=>
  rw [hf,if_pos rfl] at hs;rw [hf] at hF;have hi:=jN hf;have hl8:=hi.2;have hvc:=aD hi.1;replace hs:=aD hs;clear hf hi;go_enter func42,ntmps42;go_wp2_with (go_at_call 40;refine (hF.out _ hrc).mono ?_;rintro e w1 ⟨rfl,hb1⟩)
  go_loopw [3] (fun jv wr=>∃j:Nat,j≤ctx.length∧jv = .int .i64 j∧Hid (ccG N ctx (ctx.length - j)=some co)∧Bw w wr) (fun jv _=>ctx.length - (intOf jv).toNat)
  case atStart=>exact ⟨0,Nat.zero_le _,rfl,hs,hb1⟩
  case round=>
   obtain ⟨j,hj,rfl,hinv,hb⟩:=hrel;by_cases hlt:j<ctx.length
   ·obtain ⟨b,off,k',n',ks',A',c',rfl,hkj,hc1,hc2,hc3,hl',hr'⟩:=(hrc.below hb).at_ hlt;have hvk:=hvc.out _ (iC hlt);rw [hkj] at hvk;have hlk:(j:Int)<(ctx.length:Int):=by omega
    have hst:=hinv.out;rw [show ctx.length - j=(ctx.length - j - 1)+1 by omega,ccG,show ctx.length - (ctx.length - j - 1+1)=j by omega,show ctx.getD j default = .mk k' n' ks' by rw [← hkj];simp [List.getD,qR hlt]] at hst;obtain ⟨cx,hcx⟩:∃cx,ctx.take j=cx:=⟨_,rfl⟩;have hcl:cx.length=j:=by rw [← hcx];simp;omega
    have hcv:∀u,u∈cx→aE u=true:=by rw [← hcx];exact fun u hu=>hvc.out u (List.mem_of_mem_take hu)
    have hrx:=fun (w':World) (h:Rd w' (some ⟨b,off,none⟩) 0 ctx)=>show Rd w' (some ⟨b,off,none⟩) 0 cx by rw [← hcx];exact h.take j
    replace hrx:=aD hrx;rw [hcx] at hst;clear hcx;cases hr0:jA (bH N) cx (.mk k' n' ks') with
    | none=>rw [hr0] at hst;cases hst
    | some rr=>
     have hS:=aD (fun (w:World) (hrc:Rd w (some ⟨b,off,none⟩) 0 cx) (hra:Rd w A' 0 ks')=>dV (vC N) cx (some ⟨b,off,none⟩) cc k' n' ks' A' c' rr w hr0 hvk hcv (by omega) hrc hra);rw [hcl] at hS;rw [hr0] at hst;have hjc:j≤cc:=by omega
     have hjc2:(j:Int)≤(cc:Int):=by omega
     cases rr with
     | no b2=>
      injection hst with hst;subst hst;have qb:=eO b2;clear hr0 hvk hcv hkj;go_upto_region 6 with fail
      obtain ⟨y1,y2,y3⟩:=qD hc1 hc2 hc3;clear hc1 hc2 hc3;have kwwr:=hb;refine eT wr [8,9,10,11,12] [0,1,2,3,4,5,6] 13 6 (lT:=[_,_,_,_,_,_,_]) ?_;intro q0 bq0;refine bZ (aD ?_);refine bB 7 ?_
      ·go_wp2_with (go_at_call 43;refine (hS.out _ (hrx.out _ ((hrc.below kwwr).below bq0)) (hr'.below bq0)).mono ?_;rintro e q1 ⟨l3,rfl,hbq1⟩)
       refine aX bq0 hbq1 ?_;intro bq1 lq1;refine fB [8,9,10] 2 (lT:=[_,_,_]) ?_;refine bZ (aD ?_);refine cP [11,12] (lB:=[_,_]) ?_;refine gS (aD ?_);have kwq1:=kwwr.trans (bq1.mono kwwr.size);have kwrq1:=bq1;go_wp2_with fail
       go_ret
       exact ⟨rfl,kwq1⟩
     | ok l2=>
      have hst':=aD (show ccG N ctx (ctx.length - (j+1))=some co from hst);clear hr0 hvk hcv hkj hst;go_upto_region 6 with fail
      obtain ⟨y1,y2,y3⟩:=qD hc1 hc2 hc3;clear hc1 hc2 hc3;have kwwr:=hb;refine eT wr [8,9,10,11,12] [0,1,2,3,4,5,6] 13 6 (lT:=[_,_,_,_,_,_,_]) ?_;intro q0 bq0;refine bZ (aD ?_);refine bB 7 ?_
      ·go_wp2_with (go_at_call 43;refine (hS.out _ (hrx.out _ ((hrc.below kwwr).below bq0)) (hr'.below bq0)).mono ?_;rintro e q1 ⟨rfl,hbq1⟩)
       refine aX bq0 hbq1 ?_;intro bq1 lq1;refine fB [8,9,10] 2 (lT:=[_,_,_]) ?_;refine bZ (aD ?_);refine cP [11,12] (lB:=[_,_]) ?_;refine gS (aD ?_);have kwq1:=kwwr.trans (bq1.mono kwwr.size);have kwrq1:=bq1;go_wp2_with fail
       exact ⟨⟨j+1,by omega,by go_num,hst',kwq1⟩,by simp [intOf];omega⟩
   ·have hje:j=ctx.length:=by omega
    subst hje;obtain rfl:co=0:=by have:=hinv.out;rw [Nat.sub_self,ccG] at this;injection this with this;exact this.symm
    go_wp2_with fail
    go_ret
    exact ⟨rfl,hb⟩
inductive NT where
 | var (i:Nat)
 | zero
 | suc (a:NT)
 | app (b a:NT)
 | elim (z s n:NT)
 | part (q:Bool) (a b:NT)
 | mov (x z:NT)
def NT.ok:Nat→NT→Prop
 | n,.var i=>i<n
 | _,.zero=>True
 | n,.suc a=>a.ok n
 | n,.app b a=>b.ok (n+1)∧a.ok n
 | n,.elim z s m=>z.ok n∧s.ok (n+2)∧m.ok n
 | n,.part _ a b=>a.ok n∧b.ok n
 | n,.mov x z=>x.ok n∧z.ok n
def NT.dp:NT→Nat
 | .var _=>0
 | .zero=>0
 | .suc a=>a.dp
 | .app b a=>max (b.dp+1) a.dp
 | .elim z s n=>max (max z.dp (s.dp+2)) n.dp
 | .part _ a b=>max (max a.dp b.dp) 1
 | .mov x z=>max (max x.dp z.dp) 1
namespace NT
def shift (m:Nat):Nat→NT→NT
 | c,.var i=>if c≤i then .var (i+m) else .var i
 | _,.zero=>.zero
 | c,.suc a=>.suc (a.shift m c)
 | c,.app b a=>.app (b.shift m (c+1)) (a.shift m c)
 | c,.elim z s n=>.elim (z.shift m c) (s.shift m (c+2)) (n.shift m c)
 | c,.part q a b=>.part q (a.shift m c) (b.shift m c)
 | c,.mov x z=>.mov (x.shift m c) (z.shift m c)
def sub (a:NT):Nat→NT→NT
 | k,.var i=>if i=k then a.shift k 0 else if k<i then .var (i - 1) else .var i
 | _,.zero=>.zero
 | k,.suc b=>.suc (sub a k b)
 | k,.app b c=>.app (sub a (k+1) b) (sub a k c)
 | k,.elim z s n=>.elim (sub a k z) (sub a (k+2) s) (sub a k n)
 | k,.part q x y=>.part q (sub a k x) (sub a k y)
 | k,.mov x z=>.mov (sub a k x) (sub a k z)
end NT
namespace NT
def idx:NT→Option NT
 | .elim z s n=>some n
 | .mov x z=>some x
 | .app b a=>(idx b).map (sub a 0)
 | _=>none
inductive Gd:Nat→NT→Prop where
 | var {n i:Nat} (h:i<n):Gd n (.var i)
 | zero {n:Nat}:Gd n .zero
 | suc {n:Nat} {a:NT} (h:Gd n a):Gd n (.suc a)
 | app {n:Nat} {b a:NT} (h1:Gd (n+1) b) (h2:Gd n a) (h3:∀u,idx b=some u→Gd n (sub a 0 u)):Gd n (.app b a)
 | elim {n:Nat} {z s m:NT} (h1:Gd n z) (h2:Gd (n+2) s) (h3:Gd n m):Gd n (.elim z s m)
 | part {n:Nat} {q:Bool} {a b:NT} (h1:Gd n a) (h2:Gd n b):Gd n (.part q a b)
 | mov {n:Nat} {x z:NT} (h1:Gd n x) (h2:Gd n z):Gd n (.mov x z)
end NT
theorem aEx {n:Int}{p:Tm}(hv:aE (.mk 16 n [p])=true):aE (.mk 15 0 [p])=true:=by
 unfold aE at hv⊢
 rw [Bool.and_eq_true,decide_eq_true_eq] at hv⊢;refine ⟨?_,by have:=hv.2;simpa [Tm.size] using this⟩;have h1:=((bF 29 16 n [p]).1 hv.1).2.2.2;exact (bF 29 15 0 [p]).2 ⟨rfl,by omega,by decide,h1⟩
theorem aHn (k n:Int)(ks:List Tm)(A:Option Addr)(c:Nat)(w:World)(hv:aE (.mk k n ks)=true)(hr:Rd w A 0 ks) :
  Calls prog 80 #[.agg (Ro k n A ks.length c)] w fun e w'=>e = .returned (.bool false)∧Bw w w':=by
 have hz:=aH hv;have hv':=aD hv;clear hv;go_enter func80,ntmps80;go_wp2_with (go_at_call 58;refine (bI k n ks A c _ (by omega) (hr.alloc _)).mono ?_;rw [hv'.out];rintro e w1 ⟨rfl,hb1⟩;have g1:Bw w w1:=bU bw1 hb1)
 go_ret
 exact ⟨rfl,g1⟩
theorem aHy (ts:List Tm)(A:Option Addr)(c:Nat)(w:World)(hl:ts.length≤1000000)(hts:∀u,u∈ts→aE u=true)(hr:Rd w A 0 ts) :
  Calls prog 106 #[.slice A ts.length c,.func (.func 80) #[] #[]] w fun e w'=>e = .returned (.int .i64 (-1))∧Bw w w':=by
 go_enter func106,ntmps106;go_wp2_with fail
 go_loopw [8] (fun i wr=>∃j:Nat,j≤ts.length∧i = .int .i64 j∧Bw w wr)
  (fun i _ => ts.length - (intOf i).toNat)
 case atStart=>exact ⟨0,Nat.zero_le _,rfl,eR _ _⟩
 case round=>
  obtain ⟨j,hj,rfl,hb⟩:=hrel;by_cases hlt:j<ts.length
  ·obtain ⟨b,off,k1,n1,ks1,A1,c1,rfl,hkj,hc1,hc2,hc3,hl1,hr1⟩:=(hr.below hb).at_ hlt;have hv1:=hts _ (iC hlt);rw [hkj] at hv1;have hv1':=aD hv1;clear hkj hv1;go_wp2_with (go_at_call 80;refine (aHn k1 n1 ks1 A1 c1 _ hv1'.out hr1).mono ?_;rintro e w3 ⟨rfl,hb3⟩)
   go_roundw
   case rel=>exact ⟨j+1,by omega,by go_num,hb.trans (hb3.mono hb.size)⟩
   case measure=>simp [intOf];omega
  ·go_wp2_with fail
   go_ret
   exact ⟨rfl,hb⟩
theorem aLt (ts:List Tm)(A:Option Addr)(c:Nat)(w:World)(hl:ts.length≤1000000)(hts:∀u,u∈ts→aE u=true)(hr:Rd w A 0 ts) :
  Calls prog 79 #[.slice A ts.length c,.func (.func 80) #[] #[]] w fun e w'=>e = .returned (.bool false)∧Bw w w':=by
 have htsh:=aD hts;clear hts;go_enter func79,ntmps79;go_wp2_with (go_at_call 106;refine (aHy ts A c _ hl htsh.out hr).mono ?_;rintro e w1 ⟨rfl,hb1⟩)
 go_ret
 exact ⟨rfl,hb1⟩
theorem aCf (k n:Int)(ks:List Tm)(A:Option Addr)(c:Nat)(k2 n2:Int)(s2:List Tm)(A2:Option Addr)(c2:Nat)(w:World)(hz:aG ks≤1000000)(hv2:aE (.mk k2 n2 s2)=true)(hr:Rd w A 0 ks)(hr2:Rd w A2 0 s2) :
  Calls prog 30 #[.agg (Ro k n A ks.length c),.agg (Ro k2 n2 A2 s2.length c2)] w fun e w'=>e = .returned (.int .i64 (ylI 0 (yl (.mk k2 n2 s2) 4 (.mk k n ks))))∧Bw w w':=by
 obtain ⟨R,hR⟩:∃R,ylI 0 (yl (.mk k2 n2 s2) 4 (.mk k n ks))=R:=⟨_,rfl⟩;rw [hR];have hR':=aD hR;have hv2':=aD hv2;have hz2:=aH hv2;clear hR hv2;go_enter func30,ntmps30;go_wp2_with fail
 go_loopw [5] (fun s wr=>∃(m:Nat) (k n:Int) (ks:List Tm) (A:Option Addr) (c:Nat),m≤4∧s = .int .i64 (4 - (m:Int))∧Blk wr w.heap.size (Ro k n A ks.length c)∧Blk wr (w.heap.size+1) (Ro k2 n2 A2 s2.length c2)∧RdP (·≠w.heap.size) wr A 0 ks∧aG ks≤1000000∧Hid (ylI (4 - (m:Int)) (yl (.mk k2 n2 s2) m (.mk k n ks))=R)∧Bw w wr)
  (fun s _ => 4 - (intOf s).toNat)
 case atStart=>exact ⟨4,k,n,ks,A,c,oL _,rfl,((aC _ _ _ rfl).alloc _),aC _ _ _ (by simp),((hr.rdp.mono (fun b hb=>by have hb:b<w.heap.size:=hb;show b≠_;omega)).alloc _).alloc _,hz,aD (by simpa using hR'.out),bw2⟩
 case round=>
  clear hR' hz hr;obtain ⟨m,k,n,ks,A,c,hm,rfl,hB1,hB2,hrp,hz,hR',hb⟩:=hrel;have hra:=hrp.rd;obtain ⟨b0,b1,b2⟩:=hB1.three;by_cases hv:aE (.mk k n ks)=true
  rotate_left
  ·have hv:=Bool.eq_false_iff.2 hv;have hRv:=hR'.out;rw [aKc hv] at hRv;have hRv : -1=R:=hRv;have hv':=aD hv;clear hv hR';go_wp2_with (go_at_call 41;refine (aV k n ks A c _ (by omega) hra).mono ?_;rw [hv'.out];rintro e w1 ⟨rfl,hb1⟩)
   go_ret
   exact ⟨by subst hRv;rfl,hb.trans (hb1.mono hb.size)⟩
  have hv':=aD hv;cases m with
  | zero=>
   have hRv:=hR'.out;rw [yl] at hRv;have hRv : -1=R:=hRv;clear hv hR';go_wp2_with (go_at_call 41;refine (aV k n ks A c _ (by omega) hra).mono ?_;rw [hv'.out];rintro e w1 ⟨rfl,hb1⟩)
   go_ret
   exact ⟨by subst hRv;rfl,hb.trans (hb1.mono hb.size)⟩
  | succ m=>
   have q0:decide ((4:Int) - ((m+1:Nat):Int)≤3)=true:=decide_eq_true (by omega);have tok0:=trivial;cases hh:lD (.mk k n ks) with
   | no b=>
    have hRv:=hR'.out;rw [aPu hh] at hRv;have hRv : -1=R:=hRv;have hH:=aD (fun (w:World) (A:Option Addr) (c:Nat) (hr:Rd w A 0 ks)=>by have:=mP k n ks A c w hv'.out hr;rw [hh] at this;exact this);have qb:=eO b;clear hv hR' hh;go_wp2_with (first
     | (go_at_call 45;have _t:=tok1;refine (hH.out _ A c hra1).mono ?_;rintro e w2 ⟨k3,n3,A3,l3,c3,rfl,hb2⟩;have g2:=(g1.trans (hb2.mono g1.size)).alloc (by have:=g1.size;have:=hb2.size;omega) (.cells (Ro k3 n3 A3 l3 c3) 32))
     | (go_at_call 41;have _t:=tok0;refine (aV k n ks A c _ (by omega) hra).mono ?_;rw [hv'.out];rintro e w1 ⟨rfl,hb1⟩;have g1:=hb.trans (hb1.mono hb.size);have hra1:=hra.below hb1;have hB11:=hB1.keep hb1;have hB21:=hB2.keep hb1;clear b0 b1 b2;obtain ⟨b0,b1,b2⟩:=hB11.three;have tok1:=trivial))
    go_ret
    exact ⟨by subst hRv;rfl,g2⟩
   | ok h=>
    obtain ⟨kh,nh,sh⟩:=h;have hvh:=(dC hh).2.1;have hH:=aD (fun (w:World) (A:Option Addr) (c:Nat) (hr:Rd w A 0 ks)=>by have:=mP k n ks A c w hv'.out hr;rw [hh] at this;exact this);have hS0:=fun (w:World) (A3:Option Addr) (c3:Nat) (hr:Rd w A3 0 sh) (hr2:Rd w A2 0 s2)=>mR kh nh sh A3 c3 k2 n2 s2 A2 c2 w hvh (by omega) hr hr2
    by_cases hc:eP 200 (.mk kh nh sh) (.mk k2 n2 s2)=1
    ·have hRv:=hR'.out;rw [aLj hh hc] at hRv;have hRv:(4 - ((m+1:Nat):Int))+((0:Nat):Int)=R:=hRv;have hsm:wR (.mk kh nh sh) (.mk k2 n2 s2) = .ok ():=by rw [wR,if_pos ⟨hvh,hv2'.out⟩,if_pos hc]
     rw [hsm] at hS0;have hS:=aD hS0;clear hv hR' hh hc hS0 hsm;go_wp2_with (first
      | (go_at_call 46;have _t:=tok2;refine (hS.out _ A3 c3 r4 (hr2.below g3)).mono ?_;rintro e w4 ⟨rfl,hb4⟩;have g4:=g3.trans (hb4.mono g3.size);have tok3:=trivial)
      | (go_at_call 45;have _t:=tok1;refine (hH.out _ A c hra1).mono ?_;rintro e w2 ⟨A3,c3,rfl,hl3,r3,hb2⟩;have g2:=g1.trans (hb2.mono g1.size);have hJ:=aC w2 32 (Ro kh nh A3 sh.length c3) rfl;have g3:=g2.alloc g2.size (.cells (Ro kh nh A3 sh.length c3) 32);have r4:=r3.alloc (.cells (Ro kh nh A3 sh.length c3) 32);have hB13:=(hB11.keep hb2).alloc (.cells (Ro kh nh A3 sh.length c3) 32);have hB23:=(hB21.keep hb2).alloc (.cells (Ro kh nh A3 sh.length c3) 32);obtain ⟨v0,v1,v2⟩:=hJ.three;obtain ⟨z0,z1,z2⟩:=hB23.three;have tok2:=trivial)
      | (go_at_call 41;have _t:=tok0;refine (aV k n ks A c _ (by omega) hra).mono ?_;rw [hv'.out];rintro e w1 ⟨rfl,hb1⟩;have g1:=hb.trans (hb1.mono hb.size);have hra1:=hra.below hb1;have hB11:=hB1.keep hb1;have hB21:=hB2.keep hb1;clear b0 b1 b2;obtain ⟨b0,b1,b2⟩:=hB11.three;have tok1:=trivial))
     go_ret
     exact ⟨by subst hRv;simp,g4⟩
    ·obtain ⟨b,hsm⟩:∃b,wR (.mk kh nh sh) (.mk k2 n2 s2) = .no b:=by
      rw [wR,if_pos ⟨hvh,hv2'.out⟩,if_neg hc];split<;>exact ⟨_,rfl⟩
     rw [hsm] at hS0;have hS:=aD (show ∀(w:World) (A3:Option Addr) (c3:Nat) (hr:Rd w A3 0 sh) (hr2:Rd w A2 0 s2),Calls prog 46 #[.agg (Ro kh nh A3 sh.length c3),.agg (Ro k2 n2 A2 s2.length c2)] w fun e w'=>e = .returned (.int .i64 (cX b))∧Bw w w' from hS0);have qb:=gK b;clear hS0 hsm;by_cases h3:kh=3
     rotate_left
     ·have hRv:=hR'.out;rw [aAb hh hc (fun h=>h3 h.1)] at hRv;have hRv : -1=R:=hRv;have q3:(kh != 3)=true:=by simpa using h3
      clear hv hR' hh hc h3;go_wp2_with (first
       | (go_at_call 46;have _t:=tok2;refine (hS.out _ A3 c3 r4 (hr2.below g3)).mono ?_;rintro e w4 ⟨rfl,hb4⟩;have g4:=g3.trans (hb4.mono g3.size);clear v0 v1 v2;obtain ⟨v0,v1,v2⟩:=(hJ.keep hb4).three;have tok3:=trivial)
       | (go_at_call 45;have _t:=tok1;refine (hH.out _ A c hra1).mono ?_;rintro e w2 ⟨A3,c3,rfl,hl3,r3,hb2⟩;have g2:=g1.trans (hb2.mono g1.size);have hJ:=aC w2 32 (Ro kh nh A3 sh.length c3) rfl;have g3:=g2.alloc g2.size (.cells (Ro kh nh A3 sh.length c3) 32);have r4:=r3.alloc (.cells (Ro kh nh A3 sh.length c3) 32);have hB13:=(hB11.keep hb2).alloc (.cells (Ro kh nh A3 sh.length c3) 32);have hB23:=(hB21.keep hb2).alloc (.cells (Ro kh nh A3 sh.length c3) 32);obtain ⟨v0,v1,v2⟩:=hJ.three;obtain ⟨z0,z1,z2⟩:=hB23.three;have tok2:=trivial)
       | (go_at_call 41;have _t:=tok0;refine (aV k n ks A c _ (by omega) hra).mono ?_;rw [hv'.out];rintro e w1 ⟨rfl,hb1⟩;have g1:=hb.trans (hb1.mono hb.size);have hra1:=hra.below hb1;have hB11:=hB1.keep hb1;have hB21:=hB2.keep hb1;clear b0 b1 b2;obtain ⟨b0,b1,b2⟩:=hB11.three;have tok1:=trivial))
      go_ret
      exact ⟨by subst hRv;rfl,g4⟩
     ·subst h3;obtain ⟨_,ka,na,sa,kb,nb,sb,he,hva,hvb⟩:=aLn hh rfl;injection he with _ e2 e3;subst e2 e3;have hT:=aD (fun (w:World) (A:Option Addr) (c:Nat) (hr:Rd w A 0 sb)=>aFe kb nb sb A c w hvb hr);by_cases ht:sX 0 (.mk kb nb sb)=0
      rotate_left
      ·have hRv:=hR'.out;rw [aAb hh hc (fun h=>ht h.2)] at hRv;have hRv : -1=R:=hRv;have q4:decide (0<sX 0 (.mk kb nb sb))=true:=decide_eq_true (by have:=(tm_le.1 (.mk kb nb sb) 0).1;omega);generalize sX 0 (.mk kb nb sb)=tv at *
       clear hv hR' hh hc ht;go_wp2_with (first
        | (go_at_call 47;have _t:=tok3;refine (hT.out _ Ab cb rb4).mono ?_;rintro e w5 ⟨rfl,hb5⟩;have g5:=g4.trans (hb5.mono g4.size))
        | (go_at_call 46;have _t:=tok2;refine (hS.out _ A3 c3 r4 (hr2.below g3)).mono ?_;rintro e w4 ⟨rfl,hb4⟩;have g4:=g3.trans (hb4.mono g3.size);have r5:=r4.below hb4;clear v0 v1 v2;obtain ⟨v0,v1,v2⟩:=(hJ.keep hb4).three;obtain ⟨bx,ox,kk,nn,ss,Ab,cb,rfl,hkk,d1,d2,d3,hlb,rb4⟩:=r5.at_ (j:=1) (by simp);injection hkk with e1 e2 e3;subst e1 e2 e3;simp only [Nat.zero_mul,Nat.add_zero,Nat.one_mul,Nat.zero_add] at d1 d2 d3;have tok3:=trivial)
        | (go_at_call 45;have _t:=tok1;refine (hH.out _ A c hra1).mono ?_;rintro e w2 ⟨A3,c3,rfl,hl3,r3,hb2⟩;have g2:=g1.trans (hb2.mono g1.size);have hJ:=aC w2 32 (Ro 3 nh A3 2 c3) rfl;have g3:=g2.alloc g2.size (.cells (Ro 3 nh A3 2 c3) 32);have r4:=r3.alloc (.cells (Ro 3 nh A3 2 c3) 32);have hB13:=(hB11.keep hb2).alloc (.cells (Ro 3 nh A3 2 c3) 32);have hB23:=(hB21.keep hb2).alloc (.cells (Ro 3 nh A3 2 c3) 32);obtain ⟨v0,v1,v2⟩:=hJ.three;obtain ⟨z0,z1,z2⟩:=hB23.three;have tok2:=trivial)
        | (go_at_call 41;have _t:=tok0;refine (aV k n ks A c _ (by omega) hra).mono ?_;rw [hv'.out];rintro e w1 ⟨rfl,hb1⟩;have g1:=hb.trans (hb1.mono hb.size);have hra1:=hra.below hb1;have hB11:=hB1.keep hb1;have hB21:=hB2.keep hb1;clear b0 b1 b2;obtain ⟨b0,b1,b2⟩:=hB11.three;have tok1:=trivial))
       go_ret
       exact ⟨by subst hRv;rfl,g5⟩
      ·have hRv:=hR'.out;rw [aGb hh hc ⟨rfl,ht⟩,aKa] at hRv;have hRv:ylI (4 - ((m+1:Nat):Int)+1) (yl (.mk k2 n2 s2) m (bT (-1) 0 (.mk kb nb sb)))=R:=hRv;rw [show 4 - ((m+1:Nat):Int)+1=4 - (m:Int) from by push_cast;omega] at hRv;obtain ⟨_,hvd⟩:=aFm hvb ht;have hT0:=aD (show ∀(w:World) (A:Option Addr) (c:Nat) (hr:Rd w A 0 sb),Calls prog 47 #[.agg (Ro kb nb A sb.length c),.int .i64 0] w fun e w'=>e = .returned (.int .i64 0)∧Bw w w' from fun w A c hr=>by have:=hT.out w A c hr;rw [ht] at this;exact this);obtain ⟨kd,nd,sd,hd⟩:∃a b l,bT (-1) 0 (.mk kb nb sb) = .mk a b l:=by cases bT (-1) 0 (.mk kb nb sb) with|mk a b l=>exact ⟨a,b,l,rfl⟩
       have hSh:=aD (show ∀(w:World) (A:Option Addr) (c:Nat) (hr:Rd w A 0 sb),Calls prog 29 #[.agg (Ro kb nb A sb.length c),.int .i64 (-1),.int .i64 0] w (qU w kd nd sd) from fun w A c hr=>by
        have hzb:=aH hvb;have:=gN _ kb nb sb A c (-1) 0 30 w (oH _) (by omega) (aZ hvb) (by omega) (by omega) (by omega) hr;rw [bT] at hd;injection hd with e1 e2 e3;rw [← e1,← e2,← e3];exact this)
       rw [hd] at hRv hvd;have hzd:=aH hvd;have hRd:=aD hRv;clear hv hR' hh hc ht hRv hvd hd hT;go_wp2_with (first
        | (go_at_call 29;have _t:=tok4;refine (hSh.out _ Ab cb (rb4.below hb5)).mono ?_;rintro e w6 ⟨A6,c6,rfl,hl6,hf6,hb6⟩;have g6:=g5.trans (hb6.mono g5.size);have hB16:=(hB14.keep hb5).keep hb6;have hB26:=(hB24.keep hb5).keep hb6;obtain ⟨x0,x1,x2,f0,f1,f2⟩:=bW hB16)
        | (go_at_call 47;have _t:=tok3;refine (hT0.out _ Ab cb rb4).mono ?_;rintro e w5 ⟨rfl,hb5⟩;have g5:=g4.trans (hb5.mono g4.size);clear v0 v1 v2;obtain ⟨v0,v1,v2⟩:=(hJ4.keep hb5).three;replace d1:=(cM hb5) _ _ d1;replace d2:=(cM hb5) _ _ d2;replace d3:=(cM hb5) _ _ d3;have tok4:=trivial)
        | (go_at_call 46;have _t:=tok2;refine (hS.out _ A3 c3 r4 (hr2.below g3)).mono ?_;rintro e w4 ⟨rfl,hb4⟩;have g4:=g3.trans (hb4.mono g3.size);have r5:=r4.below hb4;have hJ4:=hJ.keep hb4;have hB14:=hB13.keep hb4;have hB24:=hB23.keep hb4;clear v0 v1 v2 z0 z1 z2;obtain ⟨v0,v1,v2⟩:=hJ4.three;obtain ⟨bx,ox,kk,nn,ss,Ab,cb,rfl,hkk,d1,d2,d3,hlb,rb4⟩:=r5.at_ (j:=1) (by simp);injection hkk with e1 e2 e3;subst e1 e2 e3;simp only [Nat.zero_mul,Nat.add_zero,Nat.one_mul,Nat.zero_add] at d1 d2 d3;have tok3:=trivial)
        | (go_at_call 45;have _t:=tok1;refine (hH.out _ A c hra1).mono ?_;rintro e w2 ⟨A3,c3,rfl,hl3,r3,hb2⟩;have g2:=g1.trans (hb2.mono g1.size);have hJ:=aC w2 32 (Ro 3 nh A3 2 c3) rfl;have g3:=g2.alloc g2.size (.cells (Ro 3 nh A3 2 c3) 32);have r4:=r3.alloc (.cells (Ro 3 nh A3 2 c3) 32);have hB13:=(hB11.keep hb2).alloc (.cells (Ro 3 nh A3 2 c3) 32);have hB23:=(hB21.keep hb2).alloc (.cells (Ro 3 nh A3 2 c3) 32);obtain ⟨v0,v1,v2⟩:=hJ.three;obtain ⟨z0,z1,z2⟩:=hB23.three;have tok2:=trivial)
        | (go_at_call 41;have _t:=tok0;refine (aV k n ks A c _ (by omega) hra).mono ?_;rw [hv'.out];rintro e w1 ⟨rfl,hb1⟩;have g1:=hb.trans (hb1.mono hb.size);have hra1:=hra.below hb1;have hB11:=hB1.keep hb1;have hB21:=hB2.keep hb1;clear b0 b1 b2;obtain ⟨b0,b1,b2⟩:=hB11.three;have tok1:=trivial))
       have l5:=(hB14.keep hb5).lt;have r6:=hf6.rd'.mono (q:=(·≠w.heap.size)) (fun b hb e=>by subst e;omega);go_roundw
       case rel=>exact ⟨m,kd,nd,sd,A6,c6,by omega,by go_num,((hB16.set_ 0 _).set_ 1 _).set_ 2 _,((hB26.far (by simp) _).far (by simp) _).far (by simp) _,((r6.setCell (by simp) _).setCell (by simp) _).setCell (by simp) _,by omega,hRd,(bP g6)⟩
       case measure=>simp [intOf];omega
end Go.Proofs.YtjlaenhcemacdaaGreat
