/- Parts of the proof. No condition. -/
import Derived.Test.YtjlaenhcemacdaaGreatK10
import Derived.Test.YtjlaenhcemacdaaGreatK11
open Go.Proofs.Tryz
namespace Go.Proofs.YtjlaenhcemacdaaGreat
open Go.RowKit
set_option maxHeartbeats 8000000
set_option maxRecDepth 100000
set_option linter.unusedSimpArgs false
set_option linter.unusedVariables false
mutual
def cH:Tm->Option Tm
 | .mk k n ks=>if rdx k ks=0 then (if bF k<0 then none else (xP (bF k).toNat ks).map (Tm.mk k n)) else some (eF (.mk k n ks))
def xP:Nat->List Tm->Option (List Tm)
 | _,[]=>none
 | 0,t::ts=>(cH t).map (·::ts)
 | i+1,t::ts=>(xP i ts).map (t::·)
end
theorem oO:∀(ks:List Tm) (i:Nat) (h:i<ks.length),xP i ks=(cH ks[i]).map (ks.set i ·)
 | t::ts,0,h=>rfl
 | t::ts,i+1,h=>by
  have hi:i<ts.length:=by simpa using h
  rw [xP,oO ts i hi];simp only [List.getElem_cons_succ];cases cH ts[i]<;>rfl
def wD:Nat->Tm->Option Tm × Int
 | fuel,t=>match cH t with
  | none=>(some t,0)
  | some t'=>match fuel with
   | 0=>(none,1)
   | fuel+1=>if aE t'=true then wD fuel t' else (none,2)
theorem aDn:∀(ts:List Tm) (i:Nat) (h:i<ts.length),mF i ts=cA ts[i]
 | t::ts,0,h=>rfl
 | t::ts,i+1,h=>by rw [mF,aDn ts i (by simpa using h)];rfl
theorem eR:∀(ts:List Tm) (i:Nat),ts.length<=i->mF i ts=none/\xP i ts=none
 | [],i,h=>by cases i<;>exact ⟨rfl,rfl⟩
 | t::ts,0,h=>absurd h Ag
 | t::ts,i+1,h=>by rw [mF,xP,(eR ts i (by simpa using h)).1,(eR ts i (by simpa using h)).2];exact ⟨rfl,rfl⟩
theorem zJ:∀t:Tm,(cA t=none->cH t=none)/\∀p,cA t=some p->∃k n ks,nN t p=some (.mk k n ks)/\rdx k ks≠0/\cH t=some (kR t p (eF (.mk k n ks))):=by
 refine Tm.rec (motive_1:=λt=>(cA t=none->cH t=none)/\∀p,cA t=some p->∃k n ks,nN t p=some (.mk k n ks)/\rdx k ks≠0/\cH t=some (kR t p (eF (.mk k n ks))))
  (motive_2 := λts => ∀ t, t ∈ ts -> (cA t = none -> cH t = none) /\ ∀ p, cA t = some p -> ∃ k n ks, nN t p = some (.mk k n ks) /\ rdx k ks ≠ 0 /\ cH t = some (kR t p (eF (.mk k n ks)))) ?_ ?_ ?_
 ·intro k n ks ih;by_cases hr:rdx k ks=0
  ·by_cases hm:bF k<0
   ·rw [cA,cH,Av hr,Av hm,Av hr,Av hm];exact ⟨λ_=>rfl,λp h=>by cases h⟩
   ·rw [cA,cH,Av hr,Aw hm,Av hr,Aw hm];obtain ⟨i,hi⟩:∃i:Nat,bF k=(i:Int):=⟨(bF k).toNat,by omega⟩;rw [hi,Int.toNat_natCast];by_cases hl:i<ks.length
    ·rw [aDn ks i hl,oO ks i hl];have h:=ih _ (gM hl);refine ⟨λh0=>?_,λp hp=>?_⟩
     ·cases hh:cA ks[i] with
      | none=>rw [h.1 hh];rfl
      | some q=>rw [hh] at h0;cases h0
     ·cases hh:cA ks[i] with
      | none=>rw [hh] at hp;cases hp
      | some q=>
       rw [hh] at hp;injection hp with hp;subst hp;obtain ⟨k1,n1,ks1,ha,hr1,hs⟩:=h.2 q hh;refine ⟨k1,n1,ks1,?_,hr1,?_⟩
       ·rw [sT hl];exact ha
       ·rw [hs,aAa hl];rfl
    ·rw [(eR ks i Ac).1,(eR ks i Ac).2];exact ⟨λ_=>rfl,λp h=>by cases h⟩
  ·rw [cA,cH,Aw hr,Aw hr];refine ⟨(λh=>by cases h),λp hp=>?_⟩;injection hp with hp;subst hp;exact ⟨k,n,ks,rfl,hr,rfl⟩
 ·intro t h;cases h
 ·intro t ts h1 h2 u hu;rcases List.mem_cons.1 hu with rfl|hu
  ·exact h1
  ·exact h2 u hu
theorem aKe {t:Tm}{p:List Int}(hv:aE t=true)(hp:cA t=some p):∃t',cH t=some t'/\pB t p=vO t':=by
 obtain ⟨k,n,ks,ha,hr,hs⟩:=(zJ t).2 p hp;refine ⟨_,hs,?_⟩;have hu:=qE ha hv;rw [pB,ha];simp only [aBd hu hr];by_cases hc:aE (eF (.mk k n ks))=true
 ·rw [aCx hc]
 ·rw [tU hc,tU (λh=>hc (rY p t _ _ ha h))]
theorem tN:∀(fuel:Nat) (t:Tm),aE t=true->wD fuel t=redI cA fuel t
 | fuel,t,hv=>by
  rw [wD,redI];cases hp:cA t with
  | none=>rw [(zJ t).1 hp]
  | some p=>
   obtain ⟨t',hs,hc⟩:=aKe hv hp;rw [hs];cases fuel with
   | zero=>rfl
   | succ fuel=>
    simp only [hc];by_cases h:aE t'=true
    ·rw [Av h,aCx h];exact tN fuel t' h
    ·rw [Aw h,tU h]
theorem uO (k:Int)(w:Bb):Calls prog 129 #[.int .i64 k] w λe w'=>e = .returned (.int .i64 (bF k))/\Bw w w':=by
 unfold bF;by_cases h5:k=5
 ·subst h5;go_enter func129,ntmps129;go_wp2_with fail;go_ret;exact ⟨rfl,eI _ _⟩
 by_cases h15:k=15
 ·subst h15;go_enter func129,ntmps129;go_wp2_with fail;go_ret;exact ⟨rfl,eI _ _⟩
 by_cases h16:k=16
 ·subst h16;go_enter func129,ntmps129;go_wp2_with fail;go_ret;exact ⟨rfl,eI _ _⟩
 rw [Aw Ac];have q5:(k==5)=false:=by simpa using h5
 have q15:(k==15)=false:=by simpa using h15
 have q16:(k==16)=false:=by simpa using h16
 by_cases h12:k=12
 ·subst h12;go_enter func129,ntmps129;go_wp2_with fail;go_ret;exact ⟨rfl,eI _ _⟩
 have q12:(k==12)=false:=by simpa using h12
 by_cases h9:k=9
 ·subst h9;go_enter func129,ntmps129;go_wp2_with fail;go_ret;exact ⟨rfl,eI _ _⟩
 have q9:(k==9)=false:=by simpa using h9
 rw [Aw h9,Aw h12];go_enter func129,ntmps129;go_wp2_with fail;go_ret;exact ⟨rfl,eI _ _⟩
def aNv (t0:Tm)(m:Nat)(w:Bb)(e:Ending)(w':Bb):Prop:=
 ∃(k n:Int) (ks:List Tm) (A:Ba) (c:Nat) (b:Bool),.mk k n ks=(cH t0).getD t0/\b=(cH t0).isSome/\e = .returned (.tuple #[.agg (Ro k n A ks.length c),.bool b])/\ks.length<=9223372036854775807/\aG ks+1<=m/\RdP (λx=>if b=true then w.heap.size<=x else x<w.heap.size) w' A 0 ks/\Bw w w'
theorem jZ (d:Nat):∀(k n:Int) (ks:List Tm) (A:Ba) (c:Nat) (w:Bb),d<=30->aG ks<=400->shape d (.mk k n ks)=true->Rd w A 0 ks->
  Calls prog 103 #[.agg (Ro k n A ks.length c)] w (aNv (.mk k n ks) (190000+401*d) w):=by
 induction d with
 | zero=>intro k n ks A c w _ _ hs;simp [shape] at hs
 | succ d ih=>
 intro k n ks A c w hd hM hs hr;have hlen:=aJ ks;obtain ⟨d',hde,ha,_,_,hk⟩:=cD hs;obtain rfl:d'=d:=by omega
 have hk':=aD hk;have ha':=aD ha;have hs':=aD hs;replace ih:=aD ih;clear hk ha hs hde;by_cases hx:rdx k ks=0
 ·have hrd:=aD hx;obtain ⟨mm,hmm⟩:∃mm,bF k=mm:=⟨_,rfl⟩;have hmn:=aD hmm;by_cases hneg:mm<0
  ·have hst0:=aD (show cH (.mk k n ks)=none by rw [cH,Av hx,hmm,Av hneg]);have qm:decide (mm<0)=true:=decide_eq_true hneg;clear hx hmm;go_enter func103,ntmps103;go_wp2_with (first
    | (go_at_call 129;have _t:=tok;refine (uO k _).mono ?_;rw [hmn.out];rintro e w2 ⟨rfl,hb2⟩;replace hB:=hB.keep hb2;replace hZ:=hZ.keep hb2;clear x0 x1 x2;obtain ⟨x0,x1,x2⟩:=hB.three;have s2:=hZ.lt;have g2:=g1.trans (hb2.mono g1.size);have hr2:=hr.below g2;obtain ⟨d0,d1,d2,e0,e1,e2⟩:=bZ hZ;clear tok;have tok2:=trivial)
    | (go_at_call 127;refine (eG k n ks A c _ Ac ha'.out ((hr.alloc _).alloc _)).mono ?_;rw [hrd.out];rintro e w1 ⟨rfl,hb1⟩;have hB:Blk w1 w.heap.size (Ro k n A ks.length c):=((aC w 32 _ rfl).alloc _).keep hb1;have hZ:Blk w1 (w.heap.size+1) Zr:=(aC _ 32 _ Ag).keep hb1;have g1:Bw w w1:=bN bw2 hb1;have s1:=hZ.lt;have hr1:=hr.below g1;obtain ⟨x0,x1,x2⟩:=hB.three;have tok:=trivial))
   refine bodyPost_ret (v:=.tuple #[.agg (Ro k n A ks.length c),.bool false]) (by simp [results,results103,go_sem,d0,d1,d2]) rfl ⟨k,n,ks,A,c,false,(by rw [hst0.out];rfl),(by rw [hst0.out];rfl),rfl,by omega,by omega,?_,?_⟩
   ·exact ((((hr.rdp.below g2).setCell Ag _).setCell Ag _).setCell Ag _).mono (λx hx=>by simpa using hx)
   ·exact bV g2
  ·obtain ⟨i,rfl⟩:∃i:Nat,mm=(i:Int):=⟨mm.toNat,by omega⟩;have hil:i<ks.length:=by
    have:=ha'.out;unfold aX at this;unfold bF at hmm;repeat' split at hmm
    all_goals (first|omega|(rename_i h;rcases h with rfl|rfl|rfl<;>simp_all<;>omega)|(simp_all;omega))
   have qm:decide ((i:Int)<0)=false:=decide_eq_false Ac;obtain ⟨b,off,k',n',ks',A',c',rfl,hkj,hc1,hc2,hc3,hl',hr'⟩:=hr.at_ hil;have hlk:(i:Int)<(ks.length:Int):=by omega
   have hsz:=cG (gM hil);have hsk:=hk'.out _ (gM hil);rw [hkj] at hsz hsk;simp only [Tm.size] at hsz;have hsk':=aD hsk;have hsteq:cH (.mk k n ks)=((cH (.mk k' n' ks')).map (ks.set i ·)).map (Tm.mk k n):=by rw [cH,Av hx,hmm,Aw hneg,Int.toNat_natCast,oO ks i hil,hkj]
   cases hho:cH (.mk k' n' ks') with
   | none=>
    rw [hho] at hsteq;have hst0:=aD (show cH (.mk k n ks)=none from hsteq);have hst:=aD hho;clear hx hmm hsteq hho hsk hkj;go_enter func103,ntmps103;go_wp2_with (first
     | (go_at_call 103;have _t:=tok2;refine (ih.out k' n' ks' A' c' _ Ac Ac hsk'.out (hr'.below g2)).mono ?_;rintro e w3 ⟨k3,n3,ks3,A3,c3,bb,hv3,hw3,rfl,hl3,hs3,hr3,hb3⟩;obtain rfl:bb=false:=(by rw [hw3,hst.out];rfl);replace hv3:=aD hv3;clear hw3;replace hB:=(hB.keep hb3).alloc (.cells (Ro k3 n3 A3 ks3.length c3) 32);replace hZ:=(hZ.keep hb3).alloc (.cells (Ro k3 n3 A3 ks3.length c3) 32);have g3:=(g2.trans (hb3.mono g2.size)).alloc (by have:=hb3.size;omega) (.cells (Ro k3 n3 A3 ks3.length c3) 32);have hr4:=hr3.alloc (.cells (Ro k3 n3 A3 ks3.length c3) 32);have hr5:=hr.below g3;have s3:=hb3.size;have hK:=aC w3 32 (Ro k3 n3 A3 ks3.length c3) rfl;obtain ⟨y0,y1,y2⟩:=hK.three;clear x0 x1 x2 d0 d1 d2 e0 e1 e2;obtain ⟨x0,x1,x2⟩:=hB.three;obtain ⟨d0,d1,d2,e0,e1,e2⟩:=bZ hZ;clear tok2;have tok3:=trivial)
     | (go_at_call 129;have _t:=tok;refine (uO k _).mono ?_;rw [hmn.out];rintro e w2 ⟨rfl,hb2⟩;replace hB:=hB.keep hb2;replace hZ:=hZ.keep hb2;clear x0 x1 x2;obtain ⟨x0,x1,x2⟩:=hB.three;have s2:=hZ.lt;have g2:=g1.trans (hb2.mono g1.size);have hr2:=hr.below g2;obtain ⟨d0,d1,d2,e0,e1,e2⟩:=bZ hZ;clear tok;obtain ⟨m1,m2,m3⟩:=xW g2 hc1 hc2 hc3;have tok2:=trivial)
     | (go_at_call 127;refine (eG k n ks _ c _ Ac ha'.out ((hr.alloc _).alloc _)).mono ?_;rw [hrd.out];rintro e w1 ⟨rfl,hb1⟩;have hB:Blk w1 w.heap.size (Ro k n (some ⟨b,off,none⟩) ks.length c):=((aC w 32 _ rfl).alloc _).keep hb1;have hZ:Blk w1 (w.heap.size+1) Zr:=(aC _ 32 _ Ag).keep hb1;have g1:Bw w w1:=bN bw2 hb1;have s1:=hZ.lt;have hr1:=hr.below g1;obtain ⟨x0,x1,x2⟩:=hB.three;have tok:=trivial))
    refine bodyPost_ret (v:=.tuple #[.agg (Ro k n (some ⟨b,off,none⟩) ks.length c),.bool false]) (by simp [results,results103,go_sem,d0,d1,d2]) rfl ⟨k,n,ks,some ⟨b,off,none⟩,c,false,(by rw [hst0.out];rfl),(by rw [hst0.out];rfl),rfl,by omega,by omega,?_,?_⟩
    ·exact ((((hr.rdp.below g3).setCell Ag _).setCell Ag _).setCell Ag _).mono (λx hx=>by simpa using hx)
    ·exact bV g3
   | some u=>
    obtain ⟨ku,nu,us⟩:=u;rw [hho] at hsteq;have hst0:=aD (show cH (.mk k n ks)=some (.mk k n (ks.set i (.mk ku nu us))) from hsteq);have hst:=aD hho;clear hx hmm hsteq hho hsk hkj;go_enter func103,ntmps103;go_wp2_with (first
     | (go_at_call 130;have _t:=tok3;refine (aAs (p:=λx=>w2.heap.size<=x/\x<w3.heap.size) k n ks _ c i k3 n3 ks3 A3 c3 (ks.set i (.mk k3 n3 ks3)) Ag (aOy ks i _) _ Ac hl3 hr5 (hrx.alloc _) (λx hx=>by have:=hx.2;simp;omega)).mono ?_;rintro e w4 ⟨A4,c4,rfl,hl4,hr6,hb4⟩;replace hZ:=hZ.keep hb4;clear d0 d1 d2 e0 e1 e2;obtain ⟨d0,d1,d2,e0,e1,e2⟩:=bZ hZ;have g4:=g3.trans (hb4.mono g3.size))
     | (go_at_call 103;have _t:=tok2;refine (ih.out k' n' ks' A' c' _ Ac Ac hsk'.out (hr'.below g2)).mono ?_;rintro e w3 ⟨k3,n3,ks3,A3,c3,bb,hv3,hw3,rfl,hl3,hs3,hr3,hb3⟩;obtain rfl:bb=true:=(by rw [hw3,hst.out];rfl);replace hv3:=aD hv3;clear hw3;replace hB:=(hB.keep hb3).alloc (.cells (Ro k3 n3 A3 ks3.length c3) 32);replace hZ:=(hZ.keep hb3).alloc (.cells (Ro k3 n3 A3 ks3.length c3) 32);have g3:=(g2.trans (hb3.mono g2.size)).alloc (by have:=hb3.size;omega) (.cells (Ro k3 n3 A3 ks3.length c3) 32);have hr4:=hr3.alloc (.cells (Ro k3 n3 A3 ks3.length c3) 32);have hr5:=hr.below g3;have s3:=hb3.size;have hK:=aC w3 32 (Ro k3 n3 A3 ks3.length c3) rfl;obtain ⟨y0,y1,y2⟩:=hK.three;clear x0 x1 x2 d0 d1 d2 e0 e1 e2;obtain ⟨x0,x1,x2⟩:=hB.three;obtain ⟨d0,d1,d2,e0,e1,e2⟩:=bZ hZ;clear tok2;have tok3:=trivial;obtain ⟨rfl,rfl,rfl⟩:k3=ku/\n3=nu/\ks3=us:=(by have h:=hv3.out;rw [hst.out] at h;injection h with q1 q2 q3;exact ⟨q1,q2,q3⟩);have hrx:RdP (λx=>w2.heap.size<=x/\x<w3.heap.size) w3 A3 0 ks3:=(hr3.lt_).mono (λx hx=>⟨(by have h1:=hx.1;simpa using h1),hx.2⟩))
     | (go_at_call 129;have _t:=tok;refine (uO k _).mono ?_;rw [hmn.out];rintro e w2 ⟨rfl,hb2⟩;replace hB:=hB.keep hb2;replace hZ:=hZ.keep hb2;clear x0 x1 x2;obtain ⟨x0,x1,x2⟩:=hB.three;have s2:=hZ.lt;have g2:=g1.trans (hb2.mono g1.size);have hr2:=hr.below g2;obtain ⟨d0,d1,d2,e0,e1,e2⟩:=bZ hZ;clear tok;obtain ⟨m1,m2,m3⟩:=xW g2 hc1 hc2 hc3;have tok2:=trivial)
     | (go_at_call 127;refine (eG k n ks _ c _ Ac ha'.out ((hr.alloc _).alloc _)).mono ?_;rw [hrd.out];rintro e w1 ⟨rfl,hb1⟩;have hB:Blk w1 w.heap.size (Ro k n (some ⟨b,off,none⟩) ks.length c):=((aC w 32 _ rfl).alloc _).keep hb1;have hZ:Blk w1 (w.heap.size+1) Zr:=(aC _ 32 _ Ag).keep hb1;have g1:Bw w w1:=bN bw2 hb1;have s1:=hZ.lt;have hr1:=hr.below g1;obtain ⟨x0,x1,x2⟩:=hB.three;have tok:=trivial))
    have hsz2:=uA ks i (.mk k3 n3 ks3);rw [Tm.size] at hsz2;refine bodyPost_ret (v:=.tuple #[.agg #[.int .i64 k,.int .i64 n,.slice A4 (ks.set i (.mk k3 n3 ks3)).length c4],.bool true]) (by simp [results,results103,go_sem,d0,d1,d2]) rfl ⟨k,n,ks.set i (.mk k3 n3 ks3),A4,c4,true,(by rw [hst0.out];rfl),(by rw [hst0.out];rfl),rfl,by simp;omega,by omega,?_,?_⟩
    ·have hr7:=hr6.mono (q:=λx=>w.heap.size+2<=x) (λx hx=>hx.elim (λh=>by have:=h.1;omega) (λh=>by simp at h;omega));exact (((hr7.setCell Ag _).setCell Ag _).setCell Ag _).mono (λx hx=>by simp;omega)
    ·exact bV g4
 ·have hq:(rdx k ks==0)=false:=by simpa using hx
  have hc:=aD (λw A c hr=>qZ gK (d'+1) hd k n ks A c w hM hs'.out hx hr);obtain ⟨rr,hrr⟩:∃rr,rdx k ks=rr:=⟨_,rfl⟩;rw [hrr] at hq;have hrd:=aD hrr;have hst:=aD (show cH (.mk k n ks)=some (eF (.mk k n ks)) from by rw [cH,Aw hx]);clear hx hrr;go_enter func103,ntmps103;go_wp2_with (first
   | (go_at_call 128;have _t:=tok;refine (hc.out _ A c hr1).mono ?_;rintro e w2 ⟨k2,n2,ks2,hv2,⟨A2,c2,rfl,hl2,hr2,hb2⟩,hs2⟩;replace hv2:=aD hv2;replace hZ:=hZ.keep hb2;obtain ⟨d0,d1,d2,e0,e1,e2⟩:=bZ hZ;have g2:=g1.trans (hb2.mono g1.size))
   | (go_at_call 127;refine (eG k n ks A c _ Ac ha'.out ((hr.alloc _).alloc _)).mono ?_;rw [hrd.out];rintro e w1 ⟨rfl,hb1⟩;have hB:Blk w1 w.heap.size (Ro k n A ks.length c):=((aC w 32 _ rfl).alloc _).keep hb1;have hZ:Blk w1 (w.heap.size+1) Zr:=(aC _ 32 _ Ag).keep hb1;have g1:Bw w w1:=bN bw2 hb1;have s1:=hZ.lt;have hr1:=hr.below g1;obtain ⟨x0,x1,x2⟩:=hB.three;have tok:=trivial))
  refine bodyPost_ret (v:=.tuple #[.agg (Ro k2 n2 A2 ks2.length c2),.bool true]) (by simp [results,results103,go_sem,d0,d1,d2]) rfl ⟨k2,n2,ks2,A2,c2,true,(by rw [hst.out,hv2.out];rfl),(by rw [hst.out];rfl),rfl,hl2,by omega,?_,?_⟩
  ·exact ((((hr2.mono (q:=λx=>w.heap.size+2<=x) (λx hx=>hx.elim (λh=>h.elim) (λh=>by omega))).setCell Ag _).setCell Ag _).setCell Ag _).mono (λx hx=>by simp;omega)
  ·exact bV g2
theorem sZ {w:Bb}{r:Option Tm × Int}{e:Ending}{w':Bb}(h:aUz w r e w'){k n c:Int}{ks:List Tm}(h1:r.1.getD (.mk 0 0 []) = .mk k n ks)(h2:r.2=c) :
  ∃A d,e = .returned (.tuple #[.agg (Ro k n A ks.length d),.int .i64 c])/\ks.length<=9223372036854775807/\Rd w' A 0 ks/\Bw w w':=by
 obtain ⟨k1,n1,ks1,A,d,hk,rfl,hl,hr,hb⟩:=h;rw [h1] at hk;injection hk with a1 a2 a3;subst a1 a2 a3 h2;exact ⟨A,d,rfl,hl,hr.rd,hb⟩
theorem qN (k n:Int)(ks:List Tm)(A:Ba)(c:Nat)(k' n':Int)(ls:List Tm)(B:Ba)(d:Nat)(fuel:Nat)(w:Bb)(hf:fuel<=200)(hv:aE (.mk k n ks)=true)(hv':aE (.mk k' n' ls)=true)(hr:Rd w A 0 ks)(hr':Rd w B 0 ls) :
    Calls prog 52 #[.agg (Ro k n A ks.length c),.agg (Ro k' n' B ls.length d),.int .i64 fuel] w λe w'=>e = .returned (.int .i64 (dJ fuel (.mk k n ks) (.mk k' n' ls)))/\Bw w w':=by
  have hz:=aH hv;have hz':=aH hv';have hl1:=aJ ks;have hl2:=aJ ls;have q1:decide ((fuel:Int)<=200)=true:=decide_eq_true Ac;obtain ⟨xk,xn,xs,hx⟩:∃a b l,(redI eT fuel (.mk k n ks)).1.getD (.mk 0 0 []) = .mk a b l:=by cases (redI eT fuel (.mk k n ks)).1.getD (.mk 0 0 []) with|mk a b l=>exact ⟨a,b,l,rfl⟩
  obtain ⟨yk,yn,ys,hy⟩:∃a b l,(redI eT fuel (.mk k' n' ls)).1.getD (.mk 0 0 []) = .mk a b l:=by cases (redI eT fuel (.mk k' n' ls)).1.getD (.mk 0 0 []) with|mk a b l=>exact ⟨a,b,l,rfl⟩
  obtain ⟨ca,hca⟩:∃z,(redI eT fuel (.mk k n ks)).2=z:=⟨_,rfl⟩;obtain ⟨cb,hcb⟩:∃z,(redI eT fuel (.mk k' n' ls)).2=z:=⟨_,rfl⟩;have hN1:=aD (λ(w:Bb) (hr:Rd w A 0 ks)=>(aAi k n ks A c fuel w hv hf hr).mono λe w' h=>sZ h hx hca);have hN2:=aD (λ(w:Bb) (hr:Rd w B 0 ls)=>(aAi k' n' ls B d fuel w hv' hf hr).mono λe w' h=>sZ h hy hcb);have hcv:dJ fuel (.mk k n ks) (.mk k' n' ls)=if gL (.mk k n ks) (.mk k' n' ls)=true then 1 else if ca≠0\/cb≠0 then 3 else if gL (.mk xk xn xs) (.mk yk yn ys)=true then 1 else 2:=by rw [dJ,hx,hy,hca,hcb]
  rw [hcv];have hv1:=aD hv;have hv2:=aD hv';clear hcv hx hy hca hcb hv hv';cases hT:gL (.mk k n ks) (.mk k' n' ls) with
  | true=>
    rw [Av rfl];replace hT:=aD hT;go_enter func52,ntmps52;go_wp2_with (first
    | (go_at_call 87;have _t:=tok2;refine (jP k n ks A c k' n' ls B d _ Ac Ac (hr.below g2) (hr'.below g2)).mono ?_;rw [hT.out];rintro e w3 ⟨rfl,hb3⟩;have hX3:=hX2.keep hb3;have hY3:=hY2.keep hb3;have g3:=g2.trans (hb3.mono g2.size);clear x0 x1 x2 y0 y1 y2;obtain ⟨x0,x1,x2⟩:=hX3.three;obtain ⟨y0,y1,y2⟩:=hY3.three;have tok3:=trivial)
    | (go_at_call 36;refine (dM _ _ _ _).mono ?_;rintro e w9 ⟨rfl,rfl⟩)
    | (go_at_call 58;have _t:=tok1;refine (bB k' n' ls B d _ Ac (hr'.below g1)).mono ?_;rw [hv2.out];rintro e w2 ⟨rfl,hb2⟩;have hX2:=hX1.keep hb2;have hY2:=hY1.keep hb2;have g2:=g1.trans (hb2.mono g1.size);clear x0 x1 x2 y0 y1 y2;obtain ⟨x0,x1,x2⟩:=hX2.three;obtain ⟨y0,y1,y2⟩:=hY2.three;have tok2:=trivial)
    | (go_at_call 58;refine (bB k n ks A c _ Ac ((hr.alloc _).alloc _)).mono ?_;rw [hv1.out];rintro e w1 ⟨rfl,hb1⟩;have hX1:Blk w1 w.heap.size (Ro k n A ks.length c):=((aC _ 32 _ rfl).alloc _).keep hb1;have hY1:Blk w1 (w.heap.size+1) (Ro k' n' B ls.length d):=(aC _ 32 _ Ag).keep hb1;have g1:Bw w w1:=bN bw2 hb1;obtain ⟨x0,x1,x2⟩:=hX1.three;obtain ⟨y0,y1,y2⟩:=hY1.three;have tok1:=trivial))
    go_ret;exact ⟨rfl,g3⟩
  | false=>
    rw [Aw Ag];replace hT:=aD hT;by_cases h1:ca=0
    · by_cases h2:cb=0
      · rw [Aw Ac]
        subst h1 h2;cases hU:gL (.mk xk xn xs) (.mk yk yn ys) with
        | true=>
          rw [Av rfl];replace hU:=aD hU;go_enter func52,ntmps52;go_wp2_with (first
    | (go_at_call 87;have _t:=tok5;refine (jP xk xn xs A4 c4 yk yn ys A5 c5 _ hl4 hl5 (r45.alloc _) (r5.alloc _)).mono ?_;rw [hU.out];rintro e w6 ⟨rfl,hb6⟩;have g6:=(g5.alloc g5.size (.cells (Ro yk yn A5 ys.length c5) 32)).trans (hb6.mono (by have:=g5.size;simp;omega)))
    | (go_at_call 88;have _t:=tok4;refine (hN2.out _ ((hr'.below g4).alloc _)).mono ?_;rintro e w5 ⟨A5,c5,rfl,hl5,r5,hb5⟩;have hP5:=(aC w4 32 (Ro xk xn A4 xs.length c4) rfl).keep hb5;have g5:=(g4.alloc g4.size (.cells (Ro xk xn A4 xs.length c4) 32)).trans (hb5.mono (by have:=g4.size;simp;omega));have r45:=(r4.alloc (.cells (Ro xk xn A4 xs.length c4) 32)).below hb5;obtain ⟨p0,p1,p2⟩:=hP5.three;have lp:=hP5.lt;have tok5:=trivial)
    | (go_at_call 88;have _t:=tok3;refine (hN1.out _ (hr.below g3)).mono ?_;rintro e w4 ⟨A4,c4,rfl,hl4,r4,hb4⟩;have hY4:=hY3.keep hb4;have g4:=g3.trans (hb4.mono g3.size);clear x0 x1 x2 y0 y1 y2;obtain ⟨y0,y1,y2⟩:=hY4.three;have ly4:=hY4.lt;have tok4:=trivial)
    | (go_at_call 87;have _t:=tok2;refine (jP k n ks A c k' n' ls B d _ Ac Ac (hr.below g2) (hr'.below g2)).mono ?_;rw [hT.out];rintro e w3 ⟨rfl,hb3⟩;have hX3:=hX2.keep hb3;have hY3:=hY2.keep hb3;have g3:=g2.trans (hb3.mono g2.size);clear x0 x1 x2 y0 y1 y2;obtain ⟨x0,x1,x2⟩:=hX3.three;obtain ⟨y0,y1,y2⟩:=hY3.three;have tok3:=trivial)
    | (go_at_call 36;refine (dM _ _ _ _).mono ?_;rintro e w9 ⟨rfl,rfl⟩)
    | (go_at_call 58;have _t:=tok1;refine (bB k' n' ls B d _ Ac (hr'.below g1)).mono ?_;rw [hv2.out];rintro e w2 ⟨rfl,hb2⟩;have hX2:=hX1.keep hb2;have hY2:=hY1.keep hb2;have g2:=g1.trans (hb2.mono g1.size);clear x0 x1 x2 y0 y1 y2;obtain ⟨x0,x1,x2⟩:=hX2.three;obtain ⟨y0,y1,y2⟩:=hY2.three;have tok2:=trivial)
    | (go_at_call 58;refine (bB k n ks A c _ Ac ((hr.alloc _).alloc _)).mono ?_;rw [hv1.out];rintro e w1 ⟨rfl,hb1⟩;have hX1:Blk w1 w.heap.size (Ro k n A ks.length c):=((aC _ 32 _ rfl).alloc _).keep hb1;have hY1:Blk w1 (w.heap.size+1) (Ro k' n' B ls.length d):=(aC _ 32 _ Ag).keep hb1;have g1:Bw w w1:=bN bw2 hb1;obtain ⟨x0,x1,x2⟩:=hX1.three;obtain ⟨y0,y1,y2⟩:=hY1.three;have tok1:=trivial))
          go_ret;exact ⟨rfl,g6⟩
        | false=>
          rw [Aw Ag];replace hU:=aD hU;go_enter func52,ntmps52;go_wp2_with (first
    | (go_at_call 87;have _t:=tok5;refine (jP xk xn xs A4 c4 yk yn ys A5 c5 _ hl4 hl5 (r45.alloc _) (r5.alloc _)).mono ?_;rw [hU.out];rintro e w6 ⟨rfl,hb6⟩;have g6:=(g5.alloc g5.size (.cells (Ro yk yn A5 ys.length c5) 32)).trans (hb6.mono (by have:=g5.size;simp;omega)))
    | (go_at_call 88;have _t:=tok4;refine (hN2.out _ ((hr'.below g4).alloc _)).mono ?_;rintro e w5 ⟨A5,c5,rfl,hl5,r5,hb5⟩;have hP5:=(aC w4 32 (Ro xk xn A4 xs.length c4) rfl).keep hb5;have g5:=(g4.alloc g4.size (.cells (Ro xk xn A4 xs.length c4) 32)).trans (hb5.mono (by have:=g4.size;simp;omega));have r45:=(r4.alloc (.cells (Ro xk xn A4 xs.length c4) 32)).below hb5;obtain ⟨p0,p1,p2⟩:=hP5.three;have lp:=hP5.lt;have tok5:=trivial)
    | (go_at_call 88;have _t:=tok3;refine (hN1.out _ (hr.below g3)).mono ?_;rintro e w4 ⟨A4,c4,rfl,hl4,r4,hb4⟩;have hY4:=hY3.keep hb4;have g4:=g3.trans (hb4.mono g3.size);clear x0 x1 x2 y0 y1 y2;obtain ⟨y0,y1,y2⟩:=hY4.three;have ly4:=hY4.lt;have tok4:=trivial)
    | (go_at_call 87;have _t:=tok2;refine (jP k n ks A c k' n' ls B d _ Ac Ac (hr.below g2) (hr'.below g2)).mono ?_;rw [hT.out];rintro e w3 ⟨rfl,hb3⟩;have hX3:=hX2.keep hb3;have hY3:=hY2.keep hb3;have g3:=g2.trans (hb3.mono g2.size);clear x0 x1 x2 y0 y1 y2;obtain ⟨x0,x1,x2⟩:=hX3.three;obtain ⟨y0,y1,y2⟩:=hY3.three;have tok3:=trivial)
    | (go_at_call 36;refine (dM _ _ _ _).mono ?_;rintro e w9 ⟨rfl,rfl⟩)
    | (go_at_call 58;have _t:=tok1;refine (bB k' n' ls B d _ Ac (hr'.below g1)).mono ?_;rw [hv2.out];rintro e w2 ⟨rfl,hb2⟩;have hX2:=hX1.keep hb2;have hY2:=hY1.keep hb2;have g2:=g1.trans (hb2.mono g1.size);clear x0 x1 x2 y0 y1 y2;obtain ⟨x0,x1,x2⟩:=hX2.three;obtain ⟨y0,y1,y2⟩:=hY2.three;have tok2:=trivial)
    | (go_at_call 58;refine (bB k n ks A c _ Ac ((hr.alloc _).alloc _)).mono ?_;rw [hv1.out];rintro e w1 ⟨rfl,hb1⟩;have hX1:Blk w1 w.heap.size (Ro k n A ks.length c):=((aC _ 32 _ rfl).alloc _).keep hb1;have hY1:Blk w1 (w.heap.size+1) (Ro k' n' B ls.length d):=(aC _ 32 _ Ag).keep hb1;have g1:Bw w w1:=bN bw2 hb1;obtain ⟨x0,x1,x2⟩:=hX1.three;obtain ⟨y0,y1,y2⟩:=hY1.three;have tok1:=trivial))
          go_ret;exact ⟨rfl,g6⟩
      · rw [Av (.inr h2)]
        subst h1;have q2:(cb != 0)=true:=by simpa using h2
        clear h2;go_enter func52,ntmps52;go_wp2_with (first
    | (go_at_call 88;have _t:=tok4;refine (hN2.out _ ((hr'.below g4).alloc _)).mono ?_;rintro e w5 ⟨A5,c5,rfl,hl5,r5,hb5⟩;have hP5:=(aC w4 32 (Ro xk xn A4 xs.length c4) rfl).keep hb5;have g5:=(g4.alloc g4.size (.cells (Ro xk xn A4 xs.length c4) 32)).trans (hb5.mono (by have:=g4.size;simp;omega));have r45:=(r4.alloc (.cells (Ro xk xn A4 xs.length c4) 32)).below hb5;obtain ⟨p0,p1,p2⟩:=hP5.three;have lp:=hP5.lt;have tok5:=trivial)
    | (go_at_call 88;have _t:=tok3;refine (hN1.out _ (hr.below g3)).mono ?_;rintro e w4 ⟨A4,c4,rfl,hl4,r4,hb4⟩;have hY4:=hY3.keep hb4;have g4:=g3.trans (hb4.mono g3.size);clear x0 x1 x2 y0 y1 y2;obtain ⟨y0,y1,y2⟩:=hY4.three;have ly4:=hY4.lt;have tok4:=trivial)
    | (go_at_call 87;have _t:=tok2;refine (jP k n ks A c k' n' ls B d _ Ac Ac (hr.below g2) (hr'.below g2)).mono ?_;rw [hT.out];rintro e w3 ⟨rfl,hb3⟩;have hX3:=hX2.keep hb3;have hY3:=hY2.keep hb3;have g3:=g2.trans (hb3.mono g2.size);clear x0 x1 x2 y0 y1 y2;obtain ⟨x0,x1,x2⟩:=hX3.three;obtain ⟨y0,y1,y2⟩:=hY3.three;have tok3:=trivial)
    | (go_at_call 36;refine (dM _ _ _ _).mono ?_;rintro e w9 ⟨rfl,rfl⟩)
    | (go_at_call 58;have _t:=tok1;refine (bB k' n' ls B d _ Ac (hr'.below g1)).mono ?_;rw [hv2.out];rintro e w2 ⟨rfl,hb2⟩;have hX2:=hX1.keep hb2;have hY2:=hY1.keep hb2;have g2:=g1.trans (hb2.mono g1.size);clear x0 x1 x2 y0 y1 y2;obtain ⟨x0,x1,x2⟩:=hX2.three;obtain ⟨y0,y1,y2⟩:=hY2.three;have tok2:=trivial)
    | (go_at_call 58;refine (bB k n ks A c _ Ac ((hr.alloc _).alloc _)).mono ?_;rw [hv1.out];rintro e w1 ⟨rfl,hb1⟩;have hX1:Blk w1 w.heap.size (Ro k n A ks.length c):=((aC _ 32 _ rfl).alloc _).keep hb1;have hY1:Blk w1 (w.heap.size+1) (Ro k' n' B ls.length d):=(aC _ 32 _ Ag).keep hb1;have g1:Bw w w1:=bN bw2 hb1;obtain ⟨x0,x1,x2⟩:=hX1.three;obtain ⟨y0,y1,y2⟩:=hY1.three;have tok1:=trivial))
        go_ret;exact ⟨rfl,g5.alloc g5.size _⟩
    · rw [Av (.inl h1)]
      have q2:(ca != 0)=true:=by simpa using h1
      clear h1;go_enter func52,ntmps52;go_wp2_with (first
    | (go_at_call 88;have _t:=tok4;refine (hN2.out _ ((hr'.below g4).alloc _)).mono ?_;rintro e w5 ⟨A5,c5,rfl,hl5,r5,hb5⟩;have hP5:=(aC w4 32 (Ro xk xn A4 xs.length c4) rfl).keep hb5;have g5:=(g4.alloc g4.size (.cells (Ro xk xn A4 xs.length c4) 32)).trans (hb5.mono (by have:=g4.size;simp;omega));have r45:=(r4.alloc (.cells (Ro xk xn A4 xs.length c4) 32)).below hb5;obtain ⟨p0,p1,p2⟩:=hP5.three;have lp:=hP5.lt;have tok5:=trivial)
    | (go_at_call 88;have _t:=tok3;refine (hN1.out _ (hr.below g3)).mono ?_;rintro e w4 ⟨A4,c4,rfl,hl4,r4,hb4⟩;have hY4:=hY3.keep hb4;have g4:=g3.trans (hb4.mono g3.size);clear x0 x1 x2 y0 y1 y2;obtain ⟨y0,y1,y2⟩:=hY4.three;have ly4:=hY4.lt;have tok4:=trivial)
    | (go_at_call 87;have _t:=tok2;refine (jP k n ks A c k' n' ls B d _ Ac Ac (hr.below g2) (hr'.below g2)).mono ?_;rw [hT.out];rintro e w3 ⟨rfl,hb3⟩;have hX3:=hX2.keep hb3;have hY3:=hY2.keep hb3;have g3:=g2.trans (hb3.mono g2.size);clear x0 x1 x2 y0 y1 y2;obtain ⟨x0,x1,x2⟩:=hX3.three;obtain ⟨y0,y1,y2⟩:=hY3.three;have tok3:=trivial)
    | (go_at_call 36;refine (dM _ _ _ _).mono ?_;rintro e w9 ⟨rfl,rfl⟩)
    | (go_at_call 58;have _t:=tok1;refine (bB k' n' ls B d _ Ac (hr'.below g1)).mono ?_;rw [hv2.out];rintro e w2 ⟨rfl,hb2⟩;have hX2:=hX1.keep hb2;have hY2:=hY1.keep hb2;have g2:=g1.trans (hb2.mono g1.size);clear x0 x1 x2 y0 y1 y2;obtain ⟨x0,x1,x2⟩:=hX2.three;obtain ⟨y0,y1,y2⟩:=hY2.three;have tok2:=trivial)
    | (go_at_call 58;refine (bB k n ks A c _ Ac ((hr.alloc _).alloc _)).mono ?_;rw [hv1.out];rintro e w1 ⟨rfl,hb1⟩;have hX1:Blk w1 w.heap.size (Ro k n A ks.length c):=((aC _ 32 _ rfl).alloc _).keep hb1;have hY1:Blk w1 (w.heap.size+1) (Ro k' n' B ls.length d):=(aC _ 32 _ Ag).keep hb1;have g1:Bw w w1:=bN bw2 hb1;obtain ⟨x0,x1,x2⟩:=hX1.three;obtain ⟨y0,y1,y2⟩:=hY1.three;have tok1:=trivial))
      go_ret;exact ⟨rfl,g5.alloc g5.size _⟩
end Go.Proofs.YtjlaenhcemacdaaGreat
