/- Parts of the proof. No condition. -/
import Derived.Test.YtjlaenhcemacdaaGreatK14
open Go.Proofs.Tryz
namespace Go.Proofs.YtjlaenhcemacdaaGreat
open Go.RowKit
set_option maxHeartbeats 8000000
set_option maxRecDepth 100000
set_option linter.unusedSimpArgs false
set_option linter.unusedVariables false
def HeadPost (o:Option (List Int))(d:Nat)(w:World)(e:Ending)(w':World):Prop:=
 ∃(A:Option Addr) (c:Nat) (xs:List Int),e = .returned (.tuple #[.slice A xs.length c,.bool o.isSome])∧xs.length≤d∧xs.length≤c∧PathX w' A xs∧(∀p,o=some p→xs=p)∧Bw w w'
theorem HeadPost.way {o:Option (List Int)}{d:Nat}{w:World}{e:Ending}{w':World}(h:HeadPost o d w e w'):WayPost o d w e w':=by
 obtain ⟨A,c,xs,he,h1,h2,h3,h4,h5⟩:=h;exact ⟨A,xs.length,c,he,h1,h2,fun p hp=>by have:=h4 p hp;subst this;exact ⟨rfl,h3⟩,h5⟩
theorem yY:∀{ts:List Tm} {i:Nat} (h:i<ts.length),lI i ts=bV ts[i]
 | [],_,h=>absurd h (Nat.not_lt_zero _)
 | t::ts,0,_=>by rw [lI];rfl
 | t::ts,i+1,h=>by rw [lI,yY (by simpa using h)];simp
theorem mF {k n:Int}{ks:List Tm}{i:Nat}(hr:rdx k ks=0)(hm:bC k=i)(hi:i<ks.length):bV (.mk k n ks)=(bV ks[i]).map ((i:Int)::·):=by
 rw [bV,if_pos hr,hm,if_neg (by omega),Int.toNat_natCast,yY hi]
theorem aIr {k n:Int}{ks:List Tm}(hr:rdx k ks=0)(hm:bC k<0):bV (.mk k n ks)=none:=by
 rw [bV,if_pos hr,if_pos hm]
theorem aFd {k n:Int}{ks:List Tm}(hr:rdx k ks≠0):bV (.mk k n ks)=some []:=by
 rw [bV,if_neg hr]
def yV (N:Nat):Prop:=∀(d:Nat) (k n:Int) (ks:List Tm) (A:Option Addr) (c:Nat) (w:World),d≤30→aG ks<N→shape d (.mk k n ks)=true→aG ks≤1099511627775→Rd w A 0 ks→
  Calls prog 86 #[.agg (Ro k n A ks.length c)] w (HeadPost (bV (.mk k n ks)) d w)
theorem aIf (d:Nat)(k n:Int)(ks:List Tm)(A:Option Addr)(c:Nat)(w:World)(ha:aU k=(ks.length:Int))(hM:aG ks≤1099511627775)(hr:Rd w A 0 ks)(hx:rdx k ks≠0) :
  Calls prog 86 #[.agg (Ro k n A ks.length c)] w (HeadPost (bV (.mk k n ks)) d w):=by
 have hlen:=aJ ks;have hne:(rdx k ks != 0)=true:=by simpa using hx
 rw [aFd hx];have ha':=aD ha;clear hx ha;go_enter func86,ntmps86;go_wp2_with (go_at_call 110;refine (cU k n ks A c _ (by omega) ha'.out (hr.alloc _)).mono ?_;rintro e w1 ⟨rfl,hb1⟩;replace hb1:=bw1.trans (hb1.mono (by simp)))
 go_ret2
 exact ⟨none,0,[],rfl,by simp,by simp,PathX.nil,(fun p hp=>by injection hp),hb1⟩
theorem aKu (d:Nat)(k n:Int)(ks:List Tm)(A:Option Addr)(c:Nat)(w:World)(ha:aU k=(ks.length:Int))(hM:aG ks≤1099511627775)(hr:Rd w A 0 ks)(hx:rdx k ks=0)(h5:k≠5)(h15:k≠15)(h16:k≠16)(h9:k≠9)(h12:k≠12) :
  Calls prog 86 #[.agg (Ro k n A ks.length c)] w (HeadPost (bV (.mk k n ks)) d w):=by
 have hlen:=aJ ks;rw [aIr hx (by rw [bC,if_neg (by omega),if_neg h9,if_neg h12];omega)];have q5:=iY h5;have q15:=iY h15;have q16:=iY h16;have q9:=iY h9;have q12:=iY h12;have ha':=aD ha;have hx':=aD hx;clear hx ha h5 h15 h16 h9 h12;go_enter func86,ntmps86;go_wp2_with (go_at_call 110;refine (cU k n ks A c _ (by omega) ha'.out (hr.alloc _)).mono ?_;rw [hx'.out];rintro e w1 ⟨rfl,hb1⟩;have hB1:=(aC w 32 (Ro k n A ks.length c) rfl).keep hb1;obtain ⟨p10,p11,p12⟩:=hB1.three;replace hb1:=bw1.trans (hb1.mono (by simp)))
 go_ret2
 exact ⟨none,0,[],rfl,by simp,by simp,PathX.nil,(fun p hp=>by cases hp),hb1⟩
theorem aQb {N:Nat}(ih:yV N)(d:Nat)(n:Int)(ks:List Tm)(A:Option Addr)(c:Nat)(w:World)(hd:d+1≤30)(hN:aG ks<N+1)(hsh:shape (d+1) (.mk 5 n ks)=true)(hM:aG ks≤1099511627775)(hr:Rd w A 0 ks)(hx:rdx 5 ks=0) :
  Calls prog 86 #[.agg (Ro 5 n A ks.length c)] w (HeadPost (bV (.mk 5 n ks)) (d+1) w):=by
 obtain ⟨ha,hm1,hm2,hkids⟩:=(bF d 5 n ks).1 hsh;have hlen:ks.length=2:=by have:aU 5=2:=rfl;omega
 have hik:0<ks.length:=by omega
 rw [mF (i:=0) hx rfl hik];obtain ⟨b,off,k1,n1,ks1,A1,c1,rfl,hkj,i1,i2,i3,hl1,hr1⟩:=hr.at_ hik;have hsz:=cF (iC hik);have hs1:=hkids _ (iC hik);rw [hkj] at hsz hs1⊢;simp only [Tm.size] at hsz
 have hRx:=aD (fun (w:World) (hr:Rd w (some ⟨b,off,none⟩) 0 ks)=>by have:=cU 5 n ks _ c w (by omega) ha hr;rwa [hlen,hx] at this);rw [hlen];generalize ho:bV (.mk k1 n1 ks1)=o
 have ho':=aD ho;have hs1':=aD hs1;have ha':=aD ha;have hx':=aD hx;have hlen':=aD hlen;clear ho hs1 ha hx hkids hsh hm1 hm2 hkj;simp only [Nat.zero_mul,Nat.add_zero,Nat.one_mul,Nat.reduceMul] at i1 i2 i3
 go_enter func86,ntmps86;go_wp2_with (first
  | (at_builtin;refine dI hp3 rfl (by omega) _ rfl _ _ rfl rfl rfl ?_;intro A4 c4 w4 hcc4 hp4 hb4)
  | (go_at_call 86;refine (ih d k1 n1 ks1 A1 c1 _ (by omega) (by omega) hs1'.out (by omega) (hr1.below hb1)).mono ?_;rw [ho'.out];rintro e w3 ⟨A3,c3,xs,rfl,hm3,hc3',hp3,hpe,hb3⟩;have hb4':=hb1.trans (hb3.mono hb1.size))
  | (go_at_call 110;refine (hRx.out _ (hr.alloc _)).mono ?_;rintro e w1 ⟨rfl,hb1⟩;have hB1:=(aC w 32 (Ro 5 n (some ⟨b,off,none⟩) 2 c) rfl).keep hb1;obtain ⟨p10,p11,p12⟩:=hB1.three;replace hb1:=bw1.trans (hb1.mono (by simp));have y0:=(cM hb1) _ _ i1;have y1:=(cM hb1) _ _ i2;have y2:=(cM hb1) _ _ i3))
 go_ret2
 refine ⟨A4,c4,(0:Int)::xs,by cases o<;>rfl,by simp;omega,hcc4,hp4,?_,hb4'.trans (hb4.mono hb4'.size)⟩;intro p hp;cases o with
 | none=>cases hp
 | some p1=>injection hp with hp;rw [← hp,hpe p1 rfl];rfl
theorem aNa {N:Nat}(ih:yV N)(d:Nat)(n:Int)(ks:List Tm)(A:Option Addr)(c:Nat)(w:World)(hd:d+1≤30)(hN:aG ks<N+1)(hsh:shape (d+1) (.mk 15 n ks)=true)(hM:aG ks≤1099511627775)(hr:Rd w A 0 ks)(hx:rdx 15 ks=0) :
  Calls prog 86 #[.agg (Ro 15 n A ks.length c)] w (HeadPost (bV (.mk 15 n ks)) (d+1) w):=by
 obtain ⟨ha,hm1,hm2,hkids⟩:=(bF d 15 n ks).1 hsh;have hlen:ks.length=1:=by have:aU 15=1:=rfl;omega
 have hik:0<ks.length:=by omega
 rw [mF (i:=0) hx rfl hik];obtain ⟨b,off,k1,n1,ks1,A1,c1,rfl,hkj,i1,i2,i3,hl1,hr1⟩:=hr.at_ hik;have hsz:=cF (iC hik);have hs1:=hkids _ (iC hik);rw [hkj] at hsz hs1⊢;simp only [Tm.size] at hsz
 have hRx:=aD (fun (w:World) (hr:Rd w (some ⟨b,off,none⟩) 0 ks)=>by have:=cU 15 n ks _ c w (by omega) ha hr;rwa [hlen,hx] at this);rw [hlen];generalize ho:bV (.mk k1 n1 ks1)=o
 have ho':=aD ho;have hs1':=aD hs1;have ha':=aD ha;have hx':=aD hx;have hlen':=aD hlen;clear ho hs1 ha hx hkids hsh hm1 hm2 hkj;simp only [Nat.zero_mul,Nat.add_zero,Nat.one_mul,Nat.reduceMul] at i1 i2 i3
 go_enter func86,ntmps86;go_wp2_with (first
  | (at_builtin;refine dI hp3 rfl (by omega) _ rfl _ _ rfl rfl rfl ?_;intro A4 c4 w4 hcc4 hp4 hb4)
  | (go_at_call 86;refine (ih d k1 n1 ks1 A1 c1 _ (by omega) (by omega) hs1'.out (by omega) (hr1.below hb1)).mono ?_;rw [ho'.out];rintro e w3 ⟨A3,c3,xs,rfl,hm3,hc3',hp3,hpe,hb3⟩;have hb4':=hb1.trans (hb3.mono hb1.size))
  | (go_at_call 110;refine (hRx.out _ (hr.alloc _)).mono ?_;rintro e w1 ⟨rfl,hb1⟩;have hB1:=(aC w 32 (Ro 15 n (some ⟨b,off,none⟩) 1 c) rfl).keep hb1;obtain ⟨p10,p11,p12⟩:=hB1.three;replace hb1:=bw1.trans (hb1.mono (by simp));have y0:=(cM hb1) _ _ i1;have y1:=(cM hb1) _ _ i2;have y2:=(cM hb1) _ _ i3))
 go_ret2
 refine ⟨A4,c4,(0:Int)::xs,by cases o<;>rfl,by simp;omega,hcc4,hp4,?_,hb4'.trans (hb4.mono hb4'.size)⟩;intro p hp;cases o with
 | none=>cases hp
 | some p1=>injection hp with hp;rw [← hp,hpe p1 rfl];rfl
theorem aNp {N:Nat}(ih:yV N)(d:Nat)(n:Int)(ks:List Tm)(A:Option Addr)(c:Nat)(w:World)(hd:d+1≤30)(hN:aG ks<N+1)(hsh:shape (d+1) (.mk 16 n ks)=true)(hM:aG ks≤1099511627775)(hr:Rd w A 0 ks)(hx:rdx 16 ks=0) :
  Calls prog 86 #[.agg (Ro 16 n A ks.length c)] w (HeadPost (bV (.mk 16 n ks)) (d+1) w):=by
 obtain ⟨ha,hm1,hm2,hkids⟩:=(bF d 16 n ks).1 hsh;have hlen:ks.length=1:=by have:aU 16=1:=rfl;omega
 have hik:0<ks.length:=by omega
 rw [mF (i:=0) hx rfl hik];obtain ⟨b,off,k1,n1,ks1,A1,c1,rfl,hkj,i1,i2,i3,hl1,hr1⟩:=hr.at_ hik;have hsz:=cF (iC hik);have hs1:=hkids _ (iC hik);rw [hkj] at hsz hs1⊢;simp only [Tm.size] at hsz
 have hRx:=aD (fun (w:World) (hr:Rd w (some ⟨b,off,none⟩) 0 ks)=>by have:=cU 16 n ks _ c w (by omega) ha hr;rwa [hlen,hx] at this);rw [hlen];generalize ho:bV (.mk k1 n1 ks1)=o
 have ho':=aD ho;have hs1':=aD hs1;have ha':=aD ha;have hx':=aD hx;have hlen':=aD hlen;clear ho hs1 ha hx hkids hsh hm1 hm2 hkj;simp only [Nat.zero_mul,Nat.add_zero,Nat.one_mul,Nat.reduceMul] at i1 i2 i3
 go_enter func86,ntmps86;go_wp2_with (first
  | (at_builtin;refine dI hp3 rfl (by omega) _ rfl _ _ rfl rfl rfl ?_;intro A4 c4 w4 hcc4 hp4 hb4)
  | (go_at_call 86;refine (ih d k1 n1 ks1 A1 c1 _ (by omega) (by omega) hs1'.out (by omega) (hr1.below hb1)).mono ?_;rw [ho'.out];rintro e w3 ⟨A3,c3,xs,rfl,hm3,hc3',hp3,hpe,hb3⟩;have hb4':=hb1.trans (hb3.mono hb1.size))
  | (go_at_call 110;refine (hRx.out _ (hr.alloc _)).mono ?_;rintro e w1 ⟨rfl,hb1⟩;have hB1:=(aC w 32 (Ro 16 n (some ⟨b,off,none⟩) 1 c) rfl).keep hb1;obtain ⟨p10,p11,p12⟩:=hB1.three;replace hb1:=bw1.trans (hb1.mono (by simp));have y0:=(cM hb1) _ _ i1;have y1:=(cM hb1) _ _ i2;have y2:=(cM hb1) _ _ i3))
 go_ret2
 refine ⟨A4,c4,(0:Int)::xs,by cases o<;>rfl,by simp;omega,hcc4,hp4,?_,hb4'.trans (hb4.mono hb4'.size)⟩;intro p hp;cases o with
 | none=>cases hp
 | some p1=>injection hp with hp;rw [← hp,hpe p1 rfl];rfl
theorem aRx {N:Nat}(ih:yV N)(d:Nat)(n:Int)(ks:List Tm)(A:Option Addr)(c:Nat)(w:World)(hd:d+1≤30)(hN:aG ks<N+1)(hsh:shape (d+1) (.mk 9 n ks)=true)(hM:aG ks≤1099511627775)(hr:Rd w A 0 ks)(hx:rdx 9 ks=0) :
  Calls prog 86 #[.agg (Ro 9 n A ks.length c)] w (HeadPost (bV (.mk 9 n ks)) (d+1) w):=by
 obtain ⟨ha,hm1,hm2,hkids⟩:=(bF d 9 n ks).1 hsh;have hlen:ks.length=4:=by have:aU 9=4:=rfl;omega
 have hik:3<ks.length:=by omega
 rw [mF (i:=3) hx rfl hik];obtain ⟨b,off,k1,n1,ks1,A1,c1,rfl,hkj,i1,i2,i3,hl1,hr1⟩:=hr.at_ hik;have hsz:=cF (iC hik);have hs1:=hkids _ (iC hik);rw [hkj] at hsz hs1⊢;simp only [Tm.size] at hsz
 have hRx:=aD (fun (w:World) (hr:Rd w (some ⟨b,off,none⟩) 0 ks)=>by have:=cU 9 n ks _ c w (by omega) ha hr;rwa [hlen,hx] at this);rw [hlen];generalize ho:bV (.mk k1 n1 ks1)=o
 have ho':=aD ho;have hs1':=aD hs1;have ha':=aD ha;have hx':=aD hx;have hlen':=aD hlen;clear ho hs1 ha hx hkids hsh hm1 hm2 hkj;simp only [Nat.zero_mul,Nat.add_zero,Nat.one_mul,Nat.reduceMul] at i1 i2 i3
 go_enter func86,ntmps86;go_wp2_with (first
  | (at_builtin;refine dI hp3 rfl (by omega) _ rfl _ _ rfl rfl rfl ?_;intro A4 c4 w4 hcc4 hp4 hb4)
  | (go_at_call 86;refine (ih d k1 n1 ks1 A1 c1 _ (by omega) (by omega) hs1'.out (by omega) (hr1.below hb1)).mono ?_;rw [ho'.out];rintro e w3 ⟨A3,c3,xs,rfl,hm3,hc3',hp3,hpe,hb3⟩;have hb4':=hb1.trans (hb3.mono hb1.size))
  | (go_at_call 110;refine (hRx.out _ (hr.alloc _)).mono ?_;rintro e w1 ⟨rfl,hb1⟩;have hB1:=(aC w 32 (Ro 9 n (some ⟨b,off,none⟩) 4 c) rfl).keep hb1;obtain ⟨p10,p11,p12⟩:=hB1.three;replace hb1:=bw1.trans (hb1.mono (by simp));have y0:=(cM hb1) _ _ i1;have y1:=(cM hb1) _ _ i2;have y2:=(cM hb1) _ _ i3))
 go_ret2
 refine ⟨A4,c4,(3:Int)::xs,by cases o<;>rfl,by simp;omega,hcc4,hp4,?_,hb4'.trans (hb4.mono hb4'.size)⟩;intro p hp;cases o with
 | none=>cases hp
 | some p1=>injection hp with hp;rw [← hp,hpe p1 rfl];rfl
theorem aOx {N:Nat}(ih:yV N)(d:Nat)(n:Int)(ks:List Tm)(A:Option Addr)(c:Nat)(w:World)(hd:d+1≤30)(hN:aG ks<N+1)(hsh:shape (d+1) (.mk 12 n ks)=true)(hM:aG ks≤1099511627775)(hr:Rd w A 0 ks)(hx:rdx 12 ks=0) :
  Calls prog 86 #[.agg (Ro 12 n A ks.length c)] w (HeadPost (bV (.mk 12 n ks)) (d+1) w):=by
 obtain ⟨ha,hm1,hm2,hkids⟩:=(bF d 12 n ks).1 hsh;have hlen:ks.length=3:=by have:aU 12=3:=rfl;omega
 have hik:1<ks.length:=by omega
 rw [mF (i:=1) hx rfl hik];obtain ⟨b,off,k1,n1,ks1,A1,c1,rfl,hkj,i1,i2,i3,hl1,hr1⟩:=hr.at_ hik;have hsz:=cF (iC hik);have hs1:=hkids _ (iC hik);rw [hkj] at hsz hs1⊢;simp only [Tm.size] at hsz
 have hRx:=aD (fun (w:World) (hr:Rd w (some ⟨b,off,none⟩) 0 ks)=>by have:=cU 12 n ks _ c w (by omega) ha hr;rwa [hlen,hx] at this);rw [hlen];generalize ho:bV (.mk k1 n1 ks1)=o
 have ho':=aD ho;have hs1':=aD hs1;have ha':=aD ha;have hx':=aD hx;have hlen':=aD hlen;clear ho hs1 ha hx hkids hsh hm1 hm2 hkj;simp only [Nat.zero_mul,Nat.add_zero,Nat.one_mul,Nat.reduceMul] at i1 i2 i3
 go_enter func86,ntmps86;go_wp2_with (first
  | (at_builtin;refine dI hp3 rfl (by omega) _ rfl _ _ rfl rfl rfl ?_;intro A4 c4 w4 hcc4 hp4 hb4)
  | (go_at_call 86;refine (ih d k1 n1 ks1 A1 c1 _ (by omega) (by omega) hs1'.out (by omega) (hr1.below hb1)).mono ?_;rw [ho'.out];rintro e w3 ⟨A3,c3,xs,rfl,hm3,hc3',hp3,hpe,hb3⟩;have hb4':=hb1.trans (hb3.mono hb1.size))
  | (go_at_call 110;refine (hRx.out _ (hr.alloc _)).mono ?_;rintro e w1 ⟨rfl,hb1⟩;have hB1:=(aC w 32 (Ro 12 n (some ⟨b,off,none⟩) 3 c) rfl).keep hb1;obtain ⟨p10,p11,p12⟩:=hB1.three;replace hb1:=bw1.trans (hb1.mono (by simp));have y0:=(cM hb1) _ _ i1;have y1:=(cM hb1) _ _ i2;have y2:=(cM hb1) _ _ i3))
 go_ret2
 refine ⟨A4,c4,(1:Int)::xs,by cases o<;>rfl,by simp;omega,hcc4,hp4,?_,hb4'.trans (hb4.mono hb4'.size)⟩;intro p hp;cases o with
 | none=>cases hp
 | some p1=>injection hp with hp;rw [← hp,hpe p1 rfl];rfl
theorem aIv (N:Nat):yV N:=by
 induction N with
 | zero=>intro d k n ks A c w _ hN;exact absurd hN (Nat.not_lt_zero _)
 | succ N ih=>
 intro d k n ks A c w hd hN hsh hM hr;obtain ⟨d,rfl⟩:∃d',d=d'+1:=by cases d with|zero=>simp [shape] at hsh|succ d=>exact ⟨d,rfl⟩
 have ha:=((bF d k n ks).1 hsh).1;by_cases hx:rdx k ks=0
 ·by_cases h5:k=5
  ·subst h5;exact aQb ih d n ks A c w hd hN hsh hM hr hx
  by_cases h15:k=15
  ·subst h15;exact aNa ih d n ks A c w hd hN hsh hM hr hx
  by_cases h16:k=16
  ·subst h16;exact aNp ih d n ks A c w hd hN hsh hM hr hx
  by_cases h9:k=9
  ·subst h9;exact aRx ih d n ks A c w hd hN hsh hM hr hx
  by_cases h12:k=12
  ·subst h12;exact aOx ih d n ks A c w hd hN hsh hM hr hx
  exact aKu (d+1) k n ks A c w ha hM hr hx h5 h15 h16 h9 h12
 ·exact aIf (d+1) k n ks A c w ha hM hr hx
theorem pE (N:Nat)(d:Nat)(k n:Int)(ks:List Tm)(A:Option Addr)(c:Nat)(w:World)(hd:d≤30)(hN:aG ks<N)(hsh:shape d (.mk k n ks)=true)(hM:aG ks≤1099511627775)(hr:Rd w A 0 ks) :
  Calls prog 86 #[.agg (Ro k n A ks.length c)] w (WayPost (bV (.mk k n ks)) d w):=
 (aIv N d k n ks A c w hd hN hsh hM hr).mono fun e w' h=>h.way
theorem wV (k n:Int)(ks:List Tm)(A:Option Addr)(c:Nat)(fuel:Nat)(w:World)(hv:aE (.mk k n ks)=true)(hf:fuel≤200)(hr:Rd w A 0 ks) :
  Calls prog 85 #[.agg (Ro k n A ks.length c),.int .i64 fuel,.func (.func 86) #[] #[]] w (aPa w (redI bV fuel (.mk k n ks))):=by
 have hz:=aH hv;have hv':=aD hv;have hF:∀(args:Array Value) (w:World),(callFunc 86 args).run prog w = .ok (.enter 86 args) w:=fG func86 (by kernel_rfl) (by kernel_rfl);have q1:decide ((fuel:Int)≤200)=true:=decide_eq_true (by omega);clear hv;go_enter func85,ntmps85;go_wp2_with (first
  | (go_at_call 36;refine (dF _ _ _ _).mono ?_;rintro e w9 ⟨rfl,rfl⟩)
  | (go_at_call 58;refine (bI k n ks A c _ (by omega) ((hr.alloc _).alloc _)).mono ?_;rw [hv'.out];rintro e w1 ⟨rfl,hb1⟩;have hT1:Blk w1 w.heap.size (Ro k n A ks.length c):=((aC _ 32 _ rfl).alloc _).keep hb1;have hZ1:Blk w1 (w.heap.size+1) Zr:=(aC _ 32 _ (by simp)).keep hb1;have g1:Bw w w1:=bU bw2 hb1;have r1:=((hr.alloc (.cells (Ro k n A ks.length c) 32)).alloc (.cells Zr 32)).below hb1))
 go_loopw [9] (fun i wr=>∃(j:Nat) (kj nj:Int) (ksj:List Tm) (Aj:Option Addr) (cj:Nat),j≤fuel∧i = .int .i64 j∧Hid (redI bV (fuel - j) (.mk kj nj ksj)=redI bV fuel (.mk k n ks))∧Hid (aE (.mk kj nj ksj)=true)∧Rd wr Aj 0 ksj∧Blk wr w.heap.size (Ro kj nj Aj ksj.length cj)∧Blk wr (w.heap.size+1) Zr∧Bw w wr)
  (fun i _ => fuel - (intOf i).toNat)
 case atStart=>exact ⟨0,k,n,ks,A,c,Nat.zero_le _,rfl,aD rfl,hv',r1,hT1,hZ1,g1⟩
 case round=>
  obtain ⟨j,kj,nj,ksj,Aj,cj,hj,rfl,hred,hvj,hrj,hT,hZ,hb⟩:=hrel;have hzj:=aH hvj.out;obtain ⟨y0,y1,y2⟩:=hT.three;cases hfind:bV (.mk kj nj ksj) with
  | none=>
   have hfo:=aD hfind;have hres:redI bV fuel (.mk k n ks)=(some (.mk kj nj ksj),0):=by rw [← hred.out,yS hfind]
   rw [hres];clear hres hfind;go_wp2_with (first
    | (go_at_call 63;have _t:=tok1;refine (kA 10000 kj nj ksj Aj cj _ (by omega) (by omega) r1).mono ?_;rintro e w2 ⟨A2,c2,rfl,hl2,hf2,hb2⟩;have hZ2:=hZ1.keep hb2;have g2:=g1.trans (hb2.mono g1.size);obtain ⟨d0,d1,d2,e0,e1,e2⟩:=bW hZ2)
    | (go_at_call 86;refine (pE (aG ksj+1) 30 kj nj ksj Aj cj _ (by omega) (by omega) (aZ hvj.out) (by omega) hrj).mono ?_;rw [hfo.out];intro e w1 hp1;obtain ⟨A1,m1,c1,rfl,hb1⟩:=hp1.none_;have hT1:=hT.keep hb1;have hZ1:=hZ.keep hb1;have g1:=hb.trans (hb1.mono hb.size);have r1:=hrj.below hb1;obtain ⟨x0,x1,x2⟩:=hT1.three;have tok1:=trivial))
   have lz:=hZ1.lt;refine bodyPost_ret (v:=.tuple #[.agg (Ro kj nj A2 ksj.length c2),.int .i64 j,.int .i64 0]) (by simp [results,results85,go_sem,d0,d1,d2]) rfl ⟨kj,nj,ksj,A2,c2,j,rfl,rfl,hl2,?_,?_⟩
   ·exact ((((hf2.rd'.setCell (by simp;omega) _).setCell (by simp;omega) _).setCell (by simp;omega) _)).mono (fun b hb=>Nat.le_trans g1.size hb)
   ·exact bP g2
  | some p=>
   obtain ⟨ku,nu,us,hat,hxu⟩:=aHd _ _ hfind;have hfo:=aD hfind;have hat':=aD hat
   have hxu':=aD hxu;by_cases hjf:j=fuel
   ·subst hjf;have hres:redI bV j (.mk k n ks)=(none,1):=by rw [← hred.out,Nat.sub_self,yT hfind]
    rw [hres];clear hres hfind hat hxu;go_wp2_with (go_at_call 86;refine (pE (aG ksj+1) 30 kj nj ksj Aj cj _ (by omega) (by omega) (aZ hvj.out) (by omega) hrj).mono ?_;rw [hfo.out];intro e w1 hp1;obtain ⟨A1,m1,c1,rfl,hm1,hmc1,hme,hpx,hb1⟩:=hp1.some_;have hT1:=hT.keep hb1;have hZ1:=hZ.keep hb1;have g1:=hb.trans (hb1.mono hb.size);have r1:=hrj.below hb1;have ri:=hpx.rdi;subst hme;obtain ⟨x0,x1,x2⟩:=hT1.three;have tok1:=trivial;obtain ⟨d0,d1,d2,e0,e1,e2⟩:=bW hZ1)
    refine bodyPost_ret (v:=.tuple #[.agg Zr,.int .i64 j,.int .i64 1]) (by simp [results,results85,go_sem,d0,d1,d2]) rfl ⟨0,0,[],none,0,j,rfl,rfl,by simp,RdP.nil,?_⟩;exact bP g1
   ·have hjlt:j<fuel:=by omega
    have hq:((j:Int)==(fuel:Int))=false:=by simp;omega
    obtain ⟨f,hfe⟩:∃f,fuel - j=f+1:=⟨fuel - j - 1,by omega⟩;cases hct:mS (.mk kj nj ksj) p with
    | none=>
     have hres:redI bV fuel (.mk k n ks)=(none,2):=by rw [← hred.out,hfe,vP hfind hct]
     rw [hres];have hct':=aD hct;clear hres hfind hat hxu hct;go_wp2_with (first
      | (go_at_call 109;have _t:=tok1;refine (rX kj nj ksj Aj cj p A1 c1 _ hvj.out (by omega) hmc1 hat'.out hxu'.out r1 ri).mono ?_;rw [hct'.out];intro e w2 hgo;obtain ⟨rfl,hb2⟩:=eH hgo;have hZ2:=hZ1.keep hb2;have g2:=g1.trans (hb2.mono g1.size);obtain ⟨d0,d1,d2,e0,e1,e2,lz⟩:=dJ hZ2;have n1:w.heap.size+1≠w2.heap.size:=(by omega))
      | (go_at_call 86;refine (pE (aG ksj+1) 30 kj nj ksj Aj cj _ (by omega) (by omega) (aZ hvj.out) (by omega) hrj).mono ?_;rw [hfo.out];intro e w1 hp1;obtain ⟨A1,m1,c1,rfl,hm1,hmc1,hme,hpx,hb1⟩:=hp1.some_;have hT1:=hT.keep hb1;have hZ1:=hZ.keep hb1;have g1:=hb.trans (hb1.mono hb.size);have r1:=hrj.below hb1;have ri:=hpx.rdi;subst hme;obtain ⟨x0,x1,x2⟩:=hT1.three;have tok1:=trivial))
     have y:=fun (o:Obj)=>(((((hZ2.set_ 0 (.int .i64 0)).set_ 1 (.int .i64 0)).set_ 2 (.slice none 0 0)).alloc o:Blk _ _ Zr)).three
     refine bodyPost_ret (v:=.tuple #[.agg Zr,.int .i64 j,.int .i64 2]) (by simp [results,results85,go_sem,y]) rfl ⟨0,0,[],none,0,j,rfl,rfl,by simp,RdP.nil,?_⟩;exact (bP g2).alloc (by simp [World.setCell];exact g2.size) _
    | some t'=>
     obtain ⟨kt,nt,kst⟩:=t';have hvt:=aD (qH hct);have hres:=aD (show redI bV (fuel - (j+1)) (.mk kt nt kst)=redI bV fuel (.mk k n ks) by rw [← hred.out,hfe,yR hfind hct];congr 1;omega);have hct':=aD hct;clear hfind hat hxu hct;go_wp2_with (first
      | (go_at_call 109;have _t:=tok1;refine (rX kj nj ksj Aj cj p A1 c1 _ hvj.out (by omega) hmc1 hat'.out hxu'.out r1 ri).mono ?_;rw [hct'.out];intro e w2 hgo;obtain ⟨A2,c2,rfl,hl2,hf2,hb2⟩:=cS hgo;have hT2:=hT1.keep hb2;have hZ2:=hZ1.keep hb2;have g2:=g1.trans (hb2.mono g1.size);obtain ⟨e0,e1,e2⟩:=bkf hT2;obtain ⟨d0,d1,d2⟩:=hT2.three;have lz:=hT2.lt)
      | (go_at_call 86;refine (pE (aG ksj+1) 30 kj nj ksj Aj cj _ (by omega) (by omega) (aZ hvj.out) (by omega) hrj).mono ?_;rw [hfo.out];intro e w1 hp1;obtain ⟨A1,m1,c1,rfl,hm1,hmc1,hme,hpx,hb1⟩:=hp1.some_;have hT1:=hT.keep hb1;have hZ1:=hZ.keep hb1;have g1:=hb.trans (hb1.mono hb.size);have r1:=hrj.below hb1;have ri:=hpx.rdi;subst hme;obtain ⟨x0,x1,x2⟩:=hT1.three;have tok1:=trivial))
     have lt1:=hT1.lt;go_roundw
     case rel=>
      refine ⟨j+1,kt,nt,kst,A2,c2,by omega,by go_num,hres,hvt,?_,(((hT2.set_ 0 _).set_ 1 _).set_ 2 _).alloc _,(((hZ2.far (by simp) _).far (by simp) _).far (by simp) _).alloc _,(bP g2).alloc (by simp [World.setCell];exact g2.size) _⟩;exact ((((hf2.rd'.setCell (by simp;omega) _).setCell (by simp;omega) _).setCell (by simp;omega) _).alloc _).rd
     case measure=>simp [intOf];omega
theorem kJ (k n:Int)(ks:List Tm)(A:Option Addr)(c:Nat)(fuel:Nat)(w:World)(hv:aE (.mk k n ks)=true)(hf:fuel≤200)(hr:Rd w A 0 ks) :
  Calls prog 51 #[.agg (Ro k n A ks.length c),.int .i64 fuel] w (aQr w (redI bV fuel (.mk k n ks))):=by
 generalize hre:redI bV fuel (.mk k n ks)=re
 have hR:=aD (fun (w:World) (hr:Rd w A 0 ks)=>by have:=wV k n ks A c fuel w hv hf hr;rwa [hre] at this);clear hre hv;go_enter func51,ntmps51;go_wp2_with (go_at_call 85;refine (hR.out _ ((hr.alloc _).alloc _)).mono ?_;rintro e w1 ⟨k1,n1',ks1,A1,c1,st,hk1,rfl,hl1,r1,hb1⟩;have hZ1:Blk w1 (w.heap.size+1) Zr:=(aC _ 32 _ (by simp)).keep hb1;have g1:Bw w w1:=bU bw2 hb1;obtain ⟨d0,d1,d2,e0,e1,e2,lz⟩:=dJ hZ1;have n1:w.heap.size+1≠w1.heap.size:=(by omega))
 have y:=fun (o:Obj)=>(((((hZ1.set_ 0 (.int .i64 k1)).set_ 1 (.int .i64 n1')).set_ 2 (.slice A1 ks1.length c1)).alloc o:Blk _ _ (Ro k1 n1' A1 ks1.length c1))).three
 refine bodyPost_ret (v:=.tuple #[.agg (Ro k1 n1' A1 ks1.length c1),.int .i64 re.2]) (by simp [results,results51,go_sem,y]) rfl ⟨k1,n1',ks1,A1,c1,hk1,rfl,hl1,?_,?_⟩
 ·exact ((((r1.setCell (by simp) _).setCell (by simp) _).setCell (by simp) _).alloc _).mono (fun b hb=>by simp at hb;omega)
 ·exact (bP g1).alloc (by simp [World.setCell];exact g1.size) _
end Go.Proofs.YtjlaenhcemacdaaGreat
