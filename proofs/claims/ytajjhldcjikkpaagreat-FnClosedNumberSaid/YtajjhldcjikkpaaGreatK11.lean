/- Parts of the proof. No condition. -/
import Derived.Test.YtajjhldcjikkpaaGreatK9
import Derived.Test.YtajjhldcjikkpaaGreatK10
open Go.Proofs.Tryz
namespace Go.Proofs.YtajjhldcjikkpaaGreat
open Go.RowKit
set_option maxHeartbeats 8000000
set_option maxRecDepth 100000
set_option linter.unusedSimpArgs false
set_option linter.unusedVariables false
theorem aCm {ks:List Tm}{i:Nat}(hi:i<ks.length){t:Tm}:aH (ks.set i t)+ks[i].size=aH ks+t.size:=by
 induction ks generalizing i with
 | nil=>simp at hi
 | cons a ts ih=>
  cases i with
  | zero=>rw [List.set_cons_zero,aH,aH,List.getElem_cons_zero];omega
  | succ i=>rw [List.set_cons_succ,aH,aH,List.getElem_cons_succ];have:=ih (i:=i) (by simpa using hi);omega
theorem zK {u u0:Tm}:∀{xs:List Int} {t:Tm},lC t xs=some u0→(iT t xs u).size≤t.size+u.size
 | [],t,_=>by rw [iT];omega
 | i::is,.mk k n ks,h=>by
  rw [lC] at h;split at h
  ·rename_i hh
   have hlt:i.toNat<ks.length:=by have:=hh.2;simp only [Tm.kids] at this;omega
   rw [show (Tm.mk k n ks).kids=ks from rfl] at h;have h1:=zK h (u:=u);have h2:=aCm hlt (t:=iT (ks.getD i.toNat default) is u);have e:ks.getD i.toNat default=ks[i.toNat]:=by simp [List.getD,oE hlt]
   rw [e] at h1 h2;rw [iT,Tm.size,Tm.size,e];omega
  ·cases h
theorem zO (ku nu:Int)(us:List Tm)(hus:aH us≤1000000)(xs:List Int)(k n:Int)(ks:List Tm)(A:Option Addr)(c:Nat)(P:Option Addr)(cp:Nat)(U:Option Addr)(cu:Nat)(w:World)(u0:Tm)(h:lC (.mk k n ks) xs=some u0)(hcp:xs.length≤cp)(hM:aH ks≤1000000)(hr:Rd w A 0 ks)(hi:RdI w P xs)(hru:Rd w U 0 us){kp np:Int}{ps:List Tm}(hp:iT (.mk k n ks) xs (.mk ku nu us) = .mk kp np ps) :
  Calls prog 87 #[.agg (Ro k n A ks.length c),.slice P xs.length cp,.agg (Ro ku nu U us.length cu)] w fun e w'=>∃B d,e = .returned (.agg (Ro kp np B ps.length d))∧ps.length≤9223372036854775807∧Rd w' B 0 ps∧Bw w w':=by
 refine (aDt (·<w.heap.size) ku nu us hus xs k n ks A c P cp U cu w u0 h hcp hM hr.rdp hi hru.rdp (fun b hb=>hb)).mono ?_;rw [hp];rintro e w' hgo;obtain ⟨B,d,rfl,hl,hr',hb⟩:=aIp hgo;exact ⟨B,d,rfl,hl,hr'.rd,hb⟩
theorem sE (k n:Int)(ks:List Tm)(A:Option Addr)(c:Nat)(xs:List Int)(P:Option Addr)(cp:Nat)(w:World){ku nu:Int}{us:List Tm}(hv:aE (.mk k n ks)=true)(hx:xs.length≤1000)(hcp:xs.length≤cp)(hat:lC (.mk k n ks) xs=some (.mk ku nu us))(hxu:cH ku us≠0)(hr:Rd w A 0 ks)(hp:RdI w P xs) :
  Calls prog 62 #[.agg (Ro k n A ks.length c),.slice P xs.length cp] w (uK w (lX (.mk k n ks) xs)):=by
 have hz:=aJ hv;have hlen:=aQ ks;have hvu:=mT hat hv;have hvu':=aD hvu;have hat':=aD hat
 have hxu':=aD hxu;have hzu:=aJ hvu;cases hc:pT (.mk ku nu us) with
 | none=>
  have hz2:lX (.mk k n ks) xs=none:=by rw [lX,hat];simp only [hc]
  rw [hz2];have hc':=aD hc;clear hz2 hc hat hvu hxu hv;go_enter func62,ntmps62;go_wp2_with (first
   | (go_at_call 84;have _t:=tok1;refine (lQ ku nu us A2 c2 _ hvu'.out hxu'.out rU).mono ?_;rw [hc'.out];intro e w2 hgo;obtain ⟨rfl,hb2⟩:=gX hgo;have hZ2:=hZ1.keep hb2;have g2:=g1.trans (hb2.mono g1.size);obtain ⟨d0,d1,d2,e0,e1,e2,lz⟩:=dA hZ2;have n1:w.heap.size+1≠w2.heap.size:=(by omega))
   | (go_at_call 85;refine (aBk k n ks A c xs P cp _ (by omega) (by omega) ((hr.alloc _).alloc _) ((hp.alloc _).alloc _) hat'.out).mono ?_;rintro e w1 ⟨k',n',ks',A2,c2,hu,rfl,hl2,hr2,hb1⟩;injection hu with x1 x2 x3;subst x1 x2 x3;have hZ1:=bH hb1;have g1:Bw w w1:=bQ bw2 hb1;have rU:=hr2.below hb1;have tok1:=trivial))
  have y:=fun (o:Obj)=>(((((hZ2.set_ 0 (.int .i64 0)).set_ 1 (.int .i64 0)).set_ 2 (.slice none 0 0)).alloc o:Blk _ _ Zr)).three
  refine bodyPost_ret (v:=.tuple #[fT,.bool false]) (by simp [results,results62,go_sem,y,fT]) rfl ⟨rfl,?_⟩;exact (bT g2).alloc (by simp [World.setCell];exact g2.size) _
 | some v=>
  obtain ⟨kv,nv,vs⟩:=v;have hvv:=aGd hc;have hzv:=aJ hvv;obtain ⟨kp,np,ps,hput⟩:∃kp np ps,iT (.mk k n ks) xs (.mk kv nv vs) = .mk kp np ps:=by cases iT (.mk k n ks) xs (.mk kv nv vs) with|mk a b c=>exact ⟨a,b,c,rfl⟩
  have hzp:aH ps≤1000:=by
   have:=zK hat (u:=.mk kv nv vs);rw [hput] at this;simp only [Tm.size] at this
   omega
  have hz2:lX (.mk k n ks) xs=vO (.mk kp np ps):=by rw [lX,hat];simp only [hc,hput]
  rw [hz2];have hc':=aD hc;have hput':=aD hput;clear hz2 hc hat hvu hxu hv hput hvv;have hlp:=aQ ps;cases hvp:aE (.mk kp np ps) with
  | false=>
   have hz3:vO (.mk kp np ps)=none:=by rw [vO,hvp];rfl
   rw [hz3];have hvp':=aD hvp;clear hz3 hvp;go_enter func62,ntmps62;go_wp2_with (first
    | (go_at_call 86;have _t:=tok4;refine (zN kp np ps A8 c8 _ (by omega) hf8.rd hvp'.out).mono ?_;rintro e w9 ⟨rfl,hb9⟩;have hZ9:=hZ8.keep hb9;have g9:=g8.trans (hb9.mono g8.size);obtain ⟨d0,d1,d2,e0,e1,e2⟩:=bW hZ9)
    | (go_at_call 61;have _t:=tok3;refine (kC 10000 kp np ps A7 c7 _ (by omega) (by omega) r7).mono ?_;rintro e w8 ⟨A8,c8,rfl,hl8,hf8,hb8⟩;have hZ8:=hZ7.keep hb8;have g8:=g7.trans (hb8.mono g7.size);have tok4:=trivial)
    | (go_at_call 87;have _t:=tok2;refine (zO kv nv vs (by omega) xs k n ks A c P cp A3 c3 _ (.mk ku nu us) hat'.out hcp (by omega) ((hr.below g2).alloc _) ((hp.below g2).alloc _) (r3.alloc _) hput'.out).mono ?_;rintro e w7 ⟨A7,c7,rfl,hl7,r7,hb7⟩;have hZ7:=(hZ2.alloc (.cells (Ro kv nv A3 vs.length c3) 25)).keep hb7;have g7:=(g2.alloc g2.size (.cells (Ro kv nv A3 vs.length c3) 25)).trans (hb7.mono (by have:=g2.size;simp;omega));have tok3:=trivial)
    | (go_at_call 84;have _t:=tok1;refine (lQ ku nu us A2 c2 _ hvu'.out hxu'.out rU).mono ?_;rw [hc'.out];intro e w2 hgo;obtain ⟨A3,c3,rfl,hl3,hf3,hb2⟩:=cS hgo;have hZ2:=hZ1.keep hb2;have hX2:=hX1.keep hb2;have g2:=g1.trans (hb2.mono g1.size);have r3:=hf3.rd;obtain ⟨x0,x1,x2⟩:=hX2.three;have lx:=hX2.lt;have tok2:=trivial)
    | (go_at_call 85;refine (aBk k n ks A c xs P cp _ (by omega) (by omega) ((hr.alloc _).alloc _) ((hp.alloc _).alloc _) hat'.out).mono ?_;rintro e w1 ⟨k',n',ks',A2,c2,hu,rfl,hl2,hr2,hb1⟩;injection hu with y1 y2 y3;subst y1 y2 y3;have hX1:=cV hb1;have hZ1:=bH hb1;have g1:Bw w w1:=bQ bw2 hb1;have rU:=hr2.below hb1;have tok1:=trivial))
   refine bodyPost_ret (v:=.tuple #[fT,.bool false]) (by simp [results,results62,go_sem,d0,d1,d2,fT]) rfl ⟨rfl,?_⟩;exact bT g9
  | true=>
   have hz3:vO (.mk kp np ps)=some (.mk kp np ps):=by rw [vO,hvp];rfl
   rw [hz3];have hvp':=aD hvp;clear hz3 hvp;go_enter func62,ntmps62;go_wp2_with (first
    | (go_at_call 86;have _t:=tok4;refine (iB kp np ps A8 c8 _ (by omega) hf8.rd hvp'.out).mono ?_;rintro e w9 ⟨rfl,hb9⟩;have hZ9:=hZ8.keep hb9;have g9:=g8.trans (hb9.mono g8.size);have hf9:=hf8.below hb9;obtain ⟨d0,d1,d2,e0,e1,e2⟩:=bW hZ9)
    | (go_at_call 61;have _t:=tok3;refine (kC 10000 kp np ps A7 c7 _ (by omega) (by omega) r7).mono ?_;rintro e w8 ⟨A8,c8,rfl,hl8,hf8,hb8⟩;have hZ8:=hZ7.keep hb8;have g8:=g7.trans (hb8.mono g7.size);have tok4:=trivial)
    | (go_at_call 87;have _t:=tok2;refine (zO kv nv vs (by omega) xs k n ks A c P cp A3 c3 _ (.mk ku nu us) hat'.out hcp (by omega) ((hr.below g2).alloc _) ((hp.below g2).alloc _) (r3.alloc _) hput'.out).mono ?_;rintro e w7 ⟨A7,c7,rfl,hl7,r7,hb7⟩;have hZ7:=(hZ2.alloc (.cells (Ro kv nv A3 vs.length c3) 25)).keep hb7;have g7:=(g2.alloc g2.size (.cells (Ro kv nv A3 vs.length c3) 25)).trans (hb7.mono (by have:=g2.size;simp;omega));have tok3:=trivial)
    | (go_at_call 84;have _t:=tok1;refine (lQ ku nu us A2 c2 _ hvu'.out hxu'.out rU).mono ?_;rw [hc'.out];intro e w2 hgo;obtain ⟨A3,c3,rfl,hl3,hf3,hb2⟩:=cS hgo;have hZ2:=hZ1.keep hb2;have hX2:=hX1.keep hb2;have g2:=g1.trans (hb2.mono g1.size);have r3:=hf3.rd;obtain ⟨x0,x1,x2⟩:=hX2.three;have lx:=hX2.lt;have tok2:=trivial)
    | (go_at_call 85;refine (aBk k n ks A c xs P cp _ (by omega) (by omega) ((hr.alloc _).alloc _) ((hp.alloc _).alloc _) hat'.out).mono ?_;rintro e w1 ⟨k',n',ks',A2,c2,hu,rfl,hl2,hr2,hb1⟩;injection hu with y1 y2 y3;subst y1 y2 y3;have hX1:=cV hb1;have hZ1:=bH hb1;have g1:Bw w w1:=bQ bw2 hb1;have rU:=hr2.below hb1;have tok1:=trivial))
   have s7:=g7.size;have lz:=hZ8.lt;have lz1:=hZ1.lt;have s12:=hb2.size;have s27:=hb7.size;refine bodyPost_ret (v:=.tuple #[.agg (Ro kp np A8 ps.length c8),.bool true]) (by simp [results,results62,go_sem,d0,d1,d2]) rfl ⟨A8,c8,rfl,hl8,?_,?_⟩
   ·exact (((hf9.setCell (by simp at s27;simp;omega) _).setCell (by simp at s27;simp;omega) _).setCell (by simp at s27;simp;omega) _).mono s7
   ·exact bT g9
def HeadPost (o:Option (List Int))(d:Nat)(w:World)(e:Ending)(w':World):Prop:=
 ∃(A:Option Addr) (c:Nat) (xs:List Int),e = .returned (.tuple #[.slice A xs.length c,.bool o.isSome])∧xs.length≤d∧xs.length≤c∧PathX w' A xs∧(∀p,o=some p→xs=p)∧Bw w w'
theorem HeadPost.way {o:Option (List Int)}{d:Nat}{w:World}{e:Ending}{w':World}(h:HeadPost o d w e w'):WayPost o d w e w':=by
 obtain ⟨A,c,xs,he,h1,h2,h3,h4,h5⟩:=h;exact ⟨A,xs.length,c,he,h1,h2,fun p hp=>by have:=h4 p hp;subst this;exact ⟨rfl,h3⟩,h5⟩
theorem yX:∀{ts:List Tm} {i:Nat} (h:i<ts.length),iO i ts=bS ts[i]
 | [],_,h=>absurd h (Nat.not_lt_zero _)
 | t::ts,0,_=>by rw [iO];rfl
 | t::ts,i+1,h=>by rw [iO,yX (by simpa using h)];simp
theorem mO {k n:Int}{ks:List Tm}{i:Nat}(hr:cH k ks=0)(hm:dD k=i)(hi:i<ks.length):bS (.mk k n ks)=(bS ks[i]).map ((i:Int)::·):=by
 rw [bS,if_pos hr,hm,if_neg (by omega),Int.toNat_natCast,yX hi]
theorem aLb {k n:Int}{ks:List Tm}(hr:cH k ks=0)(hm:dD k<0):bS (.mk k n ks)=none:=by
 rw [bS,if_pos hr,if_pos hm]
theorem aFm {k n:Int}{ks:List Tm}(hr:cH k ks≠0):bS (.mk k n ks)=some []:=by
 rw [bS,if_neg hr]
def zD (N:Nat):Prop:=∀(d:Nat) (k n:Int) (ks:List Tm) (A:Option Addr) (c:Nat) (w:World),d≤30→aH ks<N→shape d (.mk k n ks)=true→aH ks≤1099511627775→Rd w A 0 ks→
  Calls prog 128 #[.agg (Ro k n A ks.length c)] w (HeadPost (bS (.mk k n ks)) d w)
theorem aJx (d:Nat)(k n:Int)(ks:List Tm)(A:Option Addr)(c:Nat)(w:World)(ha:aK k=(ks.length:Int))(hM:aH ks≤1099511627775)(hr:Rd w A 0 ks)(hx:cH k ks≠0) :
  Calls prog 128 #[.agg (Ro k n A ks.length c)] w (HeadPost (bS (.mk k n ks)) d w):=by
 have hlen:=aQ ks;have hne:(cH k ks != 0)=true:=by simpa using hx
 rw [aFm hx];have ha':=aD ha;clear hx ha;go_enter func128,ntmps128;go_wp2_with (go_at_call 63;refine (cU k n ks A c _ (by omega) ha'.out (hr.alloc _)).mono ?_;rintro e w1 ⟨rfl,hb1⟩;replace hb1:=bw1.trans (hb1.mono (by simp)))
 go_ret2
 exact ⟨none,0,[],rfl,by simp,by simp,PathX.nil,(fun p hp=>by injection hp),hb1⟩
theorem aPe (d:Nat)(k n:Int)(ks:List Tm)(A:Option Addr)(c:Nat)(w:World)(ha:aK k=(ks.length:Int))(hM:aH ks≤1099511627775)(hr:Rd w A 0 ks)(hx:cH k ks=0)(h5:k≠5)(h15:k≠15)(h16:k≠16)(h9:k≠9)(h12:k≠12) :
  Calls prog 128 #[.agg (Ro k n A ks.length c)] w (HeadPost (bS (.mk k n ks)) d w):=by
 have hlen:=aQ ks;rw [aLb hx (by rw [dD,if_neg (by omega),if_neg h9,if_neg h12];omega)];have q5:=gP h5;have q15:=gP h15;have q16:=gP h16;have q9:=gP h9;have q12:=gP h12;have ha':=aD ha;have hx':=aD hx;clear hx ha h5 h15 h16 h9 h12;go_enter func128,ntmps128;go_wp2_with (go_at_call 63;refine (cU k n ks A c _ (by omega) ha'.out (hr.alloc _)).mono ?_;rw [hx'.out];rintro e w1 ⟨rfl,hb1⟩;have hB1:=(aC w 25 (Ro k n A ks.length c) rfl).keep hb1;obtain ⟨p10,p11,p12⟩:=hB1.three;replace hb1:=bw1.trans (hb1.mono (by simp)))
 go_ret2
 exact ⟨none,0,[],rfl,by simp,by simp,PathX.nil,(fun p hp=>by cases hp),hb1⟩
theorem aVh {N:Nat}(ih:zD N)(d:Nat)(n:Int)(ks:List Tm)(A:Option Addr)(c:Nat)(w:World)(hd:d+1≤30)(hN:aH ks<N+1)(hsh:shape (d+1) (.mk 5 n ks)=true)(hM:aH ks≤1099511627775)(hr:Rd w A 0 ks)(hx:cH 5 ks=0) :
  Calls prog 128 #[.agg (Ro 5 n A ks.length c)] w (HeadPost (bS (.mk 5 n ks)) (d+1) w):=by
 obtain ⟨ha,hm1,hm2,hkids⟩:=(bA d 5 n ks).1 hsh;have hlen:ks.length=2:=by have:aK 5=2:=rfl;omega
 have hik:0<ks.length:=by omega
 rw [mO (i:=0) hx rfl hik];obtain ⟨b,off,k1,n1,ks1,A1,c1,rfl,hkj,i1,i2,i3,hl1,hr1⟩:=hr.at_ hik;have hsz:=cM (iS hik);have hs1:=hkids _ (iS hik);rw [hkj] at hsz hs1⊢;simp only [Tm.size] at hsz
 have hRx:=aD (fun (w:World) (hr:Rd w (some ⟨b,off,none⟩) 0 ks)=>by have:=cU 5 n ks _ c w (by omega) ha hr;rwa [hlen,hx] at this);rw [hlen];generalize ho:bS (.mk k1 n1 ks1)=o
 have ho':=aD ho;have hs1':=aD hs1;have ha':=aD ha;have hx':=aD hx;have hlen':=aD hlen;clear ho hs1 ha hx hkids hsh hm1 hm2 hkj;simp only [Nat.zero_mul,Nat.add_zero,Nat.one_mul,Nat.reduceMul] at i1 i2 i3
 go_enter func128,ntmps128;go_wp2_with (first
  | (at_builtin;refine dI hp3 rfl (by omega) _ rfl _ _ rfl rfl rfl ?_;intro A4 c4 w4 hcc4 hp4 hb4)
  | (go_at_call 128;refine (ih d k1 n1 ks1 A1 c1 _ (by omega) (by omega) hs1'.out (by omega) (hr1.below hb1)).mono ?_;rw [ho'.out];rintro e w3 ⟨A3,c3,xs,rfl,hm3,hc3',hp3,hpe,hb3⟩;have hb4':=hb1.trans (hb3.mono hb1.size))
  | (go_at_call 63;refine (hRx.out _ (hr.alloc _)).mono ?_;rintro e w1 ⟨rfl,hb1⟩;have hB1:=(aC w 25 (Ro 5 n (some ⟨b,off,none⟩) 2 c) rfl).keep hb1;obtain ⟨p10,p11,p12⟩:=hB1.three;replace hb1:=bw1.trans (hb1.mono (by simp));have y0:=(bU hb1) _ _ i1;have y1:=(bU hb1) _ _ i2;have y2:=(bU hb1) _ _ i3))
 go_ret2
 refine ⟨A4,c4,(0:Int)::xs,by cases o<;>rfl,by simp;omega,hcc4,hp4,?_,hb4'.trans (hb4.mono hb4'.size)⟩;intro p hp;cases o with
 | none=>cases hp
 | some p1=>injection hp with hp;rw [← hp,hpe p1 rfl];rfl
theorem aQn {N:Nat}(ih:zD N)(d:Nat)(n:Int)(ks:List Tm)(A:Option Addr)(c:Nat)(w:World)(hd:d+1≤30)(hN:aH ks<N+1)(hsh:shape (d+1) (.mk 15 n ks)=true)(hM:aH ks≤1099511627775)(hr:Rd w A 0 ks)(hx:cH 15 ks=0) :
  Calls prog 128 #[.agg (Ro 15 n A ks.length c)] w (HeadPost (bS (.mk 15 n ks)) (d+1) w):=by
 obtain ⟨ha,hm1,hm2,hkids⟩:=(bA d 15 n ks).1 hsh;have hlen:ks.length=1:=by have:aK 15=1:=rfl;omega
 have hik:0<ks.length:=by omega
 rw [mO (i:=0) hx rfl hik];obtain ⟨b,off,k1,n1,ks1,A1,c1,rfl,hkj,i1,i2,i3,hl1,hr1⟩:=hr.at_ hik;have hsz:=cM (iS hik);have hs1:=hkids _ (iS hik);rw [hkj] at hsz hs1⊢;simp only [Tm.size] at hsz
 have hRx:=aD (fun (w:World) (hr:Rd w (some ⟨b,off,none⟩) 0 ks)=>by have:=cU 15 n ks _ c w (by omega) ha hr;rwa [hlen,hx] at this);rw [hlen];generalize ho:bS (.mk k1 n1 ks1)=o
 have ho':=aD ho;have hs1':=aD hs1;have ha':=aD ha;have hx':=aD hx;have hlen':=aD hlen;clear ho hs1 ha hx hkids hsh hm1 hm2 hkj;simp only [Nat.zero_mul,Nat.add_zero,Nat.one_mul,Nat.reduceMul] at i1 i2 i3
 go_enter func128,ntmps128;go_wp2_with (first
  | (at_builtin;refine dI hp3 rfl (by omega) _ rfl _ _ rfl rfl rfl ?_;intro A4 c4 w4 hcc4 hp4 hb4)
  | (go_at_call 128;refine (ih d k1 n1 ks1 A1 c1 _ (by omega) (by omega) hs1'.out (by omega) (hr1.below hb1)).mono ?_;rw [ho'.out];rintro e w3 ⟨A3,c3,xs,rfl,hm3,hc3',hp3,hpe,hb3⟩;have hb4':=hb1.trans (hb3.mono hb1.size))
  | (go_at_call 63;refine (hRx.out _ (hr.alloc _)).mono ?_;rintro e w1 ⟨rfl,hb1⟩;have hB1:=(aC w 25 (Ro 15 n (some ⟨b,off,none⟩) 1 c) rfl).keep hb1;obtain ⟨p10,p11,p12⟩:=hB1.three;replace hb1:=bw1.trans (hb1.mono (by simp));have y0:=(bU hb1) _ _ i1;have y1:=(bU hb1) _ _ i2;have y2:=(bU hb1) _ _ i3))
 go_ret2
 refine ⟨A4,c4,(0:Int)::xs,by cases o<;>rfl,by simp;omega,hcc4,hp4,?_,hb4'.trans (hb4.mono hb4'.size)⟩;intro p hp;cases o with
 | none=>cases hp
 | some p1=>injection hp with hp;rw [← hp,hpe p1 rfl];rfl
theorem aQq {N:Nat}(ih:zD N)(d:Nat)(n:Int)(ks:List Tm)(A:Option Addr)(c:Nat)(w:World)(hd:d+1≤30)(hN:aH ks<N+1)(hsh:shape (d+1) (.mk 16 n ks)=true)(hM:aH ks≤1099511627775)(hr:Rd w A 0 ks)(hx:cH 16 ks=0) :
  Calls prog 128 #[.agg (Ro 16 n A ks.length c)] w (HeadPost (bS (.mk 16 n ks)) (d+1) w):=by
 obtain ⟨ha,hm1,hm2,hkids⟩:=(bA d 16 n ks).1 hsh;have hlen:ks.length=1:=by have:aK 16=1:=rfl;omega
 have hik:0<ks.length:=by omega
 rw [mO (i:=0) hx rfl hik];obtain ⟨b,off,k1,n1,ks1,A1,c1,rfl,hkj,i1,i2,i3,hl1,hr1⟩:=hr.at_ hik;have hsz:=cM (iS hik);have hs1:=hkids _ (iS hik);rw [hkj] at hsz hs1⊢;simp only [Tm.size] at hsz
 have hRx:=aD (fun (w:World) (hr:Rd w (some ⟨b,off,none⟩) 0 ks)=>by have:=cU 16 n ks _ c w (by omega) ha hr;rwa [hlen,hx] at this);rw [hlen];generalize ho:bS (.mk k1 n1 ks1)=o
 have ho':=aD ho;have hs1':=aD hs1;have ha':=aD ha;have hx':=aD hx;have hlen':=aD hlen;clear ho hs1 ha hx hkids hsh hm1 hm2 hkj;simp only [Nat.zero_mul,Nat.add_zero,Nat.one_mul,Nat.reduceMul] at i1 i2 i3
 go_enter func128,ntmps128;go_wp2_with (first
  | (at_builtin;refine dI hp3 rfl (by omega) _ rfl _ _ rfl rfl rfl ?_;intro A4 c4 w4 hcc4 hp4 hb4)
  | (go_at_call 128;refine (ih d k1 n1 ks1 A1 c1 _ (by omega) (by omega) hs1'.out (by omega) (hr1.below hb1)).mono ?_;rw [ho'.out];rintro e w3 ⟨A3,c3,xs,rfl,hm3,hc3',hp3,hpe,hb3⟩;have hb4':=hb1.trans (hb3.mono hb1.size))
  | (go_at_call 63;refine (hRx.out _ (hr.alloc _)).mono ?_;rintro e w1 ⟨rfl,hb1⟩;have hB1:=(aC w 25 (Ro 16 n (some ⟨b,off,none⟩) 1 c) rfl).keep hb1;obtain ⟨p10,p11,p12⟩:=hB1.three;replace hb1:=bw1.trans (hb1.mono (by simp));have y0:=(bU hb1) _ _ i1;have y1:=(bU hb1) _ _ i2;have y2:=(bU hb1) _ _ i3))
 go_ret2
 refine ⟨A4,c4,(0:Int)::xs,by cases o<;>rfl,by simp;omega,hcc4,hp4,?_,hb4'.trans (hb4.mono hb4'.size)⟩;intro p hp;cases o with
 | none=>cases hp
 | some p1=>injection hp with hp;rw [← hp,hpe p1 rfl];rfl
theorem aVo {N:Nat}(ih:zD N)(d:Nat)(n:Int)(ks:List Tm)(A:Option Addr)(c:Nat)(w:World)(hd:d+1≤30)(hN:aH ks<N+1)(hsh:shape (d+1) (.mk 9 n ks)=true)(hM:aH ks≤1099511627775)(hr:Rd w A 0 ks)(hx:cH 9 ks=0) :
  Calls prog 128 #[.agg (Ro 9 n A ks.length c)] w (HeadPost (bS (.mk 9 n ks)) (d+1) w):=by
 obtain ⟨ha,hm1,hm2,hkids⟩:=(bA d 9 n ks).1 hsh;have hlen:ks.length=4:=by have:aK 9=4:=rfl;omega
 have hik:3<ks.length:=by omega
 rw [mO (i:=3) hx rfl hik];obtain ⟨b,off,k1,n1,ks1,A1,c1,rfl,hkj,i1,i2,i3,hl1,hr1⟩:=hr.at_ hik;have hsz:=cM (iS hik);have hs1:=hkids _ (iS hik);rw [hkj] at hsz hs1⊢;simp only [Tm.size] at hsz
 have hRx:=aD (fun (w:World) (hr:Rd w (some ⟨b,off,none⟩) 0 ks)=>by have:=cU 9 n ks _ c w (by omega) ha hr;rwa [hlen,hx] at this);rw [hlen];generalize ho:bS (.mk k1 n1 ks1)=o
 have ho':=aD ho;have hs1':=aD hs1;have ha':=aD ha;have hx':=aD hx;have hlen':=aD hlen;clear ho hs1 ha hx hkids hsh hm1 hm2 hkj;simp only [Nat.zero_mul,Nat.add_zero,Nat.one_mul,Nat.reduceMul] at i1 i2 i3
 go_enter func128,ntmps128;go_wp2_with (first
  | (at_builtin;refine dI hp3 rfl (by omega) _ rfl _ _ rfl rfl rfl ?_;intro A4 c4 w4 hcc4 hp4 hb4)
  | (go_at_call 128;refine (ih d k1 n1 ks1 A1 c1 _ (by omega) (by omega) hs1'.out (by omega) (hr1.below hb1)).mono ?_;rw [ho'.out];rintro e w3 ⟨A3,c3,xs,rfl,hm3,hc3',hp3,hpe,hb3⟩;have hb4':=hb1.trans (hb3.mono hb1.size))
  | (go_at_call 63;refine (hRx.out _ (hr.alloc _)).mono ?_;rintro e w1 ⟨rfl,hb1⟩;have hB1:=(aC w 25 (Ro 9 n (some ⟨b,off,none⟩) 4 c) rfl).keep hb1;obtain ⟨p10,p11,p12⟩:=hB1.three;replace hb1:=bw1.trans (hb1.mono (by simp));have y0:=(bU hb1) _ _ i1;have y1:=(bU hb1) _ _ i2;have y2:=(bU hb1) _ _ i3))
 go_ret2
 refine ⟨A4,c4,(3:Int)::xs,by cases o<;>rfl,by simp;omega,hcc4,hp4,?_,hb4'.trans (hb4.mono hb4'.size)⟩;intro p hp;cases o with
 | none=>cases hp
 | some p1=>injection hp with hp;rw [← hp,hpe p1 rfl];rfl
theorem aQk {N:Nat}(ih:zD N)(d:Nat)(n:Int)(ks:List Tm)(A:Option Addr)(c:Nat)(w:World)(hd:d+1≤30)(hN:aH ks<N+1)(hsh:shape (d+1) (.mk 12 n ks)=true)(hM:aH ks≤1099511627775)(hr:Rd w A 0 ks)(hx:cH 12 ks=0) :
  Calls prog 128 #[.agg (Ro 12 n A ks.length c)] w (HeadPost (bS (.mk 12 n ks)) (d+1) w):=by
 obtain ⟨ha,hm1,hm2,hkids⟩:=(bA d 12 n ks).1 hsh;have hlen:ks.length=3:=by have:aK 12=3:=rfl;omega
 have hik:1<ks.length:=by omega
 rw [mO (i:=1) hx rfl hik];obtain ⟨b,off,k1,n1,ks1,A1,c1,rfl,hkj,i1,i2,i3,hl1,hr1⟩:=hr.at_ hik;have hsz:=cM (iS hik);have hs1:=hkids _ (iS hik);rw [hkj] at hsz hs1⊢;simp only [Tm.size] at hsz
 have hRx:=aD (fun (w:World) (hr:Rd w (some ⟨b,off,none⟩) 0 ks)=>by have:=cU 12 n ks _ c w (by omega) ha hr;rwa [hlen,hx] at this);rw [hlen];generalize ho:bS (.mk k1 n1 ks1)=o
 have ho':=aD ho;have hs1':=aD hs1;have ha':=aD ha;have hx':=aD hx;have hlen':=aD hlen;clear ho hs1 ha hx hkids hsh hm1 hm2 hkj;simp only [Nat.zero_mul,Nat.add_zero,Nat.one_mul,Nat.reduceMul] at i1 i2 i3
 go_enter func128,ntmps128;go_wp2_with (first
  | (at_builtin;refine dI hp3 rfl (by omega) _ rfl _ _ rfl rfl rfl ?_;intro A4 c4 w4 hcc4 hp4 hb4)
  | (go_at_call 128;refine (ih d k1 n1 ks1 A1 c1 _ (by omega) (by omega) hs1'.out (by omega) (hr1.below hb1)).mono ?_;rw [ho'.out];rintro e w3 ⟨A3,c3,xs,rfl,hm3,hc3',hp3,hpe,hb3⟩;have hb4':=hb1.trans (hb3.mono hb1.size))
  | (go_at_call 63;refine (hRx.out _ (hr.alloc _)).mono ?_;rintro e w1 ⟨rfl,hb1⟩;have hB1:=(aC w 25 (Ro 12 n (some ⟨b,off,none⟩) 3 c) rfl).keep hb1;obtain ⟨p10,p11,p12⟩:=hB1.three;replace hb1:=bw1.trans (hb1.mono (by simp));have y0:=(bU hb1) _ _ i1;have y1:=(bU hb1) _ _ i2;have y2:=(bU hb1) _ _ i3))
 go_ret2
 refine ⟨A4,c4,(1:Int)::xs,by cases o<;>rfl,by simp;omega,hcc4,hp4,?_,hb4'.trans (hb4.mono hb4'.size)⟩;intro p hp;cases o with
 | none=>cases hp
 | some p1=>injection hp with hp;rw [← hp,hpe p1 rfl];rfl
theorem aKd (N:Nat):zD N:=by
 induction N with
 | zero=>intro d k n ks A c w _ hN;exact absurd hN (Nat.not_lt_zero _)
 | succ N ih=>
 intro d k n ks A c w hd hN hsh hM hr;obtain ⟨d,rfl⟩:∃d',d=d'+1:=by cases d with|zero=>simp [shape] at hsh|succ d=>exact ⟨d,rfl⟩
 have ha:=((bA d k n ks).1 hsh).1;by_cases hx:cH k ks=0
 ·by_cases h5:k=5
  ·subst h5;exact aVh ih d n ks A c w hd hN hsh hM hr hx
  by_cases h15:k=15
  ·subst h15;exact aQn ih d n ks A c w hd hN hsh hM hr hx
  by_cases h16:k=16
  ·subst h16;exact aQq ih d n ks A c w hd hN hsh hM hr hx
  by_cases h9:k=9
  ·subst h9;exact aVo ih d n ks A c w hd hN hsh hM hr hx
  by_cases h12:k=12
  ·subst h12;exact aQk ih d n ks A c w hd hN hsh hM hr hx
  exact aPe (d+1) k n ks A c w ha hM hr hx h5 h15 h16 h9 h12
 ·exact aJx (d+1) k n ks A c w ha hM hr hx
theorem pP (N:Nat)(d:Nat)(k n:Int)(ks:List Tm)(A:Option Addr)(c:Nat)(w:World)(hd:d≤30)(hN:aH ks<N)(hsh:shape d (.mk k n ks)=true)(hM:aH ks≤1099511627775)(hr:Rd w A 0 ks) :
  Calls prog 128 #[.agg (Ro k n A ks.length c)] w (WayPost (bS (.mk k n ks)) d w):=
 (aKd N d k n ks A c w hd hN hsh hM hr).mono fun e w' h=>h.way
theorem yT {find:Tm→Option (List Int)}{f:Nat}{t:Tm}(h:find t=none):redI find f t=(some t,0):=by rw [redI.eq_def];simp only [h]
theorem zM {find:Tm→Option (List Int)}{t:Tm}{p:List Int}(h:find t=some p):redI find 0 t=(none,1):=by rw [redI.eq_def];simp only [h]
theorem vW {find:Tm→Option (List Int)}{f:Nat}{t:Tm}{p:List Int}(h:find t=some p)(h2:lX t p=none):redI find (f+1) t=(none,2):=by rw [redI.eq_def];simp only [h,h2]
theorem aAg {find:Tm→Option (List Int)}{f:Nat}{t t':Tm}{p:List Int}(h:find t=some p)(h2:lX t p=some t'):redI find (f+1) t=redI find f t':=by rw [redI.eq_def];simp only [h,h2]
def aSu (w:World)(r:Option Tm × Int)(e:Ending)(w':World):Prop:=
 ∃(k n:Int) (ks:List Tm) (A:Option Addr) (c:Nat) (st:Int),r.1.getD (.mk 0 0 []) = .mk k n ks∧e = .returned (.tuple #[.agg (Ro k n A ks.length c),.int .i64 st,.int .i64 r.2])∧ks.length≤9223372036854775807∧RdP (fun b=>w.heap.size≤b) w' A 0 ks∧Bw w w'
def aRg (w:World)(r:Option Tm × Int)(e:Ending)(w':World):Prop:=
 ∃(k n:Int) (ks:List Tm) (A:Option Addr) (c:Nat),r.1.getD (.mk 0 0 []) = .mk k n ks∧e = .returned (.tuple #[.agg (Ro k n A ks.length c),.int .i64 r.2])∧ks.length≤9223372036854775807∧RdP (fun b=>w.heap.size≤b) w' A 0 ks∧Bw w w'
theorem Fresh.rd' {B:Nat}{w:World}{A:Option Addr}{ks:List Tm}(h:Fresh B w A ks):RdP (fun b=>B≤b) w A 0 ks:=h.rdp.mono fun b hb=>hb.1
theorem aCg (k n:Int)(ks:List Tm)(A:Option Addr)(c:Nat)(fuel:Nat)(w:World)(hv:aE (.mk k n ks)=true)(hf:fuel≤200)(hr:Rd w A 0 ks) :
  Calls prog 40 #[.agg (Ro k n A ks.length c),.int .i64 fuel,.func (.func 41) #[] #[]] w (aSu w (redI dB fuel (.mk k n ks))):=by
 have hz:=aJ hv;have hv':=aD hv;have hF:∀(args:Array Value) (w:World),(callFunc 41 args).run prog w = .ok (.enter 41 args) w:=fO func41 (by kernel_rfl) (by kernel_rfl);have q1:decide ((fuel:Int)≤200)=true:=decide_eq_true (by omega);clear hv;go_enter func40,ntmps40;go_wp2_with (first
  | (go_at_call 26;refine (cX _ _ _ _).mono ?_;rintro e w9 ⟨rfl,rfl⟩)
  | (go_at_call 28;refine (bM k n ks A c _ (by omega) ((hr.alloc _).alloc _)).mono ?_;rw [hv'.out];rintro e w1 ⟨rfl,hb1⟩;have hT1:=cV hb1;have hZ1:=bH hb1;have g1:Bw w w1:=bQ bw2 hb1;have r1:=((hr.alloc (.cells (Ro k n A ks.length c) 25)).alloc (.cells Zr 25)).below hb1))
 go_loopw [9] (fun i wr=>∃(j:Nat) (kj nj:Int) (ksj:List Tm) (Aj:Option Addr) (cj:Nat),j≤fuel∧i = .int .i64 j∧Hid (redI dB (fuel - j) (.mk kj nj ksj)=redI dB fuel (.mk k n ks))∧Hid (aE (.mk kj nj ksj)=true)∧Rd wr Aj 0 ksj∧Blk wr w.heap.size (Ro kj nj Aj ksj.length cj)∧Blk wr (w.heap.size+1) Zr∧Bw w wr)
  (fun i _ => fuel - (intOf i).toNat)
 case atStart=>exact ⟨0,k,n,ks,A,c,Nat.zero_le _,rfl,aD rfl,hv',r1,hT1,hZ1,g1⟩
 case round=>
  obtain ⟨j,kj,nj,ksj,Aj,cj,hj,rfl,hred,hvj,hrj,hT,hZ,hb⟩:=hrel;have hzj:=aJ hvj.out;obtain ⟨y0,y1,y2⟩:=hT.three;cases hfind:dB (.mk kj nj ksj) with
  | none=>
   have hfo:=aD hfind;have hres:redI dB fuel (.mk k n ks)=(some (.mk kj nj ksj),0):=by rw [← hred.out,yT hfind]
   rw [hres];clear hres hfind;go_wp2_with (first
    | (go_at_call 61;have _t:=tok1;refine (kC 10000 kj nj ksj Aj cj _ (by omega) (by omega) r1).mono ?_;rintro e w2 ⟨A2,c2,rfl,hl2,hf2,hb2⟩;have hZ2:=hZ1.keep hb2;have g2:=g1.trans (hb2.mono g1.size);obtain ⟨d0,d1,d2,e0,e1,e2⟩:=bW hZ2)
    | (go_at_call 41;refine (sA (aH ksj+1) 30 kj nj ksj Aj cj _ (by omega) (by omega) (bD hvj.out) (by omega) hrj).mono ?_;rw [hfo.out];intro e w1 hp1;obtain ⟨A1,m1,c1,rfl,hb1⟩:=hp1.none_;have hT1:=hT.keep hb1;have hZ1:=hZ.keep hb1;have g1:=hb.trans (hb1.mono hb.size);have r1:=hrj.below hb1;obtain ⟨x0,x1,x2⟩:=hT1.three;have tok1:=trivial))
   have lz:=hZ1.lt;refine bodyPost_ret (v:=.tuple #[.agg (Ro kj nj A2 ksj.length c2),.int .i64 j,.int .i64 0]) (by simp [results,results40,go_sem,d0,d1,d2]) rfl ⟨kj,nj,ksj,A2,c2,j,rfl,rfl,hl2,?_,?_⟩
   ·exact ((((hf2.rd'.setCell (by simp;omega) _).setCell (by simp;omega) _).setCell (by simp;omega) _)).mono (fun b hb=>Nat.le_trans g1.size hb)
   ·exact bT g2
  | some p=>
   obtain ⟨ku,nu,us,hat,hxu⟩:=aOg _ _ hfind;have hfo:=aD hfind;have hat':=aD hat
   have hxu':=aD hxu;by_cases hjf:j=fuel
   ·subst hjf;have hres:redI dB j (.mk k n ks)=(none,1):=by rw [← hred.out,Nat.sub_self,zM hfind]
    rw [hres];clear hres hfind hat hxu;go_wp2_with (go_at_call 41;refine (sA (aH ksj+1) 30 kj nj ksj Aj cj _ (by omega) (by omega) (bD hvj.out) (by omega) hrj).mono ?_;rw [hfo.out];intro e w1 hp1;obtain ⟨A1,m1,c1,rfl,hm1,hmc1,hme,hpx,hb1⟩:=hp1.some_;have hT1:=hT.keep hb1;have hZ1:=hZ.keep hb1;have g1:=hb.trans (hb1.mono hb.size);have r1:=hrj.below hb1;have ri:=hpx.rdi;subst hme;obtain ⟨x0,x1,x2⟩:=hT1.three;have tok1:=trivial;obtain ⟨d0,d1,d2,e0,e1,e2⟩:=bW hZ1)
    refine bodyPost_ret (v:=.tuple #[.agg Zr,.int .i64 j,.int .i64 1]) (by simp [results,results40,go_sem,d0,d1,d2]) rfl ⟨0,0,[],none,0,j,rfl,rfl,by simp,RdP.nil,?_⟩;exact bT g1
   ·have hjlt:j<fuel:=by omega
    have hq:((j:Int)==(fuel:Int))=false:=by simp;omega
    obtain ⟨f,hfe⟩:∃f,fuel - j=f+1:=⟨fuel - j - 1,by omega⟩;cases hct:lX (.mk kj nj ksj) p with
    | none=>
     have hres:redI dB fuel (.mk k n ks)=(none,2):=by rw [← hred.out,hfe,vW hfind hct]
     rw [hres];have hct':=aD hct;clear hres hfind hat hxu hct;go_wp2_with (first
      | (go_at_call 62;have _t:=tok1;refine (sE kj nj ksj Aj cj p A1 c1 _ hvj.out (by omega) hmc1 hat'.out hxu'.out r1 ri).mono ?_;rw [hct'.out];intro e w2 hgo;obtain ⟨rfl,hb2⟩:=gX hgo;have hZ2:=hZ1.keep hb2;have g2:=g1.trans (hb2.mono g1.size);obtain ⟨d0,d1,d2,e0,e1,e2,lz⟩:=dA hZ2;have n1:w.heap.size+1≠w2.heap.size:=(by omega))
      | (go_at_call 41;refine (sA (aH ksj+1) 30 kj nj ksj Aj cj _ (by omega) (by omega) (bD hvj.out) (by omega) hrj).mono ?_;rw [hfo.out];intro e w1 hp1;obtain ⟨A1,m1,c1,rfl,hm1,hmc1,hme,hpx,hb1⟩:=hp1.some_;have hT1:=hT.keep hb1;have hZ1:=hZ.keep hb1;have g1:=hb.trans (hb1.mono hb.size);have r1:=hrj.below hb1;have ri:=hpx.rdi;subst hme;obtain ⟨x0,x1,x2⟩:=hT1.three;have tok1:=trivial))
     have y:=fun (o:Obj)=>(((((hZ2.set_ 0 (.int .i64 0)).set_ 1 (.int .i64 0)).set_ 2 (.slice none 0 0)).alloc o:Blk _ _ Zr)).three
     refine bodyPost_ret (v:=.tuple #[.agg Zr,.int .i64 j,.int .i64 2]) (by simp [results,results40,go_sem,y]) rfl ⟨0,0,[],none,0,j,rfl,rfl,by simp,RdP.nil,?_⟩;exact (bT g2).alloc (by simp [World.setCell];exact g2.size) _
    | some t'=>
     obtain ⟨kt,nt,kst⟩:=t';have hvt:=aD (qL hct);have hres:=aD (show redI dB (fuel - (j+1)) (.mk kt nt kst)=redI dB fuel (.mk k n ks) by rw [← hred.out,hfe,aAg hfind hct];congr 1;omega);have hct':=aD hct;clear hfind hat hxu hct;go_wp2_with (first
      | (go_at_call 62;have _t:=tok1;refine (sE kj nj ksj Aj cj p A1 c1 _ hvj.out (by omega) hmc1 hat'.out hxu'.out r1 ri).mono ?_;rw [hct'.out];intro e w2 hgo;obtain ⟨A2,c2,rfl,hl2,hf2,hb2⟩:=cS hgo;have hT2:=hT1.keep hb2;have hZ2:=hZ1.keep hb2;have g2:=g1.trans (hb2.mono g1.size);obtain ⟨e0,e1,e2⟩:=lF hT2;obtain ⟨d0,d1,d2⟩:=hT2.three;have lz:=hT2.lt)
      | (go_at_call 41;refine (sA (aH ksj+1) 30 kj nj ksj Aj cj _ (by omega) (by omega) (bD hvj.out) (by omega) hrj).mono ?_;rw [hfo.out];intro e w1 hp1;obtain ⟨A1,m1,c1,rfl,hm1,hmc1,hme,hpx,hb1⟩:=hp1.some_;have hT1:=hT.keep hb1;have hZ1:=hZ.keep hb1;have g1:=hb.trans (hb1.mono hb.size);have r1:=hrj.below hb1;have ri:=hpx.rdi;subst hme;obtain ⟨x0,x1,x2⟩:=hT1.three;have tok1:=trivial))
     have lt1:=hT1.lt;go_roundw
     case rel=>
      refine ⟨j+1,kt,nt,kst,A2,c2,by omega,by go_num,hres,hvt,?_,(((hT2.set_ 0 _).set_ 1 _).set_ 2 _).alloc _,(((hZ2.far (by simp) _).far (by simp) _).far (by simp) _).alloc _,(bT g2).alloc (by simp [World.setCell];exact g2.size) _⟩;exact ((((hf2.rd'.setCell (by simp;omega) _).setCell (by simp;omega) _).setCell (by simp;omega) _).alloc _).rd
     case measure=>simp [intOf];omega
theorem mP (k n:Int)(ks:List Tm)(A:Option Addr)(c:Nat)(fuel:Nat)(w:World)(hv:aE (.mk k n ks)=true)(hf:fuel≤200)(hr:Rd w A 0 ks) :
  Calls prog 19 #[.agg (Ro k n A ks.length c),.int .i64 fuel] w (aRg w (redI dB fuel (.mk k n ks))):=by
 generalize hre:redI dB fuel (.mk k n ks)=re
 have hR:=aD (fun (w:World) (hr:Rd w A 0 ks)=>by have:=aCg k n ks A c fuel w hv hf hr;rwa [hre] at this);clear hre hv;go_enter func19,ntmps19;go_wp2_with (go_at_call 40;refine (hR.out _ ((hr.alloc _).alloc _)).mono ?_;rintro e w1 ⟨k1,n1',ks1,A1,c1,st,hk1,rfl,hl1,r1,hb1⟩;have hZ1:=bH hb1;have g1:Bw w w1:=bQ bw2 hb1;obtain ⟨d0,d1,d2,e0,e1,e2,lz⟩:=dA hZ1;have n1:w.heap.size+1≠w1.heap.size:=(by omega))
 have y:=fun (o:Obj)=>(((((hZ1.set_ 0 (.int .i64 k1)).set_ 1 (.int .i64 n1')).set_ 2 (.slice A1 ks1.length c1)).alloc o:Blk _ _ (Ro k1 n1' A1 ks1.length c1))).three
 refine bodyPost_ret (v:=.tuple #[.agg (Ro k1 n1' A1 ks1.length c1),.int .i64 re.2]) (by simp [results,results19,go_sem,y]) rfl ⟨k1,n1',ks1,A1,c1,hk1,rfl,hl1,?_,?_⟩
 ·exact ((((r1.setCell (by simp) _).setCell (by simp) _).setCell (by simp) _).alloc _).mono (fun b hb=>by simp at hb;omega)
 ·exact (bT g1).alloc (by simp [World.setCell];exact g1.size) _
theorem yI (k n:Int)(ks:List Tm)(A:Option Addr)(c:Nat)(fuel:Nat)(w:World)(hv:aE (.mk k n ks)=true)(hf:fuel≤200)(hr:Rd w A 0 ks) :
  Calls prog 40 #[.agg (Ro k n A ks.length c),.int .i64 fuel,.func (.func 128) #[] #[]] w (aSu w (redI bS fuel (.mk k n ks))):=by
 have hz:=aJ hv;have hv':=aD hv;have hF:∀(args:Array Value) (w:World),(callFunc 128 args).run prog w = .ok (.enter 128 args) w:=fO func128 (by kernel_rfl) (by kernel_rfl);have q1:decide ((fuel:Int)≤200)=true:=decide_eq_true (by omega);clear hv;go_enter func40,ntmps40;go_wp2_with (first
  | (go_at_call 26;refine (cX _ _ _ _).mono ?_;rintro e w9 ⟨rfl,rfl⟩)
  | (go_at_call 28;refine (bM k n ks A c _ (by omega) ((hr.alloc _).alloc _)).mono ?_;rw [hv'.out];rintro e w1 ⟨rfl,hb1⟩;have hT1:=cV hb1;have hZ1:=bH hb1;have g1:Bw w w1:=bQ bw2 hb1;have r1:=((hr.alloc (.cells (Ro k n A ks.length c) 25)).alloc (.cells Zr 25)).below hb1))
 go_loopw [9] (fun i wr=>∃(j:Nat) (kj nj:Int) (ksj:List Tm) (Aj:Option Addr) (cj:Nat),j≤fuel∧i = .int .i64 j∧Hid (redI bS (fuel - j) (.mk kj nj ksj)=redI bS fuel (.mk k n ks))∧Hid (aE (.mk kj nj ksj)=true)∧Rd wr Aj 0 ksj∧Blk wr w.heap.size (Ro kj nj Aj ksj.length cj)∧Blk wr (w.heap.size+1) Zr∧Bw w wr)
  (fun i _ => fuel - (intOf i).toNat)
 case atStart=>exact ⟨0,k,n,ks,A,c,Nat.zero_le _,rfl,aD rfl,hv',r1,hT1,hZ1,g1⟩
 case round=>
  obtain ⟨j,kj,nj,ksj,Aj,cj,hj,rfl,hred,hvj,hrj,hT,hZ,hb⟩:=hrel;have hzj:=aJ hvj.out;obtain ⟨y0,y1,y2⟩:=hT.three;cases hfind:bS (.mk kj nj ksj) with
  | none=>
   have hfo:=aD hfind;have hres:redI bS fuel (.mk k n ks)=(some (.mk kj nj ksj),0):=by rw [← hred.out,yT hfind]
   rw [hres];clear hres hfind;go_wp2_with (first
    | (go_at_call 61;have _t:=tok1;refine (kC 10000 kj nj ksj Aj cj _ (by omega) (by omega) r1).mono ?_;rintro e w2 ⟨A2,c2,rfl,hl2,hf2,hb2⟩;have hZ2:=hZ1.keep hb2;have g2:=g1.trans (hb2.mono g1.size);obtain ⟨d0,d1,d2,e0,e1,e2⟩:=bW hZ2)
    | (go_at_call 128;refine (pP (aH ksj+1) 30 kj nj ksj Aj cj _ (by omega) (by omega) (bD hvj.out) (by omega) hrj).mono ?_;rw [hfo.out];intro e w1 hp1;obtain ⟨A1,m1,c1,rfl,hb1⟩:=hp1.none_;have hT1:=hT.keep hb1;have hZ1:=hZ.keep hb1;have g1:=hb.trans (hb1.mono hb.size);have r1:=hrj.below hb1;obtain ⟨x0,x1,x2⟩:=hT1.three;have tok1:=trivial))
   have lz:=hZ1.lt;refine bodyPost_ret (v:=.tuple #[.agg (Ro kj nj A2 ksj.length c2),.int .i64 j,.int .i64 0]) (by simp [results,results40,go_sem,d0,d1,d2]) rfl ⟨kj,nj,ksj,A2,c2,j,rfl,rfl,hl2,?_,?_⟩
   ·exact ((((hf2.rd'.setCell (by simp;omega) _).setCell (by simp;omega) _).setCell (by simp;omega) _)).mono (fun b hb=>Nat.le_trans g1.size hb)
   ·exact bT g2
  | some p=>
   obtain ⟨ku,nu,us,hat,hxu⟩:=aJi _ _ hfind;have hfo:=aD hfind;have hat':=aD hat
   have hxu':=aD hxu;by_cases hjf:j=fuel
   ·subst hjf;have hres:redI bS j (.mk k n ks)=(none,1):=by rw [← hred.out,Nat.sub_self,zM hfind]
    rw [hres];clear hres hfind hat hxu;go_wp2_with (go_at_call 128;refine (pP (aH ksj+1) 30 kj nj ksj Aj cj _ (by omega) (by omega) (bD hvj.out) (by omega) hrj).mono ?_;rw [hfo.out];intro e w1 hp1;obtain ⟨A1,m1,c1,rfl,hm1,hmc1,hme,hpx,hb1⟩:=hp1.some_;have hT1:=hT.keep hb1;have hZ1:=hZ.keep hb1;have g1:=hb.trans (hb1.mono hb.size);have r1:=hrj.below hb1;have ri:=hpx.rdi;subst hme;obtain ⟨x0,x1,x2⟩:=hT1.three;have tok1:=trivial;obtain ⟨d0,d1,d2,e0,e1,e2⟩:=bW hZ1)
    refine bodyPost_ret (v:=.tuple #[.agg Zr,.int .i64 j,.int .i64 1]) (by simp [results,results40,go_sem,d0,d1,d2]) rfl ⟨0,0,[],none,0,j,rfl,rfl,by simp,RdP.nil,?_⟩;exact bT g1
   ·have hjlt:j<fuel:=by omega
    have hq:((j:Int)==(fuel:Int))=false:=by simp;omega
    obtain ⟨f,hfe⟩:∃f,fuel - j=f+1:=⟨fuel - j - 1,by omega⟩;cases hct:lX (.mk kj nj ksj) p with
    | none=>
     have hres:redI bS fuel (.mk k n ks)=(none,2):=by rw [← hred.out,hfe,vW hfind hct]
     rw [hres];have hct':=aD hct;clear hres hfind hat hxu hct;go_wp2_with (first
      | (go_at_call 62;have _t:=tok1;refine (sE kj nj ksj Aj cj p A1 c1 _ hvj.out (by omega) hmc1 hat'.out hxu'.out r1 ri).mono ?_;rw [hct'.out];intro e w2 hgo;obtain ⟨rfl,hb2⟩:=gX hgo;have hZ2:=hZ1.keep hb2;have g2:=g1.trans (hb2.mono g1.size);obtain ⟨d0,d1,d2,e0,e1,e2,lz⟩:=dA hZ2;have n1:w.heap.size+1≠w2.heap.size:=(by omega))
      | (go_at_call 128;refine (pP (aH ksj+1) 30 kj nj ksj Aj cj _ (by omega) (by omega) (bD hvj.out) (by omega) hrj).mono ?_;rw [hfo.out];intro e w1 hp1;obtain ⟨A1,m1,c1,rfl,hm1,hmc1,hme,hpx,hb1⟩:=hp1.some_;have hT1:=hT.keep hb1;have hZ1:=hZ.keep hb1;have g1:=hb.trans (hb1.mono hb.size);have r1:=hrj.below hb1;have ri:=hpx.rdi;subst hme;obtain ⟨x0,x1,x2⟩:=hT1.three;have tok1:=trivial))
     have y:=fun (o:Obj)=>(((((hZ2.set_ 0 (.int .i64 0)).set_ 1 (.int .i64 0)).set_ 2 (.slice none 0 0)).alloc o:Blk _ _ Zr)).three
     refine bodyPost_ret (v:=.tuple #[.agg Zr,.int .i64 j,.int .i64 2]) (by simp [results,results40,go_sem,y]) rfl ⟨0,0,[],none,0,j,rfl,rfl,by simp,RdP.nil,?_⟩;exact (bT g2).alloc (by simp [World.setCell];exact g2.size) _
    | some t'=>
     obtain ⟨kt,nt,kst⟩:=t';have hvt:=aD (qL hct);have hres:=aD (show redI bS (fuel - (j+1)) (.mk kt nt kst)=redI bS fuel (.mk k n ks) by rw [← hred.out,hfe,aAg hfind hct];congr 1;omega);have hct':=aD hct;clear hfind hat hxu hct;go_wp2_with (first
      | (go_at_call 62;have _t:=tok1;refine (sE kj nj ksj Aj cj p A1 c1 _ hvj.out (by omega) hmc1 hat'.out hxu'.out r1 ri).mono ?_;rw [hct'.out];intro e w2 hgo;obtain ⟨A2,c2,rfl,hl2,hf2,hb2⟩:=cS hgo;have hT2:=hT1.keep hb2;have hZ2:=hZ1.keep hb2;have g2:=g1.trans (hb2.mono g1.size);obtain ⟨e0,e1,e2⟩:=lF hT2;obtain ⟨d0,d1,d2⟩:=hT2.three;have lz:=hT2.lt)
      | (go_at_call 128;refine (pP (aH ksj+1) 30 kj nj ksj Aj cj _ (by omega) (by omega) (bD hvj.out) (by omega) hrj).mono ?_;rw [hfo.out];intro e w1 hp1;obtain ⟨A1,m1,c1,rfl,hm1,hmc1,hme,hpx,hb1⟩:=hp1.some_;have hT1:=hT.keep hb1;have hZ1:=hZ.keep hb1;have g1:=hb.trans (hb1.mono hb.size);have r1:=hrj.below hb1;have ri:=hpx.rdi;subst hme;obtain ⟨x0,x1,x2⟩:=hT1.three;have tok1:=trivial))
     have lt1:=hT1.lt;go_roundw
     case rel=>
      refine ⟨j+1,kt,nt,kst,A2,c2,by omega,by go_num,hres,hvt,?_,(((hT2.set_ 0 _).set_ 1 _).set_ 2 _).alloc _,(((hZ2.far (by simp) _).far (by simp) _).far (by simp) _).alloc _,(bT g2).alloc (by simp [World.setCell];exact g2.size) _⟩;exact ((((hf2.rd'.setCell (by simp;omega) _).setCell (by simp;omega) _).setCell (by simp;omega) _).alloc _).rd
     case measure=>simp [intOf];omega
theorem qY (k n:Int)(ks:List Tm)(A:Option Addr)(c:Nat)(fuel:Nat)(w:World)(hv:aE (.mk k n ks)=true)(hf:fuel≤200)(hr:Rd w A 0 ks) :
  Calls prog 99 #[.agg (Ro k n A ks.length c),.int .i64 fuel] w (aRg w (redI bS fuel (.mk k n ks))):=by
 generalize hre:redI bS fuel (.mk k n ks)=re
 have hR:=aD (fun (w:World) (hr:Rd w A 0 ks)=>by have:=yI k n ks A c fuel w hv hf hr;rwa [hre] at this);clear hre hv;go_enter func99,ntmps99;go_wp2_with (go_at_call 40;refine (hR.out _ ((hr.alloc _).alloc _)).mono ?_;rintro e w1 ⟨k1,n1',ks1,A1,c1,st,hk1,rfl,hl1,r1,hb1⟩;have hZ1:=bH hb1;have g1:Bw w w1:=bQ bw2 hb1;obtain ⟨d0,d1,d2,e0,e1,e2,lz⟩:=dA hZ1;have n1:w.heap.size+1≠w1.heap.size:=(by omega))
 have y:=fun (o:Obj)=>(((((hZ1.set_ 0 (.int .i64 k1)).set_ 1 (.int .i64 n1')).set_ 2 (.slice A1 ks1.length c1)).alloc o:Blk _ _ (Ro k1 n1' A1 ks1.length c1))).three
 refine bodyPost_ret (v:=.tuple #[.agg (Ro k1 n1' A1 ks1.length c1),.int .i64 re.2]) (by simp [results,results99,go_sem,y]) rfl ⟨k1,n1',ks1,A1,c1,hk1,rfl,hl1,?_,?_⟩
 ·exact ((((r1.setCell (by simp) _).setCell (by simp) _).setCell (by simp) _).alloc _).mono (fun b hb=>by simp at hb;omega)
 ·exact (bT g1).alloc (by simp [World.setCell];exact g1.size) _
end Go.Proofs.YtajjhldcjikkpaaGreat
