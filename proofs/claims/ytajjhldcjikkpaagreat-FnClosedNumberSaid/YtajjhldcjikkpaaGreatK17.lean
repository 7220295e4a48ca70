/- Parts of the proof. No condition. -/
import Derived.Test.YtajjhldcjikkpaaGreatK14
import Derived.Test.YtajjhldcjikkpaaGreatK16
import Derived.Test.YtajjhldcjikkpaaGreatChecked
import Derived.ChangeSlices
import Derived.ProofKit
import Derived.OpenShut
import Derived.JoinedCond
import Derived.Carry
import Derived.Below
import Derived.ChangeSame
open Go.Proofs.Tryz
namespace Go.Proofs.YtajjhldcjikkpaaGreat
open Go.RowKit
set_option maxHeartbeats 8000000
set_option maxRecDepth 100000
set_option linter.unusedSimpArgs false
set_option linter.unusedVariables false
def cR:Nat→Tm
 | 0=>.mk 7 0 []
 | n+1=>.mk 8 0 [cR n]
mutual
def gQ:Tm→Option Nat
 | .mk k n ks=>if k=8 then aQe ks else if k=7 then some 0 else none
def aQe:List Tm→Option Nat
 | []=>none
 | t::_=>(gQ t).map (·+1)
end
theorem tS:∀n,gQ (cR n)=some n
 | 0=>rfl
 | n+1=>by rw [cR,gQ,if_pos rfl,aQe,tS n];rfl
theorem aAu {ks:List Tm}{k:Int}(ha:aK k=(ks.length:Int))(h:aK k=0):ks=[]:=by
 cases ks with
 | nil=>rfl
 | cons t ts=>simp at ha;omega
theorem aIr {ks:List Tm}{k:Int}(ha:aK k=(ks.length:Int))(h:aK k=1):∃t,ks=[t]:=by
 match ks,ha with
 | [],ha=>simp at ha;omega
 | [t],_=>exact ⟨t,rfl⟩
 | t::u::ts,ha=>simp at ha;omega
theorem aIf {k n:Int}{ks:List Tm}(hv:aE (.mk k n ks)=true)(hk:dN k=0):n=0:=by
 obtain ⟨q,_,ha,h0,h1,_⟩:=bX (aW hv);omega
theorem aIe:∀(m:Nat) (t:Tm),aE t=true→gQ t=some m→t=cR m
 | m,.mk k n ks,hv,h=>by
  rw [gQ] at h;by_cases h8:k=8
  ·rw [if_pos h8] at h;subst h8;obtain ⟨t,rfl⟩:=aIr (eW hv) rfl;obtain rfl:=aIf hv rfl;rw [aQe] at h;cases hn:gQ t with
   | none=>rw [hn] at h;cases h
   | some j=>
    rw [hn] at h;obtain rfl:j+1=m:=Option.some.inj h;rw [cR,← aIe j t (aL hv List.mem_cons_self) hn]
  ·rw [if_neg h8] at h;by_cases h7:k=7
   ·rw [if_pos h7] at h;subst h7;obtain rfl:=aAu (eW hv) rfl;obtain rfl:=aIf hv rfl;obtain rfl:=Option.some.inj h;rfl
   ·rw [if_neg h7] at h;cases h
theorem aDy:∀{a b:Nat},cR a=cR b→a=b:=fun {a b} h=>by
 have:=congrArg gQ h;rw [tS,tS] at this;exact Option.some.inj this
theorem tM:∀n,dE (cR n)=none
 | 0=>rfl
 | n+1=>by
  rw [cR,dE,if_pos (by rfl),jY,tM n];rfl
theorem aEh {f:Nat}{t:Tm}(h:dE t=none):dJ f t=(some t,0):=by rw [dJ,h]
theorem aEc {f n m:Nat}{t:Tm}(hv:aE t=true)(hn:aE (cR m)=true)(h:dJ f t=(some (cR n),0)):iP f t (cR m)=if n=m then 1 else 2:=by
 have hm:redI dB f (cR m)=(some (cR m),0):=by rw [← fR f _ hn];exact aEh (tM m)
 have ht:redI dB f t=(some (cR n),0):=by rw [← fR f _ hv];exact h
 have heq:∀a b:Tm,iX a b=true↔a=b:=fun a b=>tmEq_iff
 rw [iP,hm,ht];by_cases he:iX t (cR m)=true
 ·rw [if_pos he];have:=(heq _ _).1 he;subst this;rw [aEh (tM m)] at h;injection h with h _;rw [if_pos (aDy (Option.some.inj h)).symm]
 ·rw [if_neg he,if_neg (by simp)];show (if iX (cR n) (cR m)=true then (1:Int) else 2)=_
  by_cases hnm:n=m
  ·subst hnm;rw [if_pos rfl,if_pos ((heq _ _).2 rfl)]
  ·rw [if_neg hnm,if_neg (fun h=>hnm (aDy ((heq _ _).1 h)))]
def TyX (fc:Nat)(ev:Array Value)(w:World)(ty:Nat→Option (Rs Tm)):Prop:=Clo fc ev∧∀(i:Nat) (r:Rs Tm),i<4→ty i=some r→∀w',Bw w w'→∀args,args=#[.int .i64 i]++ev→Calls prog fc args w' (pC w' r)
def okO (ty:Nat→Option (Rs Tm))(i:Nat):Option Tm:=match ty i with|some (.ok t)=>some t|_=>none
theorem wP {ty:Nat→Option (Rs Tm)}{i:Nat}{t:Tm}(h:ty i=some (.ok t)):okO ty i=some t:=by simp [okO,h]
theorem aSb {ty:Nat→Option (Rs Tm)}{i:Nat}{t:Tm}(h:okO ty i=some t):ty i=some (.ok t):=by
 unfold okO at h
 split at h
 ·injection h with h;subst h;assumption
 ·cases h
theorem TyX.ok {fc:Nat}{ev:Array Value}{w:World}{ty:Nat→Option (Rs Tm)}(h:TyX fc ev w ty):TyOk fc ev w (okO ty):=
 ⟨h.1,fun i k n ks hi ht w' hw args ha=>h.2 i _ hi (aSb ht) w' hw args ha⟩
theorem TyX.below {fc:Nat}{ev:Array Value}{w w':World}{ty:Nat→Option (Rs Tm)}(h:TyX fc ev w ty)(hb:Bw w w'):TyX fc ev w' ty:=⟨h.1,fun i r hi ht w2 hw2=>h.2 i r hi ht w2 (hb.trans (hw2.mono hb.size))⟩
def TyV (ty:Nat→Option (Rs Tm)):Prop:=∀i s,ty i=some (.ok s)→aE s=true
theorem aAv {o:Option (Rs Tm)}{kind:Int}{r:Rs Tm}(h:oA o kind=some r):(∃b,o=some (.no b)∧r = .no b)∨∃s,o=some (.ok s)∧bd (some (lU s)) (gU kind)=some r:=aO h
theorem aNr {s t:Tm}{kind:Int}(h:bd (some (lU s)) (gU kind)=some (.ok t)):oD s kind=some t:=by
 rcases aO h with ⟨b,_,h2⟩|⟨o,h1,h2⟩
 ·cases h2
 ·unfold gU at h2
  split at h2
  ·injection h2 with h2;injection h2 with h2;subst h2;exact aBq (Option.some.inj h1) ‹_›
  ·injection h2 with h2;cases h2
theorem oP {ty:Nat→Option (Rs Tm)}{i:Nat}{kind:Int}{t:Tm}(h:oA (ty i) kind=some (.ok t)):fmS (okO ty i) kind=some t:=by
 rcases aAv h with ⟨b,_,h2⟩|⟨s,h1,h2⟩
 ·cases h2
 ·rw [wP h1];exact aNr h2
theorem aNn (C:Option Addr)(m cc:Nat)(k n:Int)(A:Option Addr)(la c fc:Nat)(ev:Array Value)(i:Nat)(hi:i<4)(kind:Int)(b:Bool)(ty:Nat→Option (Rs Tm))(w:World)(hs:oA (ty i) kind=some (.no b))(hT:TyX fc ev w ty)(hv:TyV ty) :
  Calls prog 107 #[.agg #[.slice C m cc,.int .i64 k,.int .i64 n,.slice A la c,.func (.func fc) #[] ev],.int .i64 i,.int .i64 kind] w (pC w (.no b)):=by
 have qb:=eN b;obtain ⟨b2,b3,rfl,rfl⟩:=hT.1;all_goals
  rcases aAv hs with ⟨b',h1,h2⟩|⟨s,h1,h2⟩
  ·injection h2 with h2;subst h2;have h1':=aD h1;clear hs h1;go_enter func107,ntmps107;go_wp2_with (go_at_call 81;refine (hT.2 i _ hi h1'.out _ bw2 _ (by rfl)).mono ?_;rintro e w1 ⟨rfl,hb1⟩;have hZ:=bH hb1;have g1:Bw w w1:=bQ bw2 hb1;obtain ⟨d0,d1,d2,e0,e1,e2⟩:=bW hZ;have lz:=hZ.lt;have n1':w.heap.size+1≠w1.heap.size:=(by omega))
   have y:=fun (o:Obj)=>(((((hZ.set_ 0 (.int .i64 0)).set_ 1 (.int .i64 0)).set_ 2 (.slice none 0 0)).alloc o:Blk _ _ Zr)).three
   refine bodyPost_ret (v:=.tuple #[.agg Zr,.int .i64 (dL b)]) (by simp [results,results107,go_sem,y,d0,d1,d2]) rfl ⟨rfl,?_⟩;exact (bT g1).alloc (by simp [World.setCell];exact g1.size) _
  ·obtain ⟨k1,n1,s1⟩:=s;have hv1:=aD (hv _ _ h1);have h1':=aD h1;have h2':=aD h2;clear hs h1 h2;go_enter func107,ntmps107;go_wp2_with (first
    | (go_at_call 80;have _t:=tok1;refine (iA k1 n1 s1 A1 c1 kind (.no b) _ hv1.out h2'.out (r1.alloc _)).mono ?_;rintro e w2 ⟨rfl,hb2⟩;have hZ2:=(hZ.alloc (.cells (Ro k1 n1 A1 s1.length c1) 25)).keep hb2;have g2:=(g1.alloc g1.size (.cells (Ro k1 n1 A1 s1.length c1) 25)).trans (hb2.mono (by have:=g1.size;simp;omega));obtain ⟨d0,d1,d2,e0,e1,e2⟩:=bW hZ2)
    | (go_at_call 81;refine (hT.2 i _ hi h1'.out _ bw2 _ (by rfl)).mono ?_;rintro e w1 ⟨A1,c1,rfl,hl1,r1,hb1⟩;have hZ:=bH hb1;have g1:Bw w w1:=bQ bw2 hb1;have lz:=hZ.lt;have tok1:=trivial))
   refine bodyPost_ret (v:=.tuple #[.agg Zr,.int .i64 (dL b)]) (by simp [results,results107,go_sem,d0,d1,d2]) rfl ⟨rfl,?_⟩;exact bT g2
theorem iY (C:Option Addr)(m cc:Nat)(k n:Int)(A:Option Addr)(la c fc:Nat)(ev:Array Value)(i:Nat)(hi:i<4)(kind:Int)(r:Rs Tm)(ty:Nat→Option (Rs Tm))(w:World)(hs:oA (ty i) kind=some r)(hT:TyX fc ev w ty)(hv:TyV ty) :
  Calls prog 107 #[.agg #[.slice C m cc,.int .i64 k,.int .i64 n,.slice A la c,.func (.func fc) #[] ev],.int .i64 i,.int .i64 kind] w (pC w r):=by
 cases r with
 | no b=>exact aNn C m cc k n A la c fc ev i hi kind b ty w hs hT hv
 | ok t=>
  have h:=oP hs;obtain ⟨n3,s3,rfl,_⟩:=fJ h;exact fA C m cc k n A la c fc ev i hi kind n3 s3 _ w h hT.ok
def GtI (w:World):Rs Int→Ending→World→Prop
 | .ok l=>fun e w'=>e = .returned (.tuple #[.int .i64 l,.int .i64 0])∧Bw w w'
 | .no b=>fun e w'=>e = .returned (.tuple #[.int .i64 0,.int .i64 (dL b)])∧Bw w w'
theorem aCl {o:Option (Rs Tm)}{r:Rs Int}(h:oW o=some r):(∃b,oA o 2=some (.no b)∧r = .no b)∨∃s3 l,oA o 2=some (.ok (.mk 2 l s3))∧r = .ok l:=by
 rcases aO h with ⟨b,h1,rfl⟩|⟨s,h1,h2⟩
 ·exact .inl ⟨b,by rw [oA,h1];rfl,rfl⟩
 ·rcases aO h2 with ⟨b,h3,rfl⟩|⟨t,h3,h4⟩
  ·exact .inl ⟨b,by rw [oA,h1,kA,h3];rfl,rfl⟩
  ·obtain ⟨kt,nt,st⟩:=t;unfold aGm at h4
   split at h4
   ·rename_i hk
    injection h4 with h4;obtain rfl:kt=2:=hk;exact .inr ⟨st,nt,by rw [oA,h1,kA,h3];rfl,h4.symm⟩
   ·rename_i hk
    injection h4 with h4;exact .inl ⟨true,by rw [oA,h1,kA,h3,kA,gU,if_neg hk],h4.symm⟩
theorem fX (C:Option Addr)(m cc:Nat)(k n:Int)(A:Option Addr)(la c fc:Nat)(ev:Array Value)(i:Nat)(hi:i<4)(r:Rs Int)(ty:Nat→Option (Rs Tm))(w:World)(hs:oW (ty i)=some r)(hT:TyX fc ev w ty)(hv:TyV ty) :
  Calls prog 132 #[.agg #[.slice C m cc,.int .i64 k,.int .i64 n,.slice A la c,.func (.func fc) #[] ev],.int .i64 i] w (GtI w r):=by
 rcases aCl hs with ⟨b,h1,rfl⟩|⟨s3,l,h1,rfl⟩
 all_goals
  have h1':=aD h1;clear hs h1;go_enter func132,ntmps132
 ·go_wp2_with (go_at_call 107;refine (iY C m cc k n A la c fc ev i hi 2 _ ty _ h1'.out (hT.below bw1) hv).mono ?_;rintro e w1 ⟨rfl,hb1⟩;have g1:Bw w w1:=bQ bw1 hb1)
  go_ret2
  exact ⟨rfl,g1.alloc g1.size _⟩
 ·go_wp2_with (go_at_call 107;refine (iY C m cc k n A la c fc ev i hi 2 _ ty _ h1'.out (hT.below bw1) hv).mono ?_;rintro e w1 ⟨A3,c3,rfl,hl3,r3,hb1⟩;have g1:Bw w w1:=bQ bw1 hb1)
  go_ret2
  exact ⟨rfl,g1.alloc g1.size _⟩
theorem gR (C:Option Addr)(m cc:Nat)(k n:Int)(A:Option Addr)(la c fc:Nat)(ev:Array Value)(i:Nat)(hi:i<4)(k2 n2:Int)(s2:List Tm)(A2:Option Addr)(c2:Nat)(r:Rs Unit)(ty:Nat→Option (Rs Tm))(w:World)(hs:iE (ty i) (.mk k2 n2 s2)=some r)(hT:TyX fc ev w ty)(hv:TyV ty)(hv2:aE (.mk k2 n2 s2)=true)(hr2:Rd w A2 0 s2) :
  Calls prog 104 #[.agg #[.slice C m cc,.int .i64 k,.int .i64 n,.slice A la c,.func (.func fc) #[] ev],.int .i64 i,.agg (Ro k2 n2 A2 s2.length c2)] w (GtC w r):=by
 obtain ⟨b2,b3,rfl,rfl⟩:=hT.1;all_goals
  rcases aO hs with ⟨b,h1,rfl⟩|⟨s,h1,h2⟩
  ·have qb:=eN b;have h1':=aD h1;clear hs h1;go_enter func104,ntmps104;go_wp2_with (go_at_call 81;refine (hT.2 i _ hi h1'.out _ bw2 _ (by rfl)).mono ?_;rintro e w1 ⟨rfl,hb1⟩;have g1:Bw w w1:=bQ bw2 hb1)
   go_ret
   exact ⟨rfl,g1.alloc g1.size _⟩
  ·obtain ⟨k1,n1,s1⟩:=s;have hv1:=aD (hv _ _ h1);have h1':=aD h1;obtain rfl:=Option.some.inj h2;have hv2':=aD hv2;clear hs h1 h2 hv2;go_enter func104,ntmps104;go_wp2_with (first
    | (go_at_call 60;have _t:=tok1;refine (jI k1 n1 s1 A1 c1 k2 n2 s2 A2 c2 _ hv1.out hv2'.out (r1.alloc _) ((hr2.below g1).alloc _)).mono ?_;rintro e w2 ⟨rfl,hb2⟩;have g2:=(g1.alloc g1.size (.cells (Ro k1 n1 A1 s1.length c1) 25)).trans (hb2.mono (by have:=g1.size;simp;omega)))
    | (go_at_call 81;refine (hT.2 i _ hi h1'.out _ bw2 _ (by rfl)).mono ?_;rintro e w1 ⟨A1,c1,rfl,hl1,r1,hb1⟩;have hZ:=bH hb1;have g1:Bw w w1:=bQ bw2 hb1;have lz:=hZ.lt;obtain ⟨d0,d1,d2⟩:=hZ.three;have tok1:=trivial))
   go_ret
   exact ⟨rfl,g2⟩
theorem mN (C:Option Addr)(m cc:Nat)(k n:Int)(A:Option Addr)(la c fc:Nat)(ev:Array Value)(i:Nat)(hi:i<4)(k2 n2:Int)(s2:List Tm)(A2:Option Addr)(c2:Nat)(r:Rs Unit)(ty:Nat→Option (Rs Tm))(w:World)(hs:iE (ty i) (.mk k2 n2 s2)=some r)(hT:TyX fc ev w ty)(hv:TyV ty)(hv2:aE (.mk k2 n2 s2)=true)(hr2:Rd w A2 0 s2) :
  Calls prog 108 #[.agg #[.slice C m cc,.int .i64 k,.int .i64 n,.slice A la c,.func (.func fc) #[] ev],.int .i64 i,.agg (Ro k2 n2 A2 s2.length c2),.int .i64 0] w (GtC w r):=by
 have hs':=aD hs;have hv':=aD hv2;clear hs hv2;go_enter func108,ntmps108;go_wp2_with (go_at_call 104;refine (gR C m cc k n A la c fc ev i hi k2 n2 s2 A2 c2 r ty _ hs'.out (hT.below bw2) hv hv'.out ((hr2.alloc _).alloc _)).mono ?_;rintro e w1 ⟨rfl,hb1⟩;have g1:Bw w w1:=bQ bw2 hb1)
 go_ret
 exact ⟨rfl,g1⟩
theorem zC (C:Option Addr)(m cc:Nat)(k n:Int)(A:Option Addr)(la c fc:Nat)(ev:Array Value)(i:Nat)(hi:i<4)(b:Bool)(k2 n2:Int)(A2:Option Addr)(l2 c2:Nat)(w:World) :
  Calls prog 108 #[.agg #[.slice C m cc,.int .i64 k,.int .i64 n,.slice A la c,.func (.func fc) #[] ev],.int .i64 i,.agg (Ro k2 n2 A2 l2 c2),.int .i64 (dL b)] w (GtC w (.no b)):=by
 have qb:=eN b;go_enter func108,ntmps108;go_wp2_with fail
 go_ret
 exact ⟨rfl,bw2⟩
theorem nG {o:Option (Rs Tm)}{t:Tm}{k:Int}(h:oA o k=some (.ok t)):aE t=true∧t.k=k:=by
 rcases aAv h with ⟨b,_,h2⟩|⟨s,h1,h2⟩
 ·cases h2
 ·rcases aO h2 with ⟨b,_,h3⟩|⟨o,h3,h4⟩
  ·cases ‹Rs.ok _=Rs.no _›
  ·unfold gU at h4
   split at h4
   ·injection h4 with h4;injection h4 with h4;subst h4;exact ⟨(eL (Option.some.inj h3)).2.1,‹_›⟩
   ·injection h4 with h4;cases h4
theorem vN {k n:Int}{ks:List Tm}(h:aE (.mk k n ks)=true)(hk:aK k=2):∃ka na sa kb nb sb,ks=[.mk ka na sa,.mk kb nb sb]:=by
 obtain ⟨⟨ka,na,sa⟩,⟨kb,nb,sb⟩,rfl⟩:=mS (l:=ks) (by have:=(aX h).1;omega);exact ⟨ka,na,sa,kb,nb,sb,rfl⟩
theorem uF (C:Option Addr)(m cc:Nat)(k n:Int)(A:Option Addr)(la c fc:Nat)(ev:Array Value)(i:Nat)(hi:i<4)(k2 n2:Int)(s2:List Tm)(A2:Option Addr)(c2:Nat)(r:Rs Unit)(ty:Nat→Option (Rs Tm))(w:World)(hs:faV (ty i) (.mk k2 n2 s2)=some r)(hT:TyX fc ev w ty)(hv:TyV ty)(hv2:aE (.mk k2 n2 s2)=true)(hr2:Rd w A2 0 s2) :
  Calls prog 134 #[.agg #[.slice C m cc,.int .i64 k,.int .i64 n,.slice A la c,.func (.func fc) #[] ev],.int .i64 i,.agg (Ro k2 n2 A2 s2.length c2)] w (GtC w r):=by
 rcases aO hs with ⟨b,h1,rfl⟩|⟨t,h1,hs⟩
 ·have qb:=eN b;have h1':=aD h1;clear hs h1 hv2;go_enter func134,ntmps134;go_wp2_with (go_at_call 107;refine (iY C m cc k n A la c fc ev i hi 3 _ ty _ h1'.out (hT.below bw2) hv).mono ?_;rintro e w1 ⟨rfl,hb1⟩;have g1:Bw w w1:=bQ bw2 hb1)
  go_ret
  exact ⟨rfl,g1.alloc g1.size _⟩
 obtain ⟨hvt,hk⟩:=nG h1;obtain ⟨kt,n3,st⟩:=t;obtain rfl:kt=3:=hk;obtain ⟨ka,na,sa,kb,nb,sb,rfl⟩:=vN hvt rfl;have hva:=aD (aL hvt (t:=.mk ka na sa) (by simp));have hvb:=aD (aL hvt (t:=.mk kb nb sb) (by simp));have hv2':=aD hv2;have h1':=aD h1;have hk0:aI [Tm.mk ka na sa,.mk kb nb sb] 0 = .mk ka na sa:=rfl;have hk1:aI [Tm.mk ka na sa,.mk kb nb sb] 1 = .mk kb nb sb:=rfl;simp only [Tm.ks,hk0,hk1] at hs
 have hcases:(∃b,smR (.mk ka na sa) (.mk k2 n2 s2) = .no b∧r = .no b)∨∃r',smR (.mk ka na sa) (.mk k2 n2 s2) = .ok ()∧bd (some (lU (.mk kb nb sb))) (gU 2)=some r'∧r.cd=r'.cd:=by
  rcases aO hs with ⟨b,h2,rfl⟩|⟨u,h2,h3⟩
  ·exact .inl ⟨b,Option.some.inj h2,rfl⟩
  ·refine .inr ?_;rcases aO h3 with ⟨b,h4,rfl⟩|⟨o,h4,h5⟩
   ·exact ⟨.no b,Option.some.inj h2,by rw [h4];rfl,rfl⟩
   ·unfold aFt at h5
    split at h5
    ·rename_i ho
     exact ⟨.ok o,Option.some.inj h2,by rw [h4,kA,gU,if_pos ho],by injection h5 with h5;subst h5;rfl⟩
    ·rename_i ho
     exact ⟨.no true,Option.some.inj h2,by rw [h4,kA,gU,if_neg ho],by injection h5 with h5;subst h5;rfl⟩
 clear hs h1 hv2 hvt hk0 hk1;rcases hcases with ⟨b,hsm,rfl⟩|⟨r',hsm,hsh,hcd⟩
 all_goals
  replace hsm:=aD hsm;go_enter func134,ntmps134;go_upto_region 4 with (go_at_call 107;refine (iY C m cc k n A la c fc ev i hi 3 _ ty _ h1'.out (hT.below bw2) hv).mono ?_;rintro e w1 ⟨A3,c3,rfl,hl3,r3,hb1⟩;have hY:Blk w1 (w.heap.size+1) (Ro k2 n2 A2 s2.length c2):=bH hb1;have g1:Bw w w1:=bQ bw2 hb1;have r2:=hr2.below g1)
  refine aN ?_;intro wx hwx;have hT7x:Blk wx w1.heap.size (Ro 3 n3 A3 2 c3):=by rw [hwx];exact aC _ 25 _ rfl
  have hYx:Blk wx (w.heap.size+1) (Ro k2 n2 A2 s2.length c2):=by rw [hwx];exact hY.alloc _
  have gx:Bw w wx:=by rw [hwx];exact g1.alloc g1.size _
  have r3x:Rd wx A3 0 [.mk ka na sa,.mk kb nb sb]:=by rw [hwx];exact r3.alloc _
  have r2x:Rd wx A2 0 s2:=by rw [hwx];exact r2.alloc _
  clear hwx;obtain ⟨ba,oa,Aa,ca,rfl,i1,i2,i3,hla,ra⟩:=kZ r3x;obtain ⟨Ab,cb,j1,j2,j3,hlb,rb⟩:=tI r3x;simp only [Nat.zero_mul,Nat.add_zero,Nat.one_mul,Nat.reduceMul] at i1 i2 i3 j1 j2 j3
  obtain ⟨u0,u1,u2⟩:=iD hT7x;obtain ⟨v0,v1,v2⟩:=iD hYx;obtain ⟨y0,y1,y2⟩:=rN i1 i2 i3;refine dX wx [6] [0,1,2,3,4] 7 2 (lT:=[_,_,_,_,_]) ?_;intro q0 bq0;refine bV (aD ?_);refine bG 5 ?_
 ·have qb:=eN b;go_wp2_with (go_at_call 60;refine (jI ka na sa Aa ca k2 n2 s2 A2 c2 _ hva.out hv2'.out (ra.below bq0) (r2x.below bq0)).mono ?_;rw [hsm.out];rintro e q1 ⟨he,hbq1⟩;obtain rfl:e = .returned (.int .i64 (dL b)):=he)
  refine aY bq0 hbq1 ?_;intro bq1 lq1;refine cD [6] (lB:=[_]) ?_;have gz:=gx.trans (bq1.mono gx.size);go_wp2_with fail
  go_ret
  exact ⟨rfl,gz⟩
 ·go_wp2_with (go_at_call 60;refine (jI ka na sa Aa ca k2 n2 s2 A2 c2 _ hva.out hv2'.out (ra.below bq0) (r2x.below bq0)).mono ?_;rw [hsm.out];rintro e q1 ⟨he,hbq1⟩;obtain rfl:e = .returned (.int .i64 0):=he)
  refine aY bq0 hbq1 ?_;intro bq1 lq1;refine cD [6] (lB:=[_]) ?_;have hT7:=hT7x.keep bq1;have gz:=gx.trans (bq1.mono gx.size);have rbz:=rb.below bq1;obtain ⟨p0,p1,p2⟩:=hT7.three;have lp:=hT7.lt;obtain ⟨z0,z1,z2⟩:=xY bq1 j1 j2 j3;obtain ⟨kr,hkr⟩:∃x,x=r.cd:=⟨_,rfl⟩;rw [← hkr] at hcd;cases r' with
  | no b=>
   go_wp2_with (go_at_call 80;refine (iA kb nb sb Ab cb 2 _ _ hvb.out hsh rbz).mono ?_;rintro e w9 ⟨rfl,hb9⟩)
   go_ret
   exact ⟨by rw [← hkr,hcd];rfl,gz.trans (hb9.mono gz.size)⟩
  | ok o=>
   obtain ⟨ko,no,so⟩:=o;go_wp2_with (go_at_call 80;refine (iA kb nb sb Ab cb 2 _ _ hvb.out hsh rbz).mono ?_;rintro e w9 ⟨A9,c9,rfl,hl9,r9,hb9⟩)
   go_ret
   exact ⟨by rw [← hkr,hcd];rfl,gz.trans (hb9.mono gz.size)⟩
theorem vL {ty:Nat→Option (Rs Tm)}{i:Nat}{l:Int}(h:oW (ty i)=some (.ok l)):wT (okO ty i)=some l:=by
 rcases aCl h with ⟨b,_,h2⟩|⟨s3,l',h1,h2⟩
 ·cases h2
 ·injection h2 with h2;subst h2;have h3:=oP h1;cases hs:okO ty i with
  | none=>rw [hs] at h3;cases h3
  | some s=>rw [hs] at h3;show (oD s 2).map (fun h=>h.n)=some l;rw [show oD s 2=some (.mk 2 l s3) from h3];rfl
theorem vI (C:Option Addr)(m cc:Nat)(k n:Int)(A:Option Addr)(c fc:Nat)(ev:Array Value)(la:Nat)(r:Rs Tm)(ty:Nat→Option (Rs Tm))(w:World)(hs:(bd (oW (ty 0)) fun i=>bd (oW (ty 1)) fun j=>some (.ok (.mk 2 (if j<i then i else j) [])))=some r)(hT:TyX fc ev w ty)(hv:TyV ty) :
  Calls prog 105 #[.agg #[.slice C m cc,.int .i64 k,.int .i64 n,.slice A la c,.func (.func fc) #[] ev]] w (pC w r):=by
 rcases aO hs with ⟨b,h1,rfl⟩|⟨i,h1,hs⟩
 ·have qb:=eN b;replace h1:=aD h1;clear hs;go_enter func105,ntmps105;go_wp2_with (go_at_call 132;refine (fX C m cc k n A la c fc ev 0 (by omega) _ ty _ h1.out (hT.below bw2) hv).mono ?_;rintro e w1 ⟨rfl,hb1⟩;have hZ1:=bH hb1;have g1:Bw w w1:=bQ bw2 hb1;obtain ⟨d0,d1,d2,e0,e1,e2⟩:=bW hZ1)
  refine bodyPost_ret (v:=.tuple #[.agg Zr,.int .i64 (dL b)]) (by simp [results,results105,go_sem,d0,d1,d2]) rfl ⟨rfl,?_⟩;exact bT g1
 rcases aO hs with ⟨b,h2,rfl⟩|⟨j,h2,hs⟩
 ·have qb:=eN b;replace h1:=aD h1;replace h2:=aD h2;clear hs;go_enter func105,ntmps105;go_wp2_with (first
   | (go_at_call 132;have _t:=tok1;refine (fX C m cc k n A la c fc ev 1 (by omega) _ ty _ h2.out (hT.below g1) hv).mono ?_;rintro e w2 ⟨rfl,hb2⟩;have hZ2:=hZ1.keep hb2;have g2:=g1.trans (hb2.mono g1.size);obtain ⟨d0,d1,d2,e0,e1,e2⟩:=bW hZ2)
   | (go_at_call 132;refine (fX C m cc k n A la c fc ev 0 (by omega) _ ty _ h1.out (hT.below bw2) hv).mono ?_;rintro e w1 ⟨rfl,hb1⟩;have hZ1:=bH hb1;have hJ1:=((aC w 95 #[.slice C m cc,.int .i64 k,.int .i64 n,.slice A la c,.func (.func fc) #[] ev] rfl).alloc (.cells Zr 25)).keep hb1;have g1:Bw w w1:=bQ bw2 hb1;have j0:=hJ1.at_ (i:=0) rfl;have j1:=hJ1.at_ (i:=1) rfl;have j2:=hJ1.at_ (i:=2) rfl;have j3:=hJ1.at_ (i:=3) rfl;have j4:=hJ1.at_ (i:=4) rfl;have tok1:=trivial))
  refine bodyPost_ret (v:=.tuple #[.agg Zr,.int .i64 (dL b)]) (by simp [results,results105,go_sem,d0,d1,d2]) rfl ⟨rfl,?_⟩;exact bT g2
 obtain rfl:=(Option.some.inj hs).symm;have hmx:(if j<i then i else j)=(if i<j then j else i):=by split<;>split<;>omega
 rw [hmx];exact rC C m cc k n A c fc ev la i j _ w (vL h1) (vL h2) hT.ok
theorem yC (C:Option Addr)(m cc:Nat)(k n:Int)(A:Option Addr)(c fc:Nat)(ev:Array Value)(l ka na:Int)(sa:List Tm)(a1:Tm)(kb nb:Int)(sb:List Tm)(ty:Nat→Option Tm)(w:World)(h1:wT (ty 0)=some l)(h2:ty 1=some (.mk kb nb sb))(hv:aE (.mk 3 0 [.mk ka na sa,.mk kb nb sb])=false)(hva:aE (.mk ka na sa)=true)(hvb:aE (.mk kb nb sb)=true)(hT:TyOk fc ev w ty)(hr:Rd w A 0 [.mk ka na sa,a1]) :
  Calls prog 106 #[.agg #[.slice C m cc,.int .i64 k,.int .i64 n,.slice A 2 c,.func (.func fc) #[] ev]] w (pC w (.no false)):=by
 obtain ⟨b2,b3,rfl,rfl⟩:=hT.1;all_goals
  have hv':=aD hv;have hsz:Hid (aH [Tm.mk ka na sa,.mk kb nb sb]≤1000000):=aD (by have z1:=aJ  hva;have z2:=aJ  hvb;simp only [aH,Tm.size];omega);replace h1:=aD h1;replace h2:=aD h2;clear hv hva hvb;obtain ⟨ba,oa,Aa,ca,rfl,i1,i2,i3,hla,ra0⟩:=kZ hr;simp only [Nat.zero_mul,Nat.add_zero,Nat.one_mul,Nat.reduceMul] at i1 i2 i3
  go_enter func106,ntmps106;go_upto_region 7 with (first
   | (go_at_call 81;have _t:=tok1;refine (hT.2 1 kb nb sb (by omega) h2.out _ g1 _ (by rfl)).mono ?_;rintro e w2 ⟨Ab,cb,rfl,hlb,rb1,hb2⟩;have hZ2:=hZ1.keep hb2;have hJ2:=hJ1.keep hb2;have g2:=g1.trans (hb2.mono g1.size))
   | (go_at_call 132;refine (fK C m cc k n _ 2 c 81 #[.pointer (some ⟨b2,0,none⟩),.pointer (some ⟨b3,0,none⟩)] 0 (by omega) l ty _ h1.out (hT.below bw2)).mono ?_;rintro e w1 ⟨rfl,hb1⟩;have hZ1:=bH hb1;have hJ1:=((aC w 95 #[.slice C m cc,.int .i64 k,.int .i64 n,.slice (some ⟨ba,oa,none⟩) 2 c,.func (.func 81) #[] #[.pointer (some ⟨b2,0,none⟩),.pointer (some ⟨b3,0,none⟩)]] rfl).alloc (.cells Zr 25)).keep hb1;have g1:Bw w w1:=bQ bw2 hb1;have j0:=hJ1.at_ (i:=0) rfl;have j1:=hJ1.at_ (i:=1) rfl;have j2:=hJ1.at_ (i:=2) rfl;have j3:=hJ1.at_ (i:=3) rfl;have j4:=hJ1.at_ (i:=4) rfl;have tok1:=trivial))
  refine aN ?_;intro wx hwx;have hT6:Blk wx w2.heap.size (Ro kb nb Ab sb.length cb):=by rw [hwx];exact aC _ 25 _ rfl
  have hZx:=(show Blk wx (w.heap.size+1) _ by rw [hwx];exact hZ2.alloc _);have hJx:=(show Blk wx w.heap.size _ by rw [hwx];exact hJ2.alloc _);have gx:Bw w wx:=by rw [hwx];exact g2.alloc g2.size _
  have rb:Rd wx Ab 0 sb:=by rw [hwx];exact rb1.alloc _
  clear hwx;have ra:=ra0.below gx;have u3:=aF (hJx.at_ (i:=3) rfl);obtain ⟨v0,v1,v2⟩:=iD hT6;have y0:=aF ((bU gx) _ _ i1);have y1:=aF ((bU gx) _ _ i2);have y2:=aF ((bU gx) _ _ i3);go_cut [7,8] (fun vc vp wy=>∃gz:Nat,vp = .pointer (some ⟨gz,0,none⟩)∧vc = .int .i64 2∧Blk wy gz Zr∧Bw wx wy∧wx.heap.size≤gz)
  case first=>
   refine dX wx [9,10,11,13,14] [0,1,2,3,4,5] 15 9 (lT:=[_,_,_,_,_,_]) ?_;intro q0 bq0;refine bV (aD ?_);refine kX 6 12 ?_ ?_
   ·go_wp2_with fail
    refine dO ?_;intro q1 hbq1 zq1 seq1;have rq1:Rd q1 (some ⟨q0.heap.size,0,none⟩) 0 [.mk ka na sa,.mk kb nb sb]:=cT (s0:=sa) (s1:=sb) zq1 hla hlb ((ra.below bq0).below hbq1) ((rb.below bq0).below hbq1);refine aY bq0 hbq1 ?_;intro bq1 lq1;refine kX 7 12 ?_ ?_
    ·go_wp2_with (go_at_call 18;refine (aS 3 _ ⟨_,_,_,rfl⟩ _).mono ?_;rintro e q2 ⟨rfl,hbq2⟩)
     have Pq2:=rq1.below hbq2;refine aY bq1 hbq2 ?_;intro bq2 lq2;refine kX 8 12 ?_ ?_
     ·go_wp2_with (go_at_call 101;refine (jD 3 0 [.mk ka na sa,.mk kb nb sb] _ 2 _ hsz.out hv'.out Pq2).mono ?_;rintro e q3 ⟨rfl,hbq3⟩)
      have Pq3:=Pq2.below hbq3;refine aY bq2 hbq3 ?_;intro bq3 lq3;refine eS [9,10,11] 3 (lT:=[_,_,_]) ?_;refine bV (aD ?_);refine bG 12 ?_
      ·go_wp2_with fail
       refine dO ?_;intro q4 hbq4 zq4 seq4;have Pq4:=Pq3.below hbq4;refine aY bq3 hbq4 ?_;intro bq4 lq4;refine cD [13,14] (lB:=[_,_]) ?_;obtain ⟨d0,d1,d2,e0,e1,e2⟩:=bW zq4;have szb:wx.heap.size≤q3.heap.size:=by first|exact bq0.size|exact bq3.size
       go_wp2_with fail
       go_meet
       exact ⟨q3.heap.size,rfl,rfl,((zq4.set_ 0 _).set_ 1 _).set_ 2 _,((bq4.setCell szb _).setCell szb _).setCell szb _,szb⟩
     ·go_wp2_with fail
      refine dO ?_;intro q5 hbq5 zq5 seq5;have Pq5:=Pq2.below hbq5;refine aY bq2 hbq5 ?_;intro bq5 lq5;refine bG 8 ?_
      ·go_wp2_with (go_at_call 101;refine (jD 3 0 [.mk ka na sa,.mk kb nb sb] _ 2 _ hsz.out hv'.out Pq5).mono ?_;rintro e q6 ⟨rfl,hbq6⟩)
       have Pq6:=Pq5.below hbq6;have Zq6:=zq5.keep hbq6;refine aY bq5 hbq6 ?_;intro bq6 lq6;refine eS [9,10,11] 2 (lT:=[_,_,_]) ?_;refine bV (aD ?_);refine cD [13,14] (lB:=[_,_]) ?_;obtain ⟨d0,d1,d2,e0,e1,e2⟩:=bW Zq6;have szb:wx.heap.size≤q2.heap.size:=by first|exact bq0.size|exact bq2.size
       go_wp2_with fail
       go_meet
       exact ⟨q2.heap.size,rfl,rfl,((Zq6.set_ 0 _).set_ 1 _).set_ 2 _,((bq6.setCell szb _).setCell szb _).setCell szb _,szb⟩
    ·go_wp2_with fail
     refine dO ?_;intro q7 hbq7 zq7 seq7;have Pq7:=rq1.below hbq7;refine aY bq1 hbq7 ?_;intro bq7 lq7;refine bG 7 ?_
     ·go_wp2_with (go_at_call 18;refine (aS 3 _ ⟨_,_,_,rfl⟩ _).mono ?_;rintro e q8 ⟨rfl,hbq8⟩)
      have Pq8:=Pq7.below hbq8;have Zq8:=zq7.keep hbq8;refine aY bq7 hbq8 ?_;intro bq8 lq8;refine bG 8 ?_
      ·go_wp2_with (go_at_call 101;refine (jD 3 0 [.mk ka na sa,.mk kb nb sb] _ 2 _ hsz.out hv'.out Pq8).mono ?_;rintro e q9 ⟨rfl,hbq9⟩)
       have Pq9:=Pq8.below hbq9;have Zq9:=Zq8.keep hbq9;refine aY bq8 hbq9 ?_;intro bq9 lq9;refine eS [9,10,11] 2 (lT:=[_,_,_]) ?_;refine bV (aD ?_);refine cD [13,14] (lB:=[_,_]) ?_;obtain ⟨d0,d1,d2,e0,e1,e2⟩:=bW Zq9;have szb:wx.heap.size≤q1.heap.size:=by first|exact bq0.size|exact bq1.size
       go_wp2_with fail
       go_meet
       exact ⟨q1.heap.size,rfl,rfl,((Zq9.set_ 0 _).set_ 1 _).set_ 2 _,((bq9.setCell szb _).setCell szb _).setCell szb _,szb⟩
   ·go_wp2_with fail
    refine dO ?_;intro q10 hbq10 zq10 seq10;refine aY bq0 hbq10 ?_;intro bq10 lq10;refine bG 6 ?_
    ·go_wp2_with fail
     refine dO ?_;intro q11 hbq11 zq11 seq11;have rq11:Rd q11 (some ⟨q10.heap.size,0,none⟩) 0 [.mk ka na sa,.mk kb nb sb]:=cT (s0:=sa) (s1:=sb) zq11 hla hlb ((ra.below bq10).below hbq11) ((rb.below bq10).below hbq11);have Zq11:=zq10.keep hbq11;refine aY bq10 hbq11 ?_;intro bq11 lq11;refine bG 7 ?_
     ·go_wp2_with (go_at_call 18;refine (aS 3 _ ⟨_,_,_,rfl⟩ _).mono ?_;rintro e q12 ⟨rfl,hbq12⟩)
      have Zq12:=Zq11.keep hbq12;have Pq12:=rq11.below hbq12;refine aY bq11 hbq12 ?_;intro bq12 lq12;refine bG 8 ?_
      ·go_wp2_with (go_at_call 101;refine (jD 3 0 [.mk ka na sa,.mk kb nb sb] _ 2 _ hsz.out hv'.out Pq12).mono ?_;rintro e q13 ⟨rfl,hbq13⟩)
       have Zq13:=Zq12.keep hbq13;have Pq13:=Pq12.below hbq13;refine aY bq12 hbq13 ?_;intro bq13 lq13;refine eS [9,10,11] 2 (lT:=[_,_,_]) ?_;refine bV (aD ?_);refine cD [13,14] (lB:=[_,_]) ?_;obtain ⟨d0,d1,d2,e0,e1,e2⟩:=bW Zq13;have szb:wx.heap.size≤q0.heap.size:=by first|exact bq0.size|exact bq0.size
       go_wp2_with fail
       go_meet
       exact ⟨q0.heap.size,rfl,rfl,((Zq13.set_ 0 _).set_ 1 _).set_ 2 _,((bq13.setCell szb _).setCell szb _).setCell szb _,szb⟩
  case rest=>
   obtain ⟨gz,rfl,rfl,hTz,hxy,hgz⟩:=hcut;have gy:=gx.trans (hxy.mono gx.size);have hZy:=hZx.keep hxy;have hJy:=hJx.keep hxy;have j0:=hJy.at_ (i:=0) rfl;have j1:=hJy.at_ (i:=1) rfl;have j2:=hJy.at_ (i:=2) rfl;have j3:=hJy.at_ (i:=3) rfl;have j4:=hJy.at_ (i:=4) rfl;obtain ⟨p0,p1,p2⟩:=hTz.three;have lzz:=hTz.lt;obtain ⟨d0,d1,d2,e0,e1,e2,lz9⟩:=dA hZy;go_wp2_with fail
   have hyy:=fun (o:Obj)=>(((((hZy.set_ 0 (.int .i64 0)).set_ 1 (.int .i64 0)).set_ 2 (.slice none 0 0)).alloc o:Blk _ _ Zr)).three
   refine bodyPost_ret (v:=.tuple #[.agg Zr,.int .i64 2]) (by simp [results,results106,go_sem,hyy,d0,d1,d2]) rfl ⟨rfl,?_⟩;first|exact (bT gy).alloc (by simp [World.setCell];exact gy.size) _|exact bT gy
def aTe (r:Rs Tm)(t:Tm):Rs Tm:=match r with | .ok _=>.ok t | .no b=>.no b
theorem xX (C:Option Addr)(m cc:Nat)(k n:Int)(A:Option Addr)(c fc:Nat)(ev:Array Value)(l ka na:Int)(sa:List Tm)(a1:Tm)(kb nb:Int)(sb:List Tm)(rr:Rs Tm)(ty:Nat→Option Tm)(w:World)(h1:wT (ty 0)=some l)(h2:ty 1=some (.mk kb nb sb))(hv:aE (.mk 3 0 [.mk ka na sa,.mk kb nb sb])=true)(hT:TyOk fc ev w ty)(hr:Rd w A 0 [.mk ka na sa,a1])
  (hRec : Hid (∀ (Ao : Option Addr) (co : Nat) (w' : World), Bw w w' → Rd w' Ao 0 [.mk ka na sa, .mk kb nb sb] → Calls prog 59 #[.slice C m cc, .agg (Ro 3 0 Ao 2 co)] w' (pC w' rr))) :
  Calls prog 106 #[.agg #[.slice C m cc,.int .i64 k,.int .i64 n,.slice A 2 c,.func (.func fc) #[] ev]] w (pC w (aTe rr (.mk 3 0 [.mk ka na sa,.mk kb nb sb]))):=by
 obtain ⟨b2,b3,rfl,rfl⟩:=hT.1;all_goals
  have hv':=aD hv;replace h1:=aD h1;replace h2:=aD h2;clear hv;obtain ⟨ba,oa,Aa,ca,rfl,i1,i2,i3,hla,ra0⟩:=kZ hr;simp only [Nat.zero_mul,Nat.add_zero,Nat.one_mul,Nat.reduceMul] at i1 i2 i3
  go_enter func106,ntmps106;go_upto_region 7 with (first
   | (go_at_call 81;have _t:=tok1;refine (hT.2 1 kb nb sb (by omega) h2.out _ g1 _ (by rfl)).mono ?_;rintro e w2 ⟨Ab,cb,rfl,hlb,rb1,hb2⟩;have hZ2:=hZ1.keep hb2;have hJ2:=hJ1.keep hb2;have g2:=g1.trans (hb2.mono g1.size))
   | (go_at_call 132;refine (fK C m cc k n _ 2 c 81 #[.pointer (some ⟨b2,0,none⟩),.pointer (some ⟨b3,0,none⟩)] 0 (by omega) l ty _ h1.out (hT.below bw2)).mono ?_;rintro e w1 ⟨rfl,hb1⟩;have hZ1:=bH hb1;have hJ1:=((aC w 95 #[.slice C m cc,.int .i64 k,.int .i64 n,.slice (some ⟨ba,oa,none⟩) 2 c,.func (.func 81) #[] #[.pointer (some ⟨b2,0,none⟩),.pointer (some ⟨b3,0,none⟩)]] rfl).alloc (.cells Zr 25)).keep hb1;have g1:Bw w w1:=bQ bw2 hb1;have j0:=hJ1.at_ (i:=0) rfl;have j1:=hJ1.at_ (i:=1) rfl;have j2:=hJ1.at_ (i:=2) rfl;have j3:=hJ1.at_ (i:=3) rfl;have j4:=hJ1.at_ (i:=4) rfl;have tok1:=trivial))
  refine aN ?_;intro wx hwx;have hT6:Blk wx w2.heap.size (Ro kb nb Ab sb.length cb):=by rw [hwx];exact aC _ 25 _ rfl
  have hZx:=(show Blk wx (w.heap.size+1) _ by rw [hwx];exact hZ2.alloc _);have hJx:=(show Blk wx w.heap.size _ by rw [hwx];exact hJ2.alloc _);have gx:Bw w wx:=by rw [hwx];exact g2.alloc g2.size _
  have rb:Rd wx Ab 0 sb:=by rw [hwx];exact rb1.alloc _
  clear hwx;have ra:=ra0.below gx;have u3:=aF (hJx.at_ (i:=3) rfl);obtain ⟨v0,v1,v2⟩:=iD hT6;have y0:=aF ((bU gx) _ _ i1);have y1:=aF ((bU gx) _ _ i2);have y2:=aF ((bU gx) _ _ i3);go_cut [7,8] (fun vc vp wy=>∃(gz:Nat) (Az:Option Addr) (cz:Nat),vp = .pointer (some ⟨gz,0,none⟩)∧vc = .int .i64 0∧Blk wy gz (Ro 3 0 Az 2 cz)∧Rd wy Az 0 [.mk ka na sa,.mk kb nb sb]∧Bw wx wy∧wx.heap.size≤gz)
  case first=>
   refine dX wx [9,10,11,13,14] [0,1,2,3,4,5] 15 9 (lT:=[_,_,_,_,_,_]) ?_;intro q0 bq0;refine bV (aD ?_);refine kX 6 12 ?_ ?_
   ·go_wp2_with fail
    refine dO ?_;intro q1 hbq1 zq1 seq1;have rq1:Rd q1 (some ⟨q0.heap.size,0,none⟩) 0 [.mk ka na sa,.mk kb nb sb]:=cT (s0:=sa) (s1:=sb) zq1 hla hlb ((ra.below bq0).below hbq1) ((rb.below bq0).below hbq1);refine aY bq0 hbq1 ?_;intro bq1 lq1;refine kX 7 12 ?_ ?_
    ·go_wp2_with (go_at_call 18;refine (aS 3 _ ⟨_,_,_,rfl⟩ _).mono ?_;rintro e q2 ⟨rfl,hbq2⟩)
     have Pq2:=rq1.below hbq2;refine aY bq1 hbq2 ?_;intro bq2 lq2;refine kX 8 12 ?_ ?_
     ·go_wp2_with (go_at_call 101;refine (bC 3 0 [.mk ka na sa,.mk kb nb sb] _ 2 _ hv'.out Pq2).mono ?_;rintro e q3 ⟨rfl,hbq3⟩)
      have Pq3:=Pq2.below hbq3;refine aY bq2 hbq3 ?_;intro bq3 lq3;refine eS [9,10,11] 3 (lT:=[_,_,_]) ?_;refine bV (aD ?_);refine bG 12 ?_
      ·go_wp2_with fail
       refine dO ?_;intro q4 hbq4 zq4 seq4;have Pq4:=Pq3.below hbq4;refine aY bq3 hbq4 ?_;intro bq4 lq4;refine cD [13,14] (lB:=[_,_]) ?_;obtain ⟨d0,d1,d2,e0,e1,e2⟩:=bW zq4;have szb:wx.heap.size≤q3.heap.size:=by first|exact bq0.size|exact bq3.size
       go_wp2_with fail
       go_meet
       exact ⟨q3.heap.size,some ⟨q0.heap.size,0,none⟩,2,rfl,rfl,((zq4.set_ 0 _).set_ 1 _).set_ 2 _,aZ zq4 hv'.out Pq4 _ _ _,((bq4.setCell szb _).setCell szb _).setCell szb _,szb⟩
     ·go_wp2_with fail
      refine dO ?_;intro q5 hbq5 zq5 seq5;have Pq5:=Pq2.below hbq5;refine aY bq2 hbq5 ?_;intro bq5 lq5;refine bG 8 ?_
      ·go_wp2_with (go_at_call 101;refine (bC 3 0 [.mk ka na sa,.mk kb nb sb] _ 2 _ hv'.out Pq5).mono ?_;rintro e q6 ⟨rfl,hbq6⟩)
       have Pq6:=Pq5.below hbq6;have Zq6:=zq5.keep hbq6;refine aY bq5 hbq6 ?_;intro bq6 lq6;refine eS [9,10,11] 2 (lT:=[_,_,_]) ?_;refine bV (aD ?_);refine cD [13,14] (lB:=[_,_]) ?_;obtain ⟨d0,d1,d2,e0,e1,e2⟩:=bW Zq6;have szb:wx.heap.size≤q2.heap.size:=by first|exact bq0.size|exact bq2.size
       go_wp2_with fail
       go_meet
       exact ⟨q2.heap.size,some ⟨q0.heap.size,0,none⟩,2,rfl,rfl,((Zq6.set_ 0 _).set_ 1 _).set_ 2 _,aZ Zq6 hv'.out Pq6 _ _ _,((bq6.setCell szb _).setCell szb _).setCell szb _,szb⟩
    ·go_wp2_with fail
     refine dO ?_;intro q7 hbq7 zq7 seq7;have Pq7:=rq1.below hbq7;refine aY bq1 hbq7 ?_;intro bq7 lq7;refine bG 7 ?_
     ·go_wp2_with (go_at_call 18;refine (aS 3 _ ⟨_,_,_,rfl⟩ _).mono ?_;rintro e q8 ⟨rfl,hbq8⟩)
      have Pq8:=Pq7.below hbq8;have Zq8:=zq7.keep hbq8;refine aY bq7 hbq8 ?_;intro bq8 lq8;refine bG 8 ?_
      ·go_wp2_with (go_at_call 101;refine (bC 3 0 [.mk ka na sa,.mk kb nb sb] _ 2 _ hv'.out Pq8).mono ?_;rintro e q9 ⟨rfl,hbq9⟩)
       have Pq9:=Pq8.below hbq9;have Zq9:=Zq8.keep hbq9;refine aY bq8 hbq9 ?_;intro bq9 lq9;refine eS [9,10,11] 2 (lT:=[_,_,_]) ?_;refine bV (aD ?_);refine cD [13,14] (lB:=[_,_]) ?_;obtain ⟨d0,d1,d2,e0,e1,e2⟩:=bW Zq9;have szb:wx.heap.size≤q1.heap.size:=by first|exact bq0.size|exact bq1.size
       go_wp2_with fail
       go_meet
       exact ⟨q1.heap.size,some ⟨q0.heap.size,0,none⟩,2,rfl,rfl,((Zq9.set_ 0 _).set_ 1 _).set_ 2 _,aZ Zq9 hv'.out Pq9 _ _ _,((bq9.setCell szb _).setCell szb _).setCell szb _,szb⟩
   ·go_wp2_with fail
    refine dO ?_;intro q10 hbq10 zq10 seq10;refine aY bq0 hbq10 ?_;intro bq10 lq10;refine bG 6 ?_
    ·go_wp2_with fail
     refine dO ?_;intro q11 hbq11 zq11 seq11;have rq11:Rd q11 (some ⟨q10.heap.size,0,none⟩) 0 [.mk ka na sa,.mk kb nb sb]:=cT (s0:=sa) (s1:=sb) zq11 hla hlb ((ra.below bq10).below hbq11) ((rb.below bq10).below hbq11);have Zq11:=zq10.keep hbq11;refine aY bq10 hbq11 ?_;intro bq11 lq11;refine bG 7 ?_
     ·go_wp2_with (go_at_call 18;refine (aS 3 _ ⟨_,_,_,rfl⟩ _).mono ?_;rintro e q12 ⟨rfl,hbq12⟩)
      have Zq12:=Zq11.keep hbq12;have Pq12:=rq11.below hbq12;refine aY bq11 hbq12 ?_;intro bq12 lq12;refine bG 8 ?_
      ·go_wp2_with (go_at_call 101;refine (bC 3 0 [.mk ka na sa,.mk kb nb sb] _ 2 _ hv'.out Pq12).mono ?_;rintro e q13 ⟨rfl,hbq13⟩)
       have Zq13:=Zq12.keep hbq13;have Pq13:=Pq12.below hbq13;refine aY bq12 hbq13 ?_;intro bq13 lq13;refine eS [9,10,11] 2 (lT:=[_,_,_]) ?_;refine bV (aD ?_);refine cD [13,14] (lB:=[_,_]) ?_;obtain ⟨d0,d1,d2,e0,e1,e2⟩:=bW Zq13;have szb:wx.heap.size≤q0.heap.size:=by first|exact bq0.size|exact bq0.size
       go_wp2_with fail
       go_meet
       exact ⟨q0.heap.size,some ⟨q10.heap.size,0,none⟩,2,rfl,rfl,((Zq13.set_ 0 _).set_ 1 _).set_ 2 _,aZ Zq13 hv'.out Pq13 _ _ _,((bq13.setCell szb _).setCell szb _).setCell szb _,szb⟩
  case rest=>
   obtain ⟨gz,Az,cz,rfl,rfl,hTz,rz,hxy,hgz⟩:=hcut;have gy:=gx.trans (hxy.mono gx.size);have hZy:=hZx.keep hxy;have hJy:=hJx.keep hxy;have j0:=hJy.at_ (i:=0) rfl;have j1:=hJy.at_ (i:=1) rfl;have j2:=hJy.at_ (i:=2) rfl;have j3:=hJy.at_ (i:=3) rfl;have j4:=hJy.at_ (i:=4) rfl;obtain ⟨p0,p1,p2⟩:=hTz.three;have lzz:=hTz.lt;cases rr with
   | ok o=>
    obtain ⟨kr,nr,sr⟩:=o;go_wp2_with (go_at_call 59;refine (hRec.out Az cz _ gy rz).mono ?_;rintro e w9 ⟨A9,c9,rfl,hl9,r9,hb9⟩;have hZ9:=hZy.keep hb9;have g9:=gy.trans (hb9.mono gy.size);have rz9:=rz.below hb9;have hT9:=hTz.keep hb9;clear p0 p1 p2;obtain ⟨p0,p1,p2⟩:=hT9.three;obtain ⟨d0,d1,d2,e0,e1,e2,lz9⟩:=dA hZ9;have lt9:=hT9.lt)
    have hyy:=fun (o:Obj)=>(((((hZ9.set_ 0 (.int .i64 3)).set_ 1 (.int .i64 0)).set_ 2 (.slice Az 2 cz)).alloc o:Blk _ _ (Ro 3 0 Az 2 cz))).three
    refine bodyPost_ret (v:=.tuple #[.agg (Ro 3 0 Az 2 cz),.int .i64 0]) (by simp [results,results106,go_sem,hyy]) rfl ⟨Az,cz,rfl,by simp,?_,?_⟩
    ·exact (aZ hZ9 hv'.out rz9 _ _ _).alloc _
    ·exact (bT g9).alloc (by simp [World.setCell];exact g9.size) _
   | no b=>
    have qb:=eN b;go_wp2_with (go_at_call 59;refine (hRec.out Az cz _ gy rz).mono ?_;rintro e w9 ⟨rfl,hb9⟩;have hZ9:=hZy.keep hb9;have g9:=gy.trans (hb9.mono gy.size);have rz9:=rz.below hb9;have hT9:=hTz.keep hb9;clear p0 p1 p2;obtain ⟨p0,p1,p2⟩:=hT9.three;obtain ⟨d0,d1,d2,e0,e1,e2,lz9⟩:=dA hZ9;have lt9:=hT9.lt)
    have hyy:=fun (o:Obj)=>(((((hZ9.set_ 0 (.int .i64 0)).set_ 1 (.int .i64 0)).set_ 2 (.slice none 0 0)).alloc o:Blk _ _ Zr)).three
    refine bodyPost_ret (v:=.tuple #[.agg Zr,.int .i64 (dL b)]) (by simp [results,results106,go_sem,hyy,d0,d1,d2]) rfl ⟨rfl,?_⟩;exact (bT g9).alloc (by simp [World.setCell];exact g9.size) _
theorem xW (C:Option Addr)(m cc:Nat)(k n:Int)(A:Option Addr)(c fc:Nat)(ev:Array Value)(ka na:Int)(sa:List Tm)(a1:Tm)(r:Rs Tm)(rec_:Tm→Option (Rs Tm))(ty:Nat→Option (Rs Tm))(w:World)
  (hs : (bd (oW (ty 0)) fun _ => bd (ty 1) fun u => bd (rec_ (.mk 3 0 [.mk ka na sa, u])) fun _ => eC (.mk 3 0 [.mk ka na sa, u])) = some r) (hT : TyX fc ev w ty) (hv : TyV ty) (hr : Rd w A 0 [.mk ka na sa, a1]) (hva : aE (.mk ka na sa) = true) (hBad : ∀ (u : Tm) (rr : Rs Tm), rec_ (.mk 3 0 [.mk ka na sa, u]) = some rr → aE (.mk 3 0 [.mk ka na sa, u]) = false → rr = .no false)
  (hRec : Hid (∀ (u : Tm) (rr : Rs Tm), rec_ (.mk 3 0 [.mk ka na sa, u]) = some rr → aE (.mk 3 0 [.mk ka na sa, u]) = true → ∀ (Ao : Option Addr) (co : Nat) (w' : World), Bw w w' → Rd w' Ao 0 [.mk ka na sa, u] → Calls prog 59 #[.slice C m cc, .agg (Ro 3 0 Ao 2 co)] w' (pC w' rr))) :
  Calls prog 106 #[.agg #[.slice C m cc,.int .i64 k,.int .i64 n,.slice A 2 c,.func (.func fc) #[] ev]] w (pC w r):=by
 rcases aO hs with ⟨b,h1,rfl⟩|⟨i,h1,hs⟩
 ·have qb:=eN b;replace h1:=aD h1;clear hs hRec;go_enter func106,ntmps106;go_wp2_with (go_at_call 132;refine (fX C m cc k n A 2 c fc ev 0 (by omega) _ ty _ h1.out (hT.below bw2) hv).mono ?_;rintro e w1 ⟨rfl,hb1⟩;have hZ1:=bH hb1;have g1:Bw w w1:=bQ bw2 hb1;obtain ⟨d0,d1,d2,e0,e1,e2⟩:=bW hZ1)
  refine bodyPost_ret (v:=.tuple #[.agg Zr,.int .i64 (dL b)]) (by simp [results,results106,go_sem,d0,d1,d2]) rfl ⟨rfl,?_⟩;exact bT g1
 rcases aO hs with ⟨b,h2,rfl⟩|⟨u,h2,hs⟩
 ·have qb:=eN b;obtain ⟨b2,b3,rfl,rfl⟩:=hT.1;all_goals
   replace h1:=aD h1;replace h2:=aD h2;clear hs hRec;go_enter func106,ntmps106;go_wp2_with (first
    | (go_at_call 81;have _t:=tok1;refine (hT.2 1 _ (by omega) h2.out _ g1 _ (by rfl)).mono ?_;rintro e w2 ⟨rfl,hb2⟩;have hZ2:=hZ1.keep hb2;have g2:=g1.trans (hb2.mono g1.size);obtain ⟨d0,d1,d2,e0,e1,e2,lz⟩:=dA hZ2;have n1':w.heap.size+1≠w2.heap.size:=(by omega))
    | (go_at_call 132;refine (fX C m cc k n A 2 c _ _ 0 (by omega) _ ty _ h1.out (hT.below bw2) hv).mono ?_;rintro e w1 ⟨rfl,hb1⟩;have hZ1:=bH hb1;have hJ1:=((aC w 95 #[.slice C m cc,.int .i64 k,.int .i64 n,.slice A 2 c,.func (.func _) #[] _] rfl).alloc (.cells Zr 25)).keep hb1;have g1:Bw w w1:=bQ bw2 hb1;have j0:=hJ1.at_ (i:=0) rfl;have j1:=hJ1.at_ (i:=1) rfl;have j2:=hJ1.at_ (i:=2) rfl;have j3:=hJ1.at_ (i:=3) rfl;have j4:=hJ1.at_ (i:=4) rfl;have tok1:=trivial))
   have y:=fun (o:Obj)=>(((((hZ2.set_ 0 (.int .i64 0)).set_ 1 (.int .i64 0)).set_ 2 (.slice none 0 0)).alloc o:Blk _ _ Zr)).three
   refine bodyPost_ret (v:=.tuple #[.agg Zr,.int .i64 (dL b)]) (by simp [results,results106,go_sem,y,d0,d1,d2]) rfl ⟨rfl,?_⟩;exact (bT g2).alloc (by simp [World.setCell];exact g2.size) _
 obtain ⟨kb,nb,sb⟩:=u;by_cases hvo:aE (.mk 3 0 [.mk ka na sa,.mk kb nb sb])=true
 rotate_left
 ·have hvo:=Bool.eq_false_iff.2 hvo;have hr0:r = .no false:=by
   rcases aO hs with ⟨b,h3,rfl⟩|⟨o,h3,h4⟩
   ·exact hBad _ _ h3 hvo
   ·cases hBad _ _ h3 hvo
  rw [hr0];exact yC C m cc k n A c fc ev i ka na sa a1 kb nb sb _ w (vL h1) (wP h2) hvo hva (hv _ _ h2) hT.ok hr
 have key:∀rr,rec_ (.mk 3 0 [.mk ka na sa,.mk kb nb sb])=some rr→Calls prog 106 #[.agg #[.slice C m cc,.int .i64 k,.int .i64 n,.slice A 2 c,.func (.func fc) #[] ev]] w (pC w (aTe rr (.mk 3 0 [.mk ka na sa,.mk kb nb sb]))):=fun rr hrr=>
  xX C m cc k n A c fc ev i ka na sa a1 kb nb sb rr _ w (vL h1) (wP h2) hvo hT.ok hr (aD (hRec.out _ rr hrr hvo))
 rcases aO hs with ⟨b,h3,rfl⟩|⟨o,h3,hs⟩
 ·exact key _ h3
 ·rw [eC,if_pos hvo] at hs;obtain rfl:=(Option.some.inj hs).symm;exact key _ h3
theorem yM (C:Option Addr)(m cc:Nat)(k n:Int)(A:Option Addr)(c fc:Nat)(ev:Array Value)(ka na:Int)(sa:List Tm)(a1 a2:Tm)(r:Rs Tm)(ty:Nat→Option (Rs Tm))(w:World)
  (hs : (bd (oW (ty 0)) fun i => bd (iE (ty 1) (.mk ka na sa)) fun _ => bd (iE (ty 2) (.mk ka na sa)) fun _ => some (.ok (.mk 2 i []))) = some r) (hT : TyX fc ev w ty) (hv : TyV ty) (hva : aE (.mk ka na sa) = true) (hr : Rd w A 0 [.mk ka na sa, a1, a2]) :
  Calls prog 112 #[.agg #[.slice C m cc,.int .i64 k,.int .i64 n,.slice A 3 c,.func (.func fc) #[] ev]] w (pC w r):=by
 replace hva:=aD hva;obtain ⟨ba,oa,Aa,ca,rfl,i1,i2,i3,hla,ra0⟩:=kZ hr;simp only [Nat.zero_mul,Nat.add_zero,Nat.one_mul,Nat.reduceMul] at i1 i2 i3
 rcases aO hs with ⟨b,h1,rfl⟩|⟨l,h1,hs⟩
 ·have qb:=eN b;have qb2:(dL b==0)=false:=by cases b<;>decide
  replace h1:=aD h1;clear hs;go_enter func112,ntmps112;go_wp2_with (go_at_call 132;refine (fX C m cc k n _ 3 c fc ev 0 (by omega) _ ty _ h1.out (hT.below bw2) hv).mono ?_;rintro e w1 ⟨rfl,hb1⟩;have hZ1:=bH hb1;have hJ1:=((aC w 95 #[.slice C m cc,.int .i64 k,.int .i64 n,.slice (some ⟨ba,oa,none⟩) 3 c,.func (.func fc) #[] ev] rfl).alloc (.cells Zr 25)).keep hb1;have g1:Bw w w1:=bQ bw2 hb1;have j0:=hJ1.at_ (i:=0) rfl;have j1:=hJ1.at_ (i:=1) rfl;have j2:=hJ1.at_ (i:=2) rfl;have j3:=hJ1.at_ (i:=3) rfl;have j4:=hJ1.at_ (i:=4) rfl)
  go_loopw [5,6] (fun co s wr=>s = .int .i64 1∧co = .int .i64 (dL b)∧Blk wr (w.heap.size+1) Zr∧Bw w wr) (fun co s _=>0)
  case atStart=>exact ⟨rfl,rfl,hZ1,g1⟩
  case round=>
   obtain ⟨rfl,rfl,hZr,gr⟩:=hrel;obtain ⟨d0,d1,d2,e0,e1,e2⟩:=bW hZr;go_wp2_with fail
   refine bodyPost_ret (v:=.tuple #[.agg Zr,.int .i64 (dL b)]) (by simp [results,results112,go_sem,d0,d1,d2]) rfl ⟨rfl,?_⟩;exact bT gr
 ·replace h1:=aD h1;go_enter func112,ntmps112;go_wp2_with (go_at_call 132;refine (fX C m cc k n _ 3 c fc ev 0 (by omega) _ ty _ h1.out (hT.below bw2) hv).mono ?_;rintro e w1 ⟨rfl,hb1⟩;have hZ1:=bH hb1;have hJ1:=((aC w 95 #[.slice C m cc,.int .i64 k,.int .i64 n,.slice (some ⟨ba,oa,none⟩) 3 c,.func (.func fc) #[] ev] rfl).alloc (.cells Zr 25)).keep hb1;have g1:Bw w w1:=bQ bw2 hb1;have j0:=hJ1.at_ (i:=0) rfl;have j1:=hJ1.at_ (i:=1) rfl;have j2:=hJ1.at_ (i:=2) rfl;have j3:=hJ1.at_ (i:=3) rfl;have j4:=hJ1.at_ (i:=4) rfl)
  go_loopw [5,6] (fun co s wr=>∃(j:Nat) (x:Int),s = .int .i64 j∧co = .int .i64 x∧Blk wr w.heap.size #[.slice C m cc,.int .i64 k,.int .i64 n,.slice (some ⟨ba,oa,none⟩) 3 c,.func (.func fc) #[] ev]∧Blk wr (w.heap.size+1) Zr∧Bw w wr∧
    ((x=0∧((j=1∧Hid ((bd (iE (ty 1) (.mk ka na sa)) fun _=>bd (iE (ty 2) (.mk ka na sa)) fun _=>some (.ok (.mk 2 l [])))=some r))∨(j=2∧Hid ((bd (iE (ty 2) (.mk ka na sa)) fun _=>some (.ok (.mk 2 l [])))=some r))∨(j=3∧r = .ok (.mk 2 l []))))∨((j=2∨j=3)∧∃b,x=dL b∧r = .no b)))
   (fun co s _=>3 - (intOf s).toNat)
  case atStart=>exact ⟨1,0,rfl,rfl,hJ1,hZ1,g1,.inl ⟨rfl,.inl ⟨rfl,aD hs⟩⟩⟩
  case round=>
   obtain ⟨j,x,rfl,rfl,hJr,hZr,gr,hcase⟩:=hrel;clear hs;rcases hcase with ⟨rfl,⟨rfl,hs⟩|⟨rfl,hs⟩|⟨rfl,rfl⟩⟩|⟨hj,b,rfl,rfl⟩
   ·rcases aO hs.out with ⟨b,h2,rfl⟩|⟨u,h2,hs⟩
    all_goals
     replace h2:=aD h2;go_upto_region 5 with fail
     have u0:=aF (hJr.at_ (i:=0) rfl);have u1:=aF (hJr.at_ (i:=1) rfl);have u2:=aF (hJr.at_ (i:=2) rfl);have u3:=aF (hJr.at_ (i:=3) rfl);have u4:=aF (hJr.at_ (i:=4) rfl);obtain ⟨y0,y1,y2⟩:=iI gr i1 i2 i3;refine dX wr [8] [0,1,2,3,4,5,6] 9 2 (lT:=[_,_,_,_,_,_,_]) ?_;intro q0 bq0;refine bV (aD ?_);refine bG 7 ?_
    ·go_wp2_with (go_at_call 104;refine (gR C m cc k n _ 3 c fc ev 1 (by omega) ka na sa Aa ca _ ty _ h2.out ((hT.below gr).below bq0) hv hva.out ((ra0.below gr).below bq0)).mono ?_;rintro e q1 ⟨he,hbq1⟩;obtain rfl:e = .returned (.int .i64 (dL b)):=he)
     refine aY bq0 hbq1 ?_;intro bq1 lq1;refine cD [8] (lB:=[_]) ?_;go_wp2_with fail
     go_roundw
     case rel=>exact ⟨2,_,rfl,rfl,hJr.keep bq1,hZr.keep bq1,gr.trans (bq1.mono gr.size),.inr ⟨.inl rfl,b,rfl,rfl⟩⟩
     case measure=>simp [intOf]
    ·go_wp2_with (go_at_call 104;refine (gR C m cc k n _ 3 c fc ev 1 (by omega) ka na sa Aa ca _ ty _ h2.out ((hT.below gr).below bq0) hv hva.out ((ra0.below gr).below bq0)).mono ?_;rintro e q1 ⟨he,hbq1⟩;obtain rfl:e = .returned (.int .i64 0):=he)
     refine aY bq0 hbq1 ?_;intro bq1 lq1;refine cD [8] (lB:=[_]) ?_;go_wp2_with fail
     go_roundw
     case rel=>exact ⟨2,_,rfl,rfl,hJr.keep bq1,hZr.keep bq1,gr.trans (bq1.mono gr.size),.inl ⟨rfl,.inr (.inl ⟨rfl,aD hs⟩)⟩⟩
     case measure=>simp [intOf]
   ·rcases aO hs.out with ⟨b,h2,rfl⟩|⟨u,h2,hs⟩
    all_goals
     replace h2:=aD h2;go_upto_region 5 with fail
     have u0:=aF (hJr.at_ (i:=0) rfl);have u1:=aF (hJr.at_ (i:=1) rfl);have u2:=aF (hJr.at_ (i:=2) rfl);have u3:=aF (hJr.at_ (i:=3) rfl);have u4:=aF (hJr.at_ (i:=4) rfl);obtain ⟨y0,y1,y2⟩:=iI gr i1 i2 i3;refine dX wr [8] [0,1,2,3,4,5,6] 9 2 (lT:=[_,_,_,_,_,_,_]) ?_;intro q0 bq0;refine bV (aD ?_);refine bG 7 ?_
    ·go_wp2_with (go_at_call 104;refine (gR C m cc k n _ 3 c fc ev 2 (by omega) ka na sa Aa ca _ ty _ h2.out ((hT.below gr).below bq0) hv hva.out ((ra0.below gr).below bq0)).mono ?_;rintro e q1 ⟨he,hbq1⟩;obtain rfl:e = .returned (.int .i64 (dL b)):=he)
     refine aY bq0 hbq1 ?_;intro bq1 lq1;refine cD [8] (lB:=[_]) ?_;go_wp2_with fail
     go_roundw
     case rel=>exact ⟨3,_,rfl,rfl,hJr.keep bq1,hZr.keep bq1,gr.trans (bq1.mono gr.size),.inr ⟨.inr rfl,b,rfl,rfl⟩⟩
     case measure=>simp [intOf]
    ·go_wp2_with (go_at_call 104;refine (gR C m cc k n _ 3 c fc ev 2 (by omega) ka na sa Aa ca _ ty _ h2.out ((hT.below gr).below bq0) hv hva.out ((ra0.below gr).below bq0)).mono ?_;rintro e q1 ⟨he,hbq1⟩;obtain rfl:e = .returned (.int .i64 0):=he)
     refine aY bq0 hbq1 ?_;intro bq1 lq1;refine cD [8] (lB:=[_]) ?_;go_wp2_with fail
     go_roundw
     case rel=>exact ⟨3,_,rfl,rfl,hJr.keep bq1,hZr.keep bq1,gr.trans (bq1.mono gr.size),.inl ⟨rfl,.inr (.inr ⟨rfl,(Option.some.inj hs).symm⟩)⟩⟩
     case measure=>simp [intOf]
   ·go_wp2_with (go_at_call 103;refine (mE _ _).mono ?_;rintro e w3 ⟨rfl,hb3⟩;have hZ3:=hZr.keep hb3;have g3:=gr.trans (hb3.mono gr.size);obtain ⟨d0,d1,d2,e0,e1,e2⟩:=bW hZ3)
    refine bodyPost_ret (v:=.tuple #[.agg (Ro 2 l none 0 0),.int .i64 0]) (by simp [results,results112,go_sem,d0,d1,d2]) rfl ⟨none,0,rfl,by simp,Rd.nil,?_⟩;exact bT g3
   ·have qb:=eN b;have qb2:(dL b==0)=false:=by cases b<;>decide
    obtain ⟨d0,d1,d2,e0,e1,e2⟩:=bW hZr;rcases hj with rfl|rfl
    all_goals
     go_wp2_with fail
     refine bodyPost_ret (v:=.tuple #[.agg Zr,.int .i64 (dL b)]) (by simp [results,results112,go_sem,d0,d1,d2]) rfl ⟨rfl,?_⟩;exact bT gr
namespace NT
def shift (m:Nat):Nat→NT→NT
 | c,.var i=>if c≤i then .var (i+m) else .var i
 | _,.zero=>.zero
 | c,.suc a=>.suc (a.shift m c)
 | c,.app b a=>.app (b.shift m (c+1)) (a.shift m c)
 | c,.elim z s n=>.elim (z.shift m c) (s.shift m (c+2)) (n.shift m c)
 | c,.part q a b=>.part q (a.shift m c) (b.shift m c)
 | c,.mov x z=>.mov (x.shift m c) (z.shift m c)
def fP (a:NT):Nat→NT→NT
 | k,.var i=>if i=k then a.shift k 0 else if k<i then .var (i - 1) else .var i
 | _,.zero=>.zero
 | k,.suc b=>.suc (fP a k b)
 | k,.app b c=>.app (fP a (k+1) b) (fP a k c)
 | k,.elim z s n=>.elim (fP a k z) (fP a (k+2) s) (fP a k n)
 | k,.part q x y=>.part q (fP a k x) (fP a k y)
 | k,.mov x z=>.mov (fP a k x) (fP a k z)
theorem aFf (a:NT):∀(k d c e:Nat),c≤e→e≤c+k→(a.shift k c).shift d e=a.shift (k+d) c:=by
 induction a with
 | var i=>
  intro k d c e h1 h2;simp only [shift]
  by_cases h:c≤i
  ·rw [if_pos h,if_pos h,shift,if_pos (by omega)];congr 1;omega
  ·rw [if_neg h,if_neg h,shift,if_neg (by omega)]
 | zero=>intros;rfl
 | suc a ih=>intro k d c e h1 h2;simp only [shift];rw [ih k d c e h1 h2]
 | app b a h1 h2=>intro k d c e g1 g2;simp only [shift];rw [h1 k d (c+1) (e+1) (by omega) (by omega),h2 k d c e g1 g2]
 | elim z s n h1 h2 h3=>intro k d c e g1 g2;simp only [shift];rw [h1 k d c e g1 g2,h2 k d (c+2) (e+2) (by omega) (by omega),h3 k d c e g1 g2]
 | part q a b h1 h2=>intro k d c e g1 g2;simp only [shift];rw [h1 k d c e g1 g2,h2 k d c e g1 g2]
 | mov a b h1 h2=>intro k d c e g1 g2;simp only [shift];rw [h1 k d c e g1 g2,h2 k d c e g1 g2]
theorem aFr (a:NT):∀(m d k e:Nat),e≤k→(a.shift m k).shift d e=(a.shift d e).shift m (k+d):=by
 induction a with
 | var i=>
  intro m d k e h;simp only [shift]
  by_cases h1:k≤i
  ·rw [if_pos h1,if_pos (by omega)];simp only [shift];rw [if_pos (by omega),if_pos (by omega)];congr 1;omega
  ·rw [if_neg h1];by_cases h2:e≤i
   ·rw [if_pos h2];simp only [shift];rw [if_pos h2,if_neg (by omega)]
   ·rw [if_neg h2];simp only [shift];rw [if_neg h2,if_neg (by omega)]
 | zero=>intros;rfl
 | suc a ih=>intro m d k e h;simp only [shift];rw [ih m d k e h]
 | app b a h1 h2=>intro m d k e h;simp only [shift];rw [h1 m d (k+1) (e+1) (by omega),h2 m d k e h,show k+1+d=k+d+1 by omega]
 | elim z s n h1 h2 h3=>intro m d k e h;simp only [shift];rw [h1 m d k e h,h2 m d (k+2) (e+2) (by omega),h3 m d k e h,show k+2+d=k+d+2 by omega]
 | part q a b h1 h2=>intro m d k e h;simp only [shift];rw [h1 m d k e h,h2 m d k e h]
 | mov a b h1 h2=>intro m d k e h;simp only [shift];rw [h1 m d k e h,h2 m d k e h]
theorem aAm (u:NT):∀(a:NT) (m k d:Nat),(fP a d u).shift m (k+d)=fP (a.shift m k) d (u.shift m (k+d+1)):=by
 induction u with
 | var i=>
  intro a m k d;simp only [fP,shift]
  by_cases h1:i=d
  ·subst h1;rw [if_pos rfl,if_neg (by omega)];simp only [fP]
   rw [if_pos trivial,aFr a m i k 0 (by omega)]
  ·rw [if_neg h1];by_cases h2:d<i
   ·rw [if_pos h2];simp only [shift]
    by_cases h3:k+d+1≤i
    ·rw [if_pos (by omega),if_pos h3];simp only [fP];rw [if_neg (by omega),if_pos (by omega)];congr 1;omega
    ·rw [if_neg (by omega),if_neg h3];simp only [fP];rw [if_neg h1,if_pos h2]
   ·rw [if_neg h2,if_neg (by omega)];simp only [shift,fP]
    rw [if_neg (by omega),if_neg h1,if_neg h2]
 | zero=>intros;rfl
 | suc b ih=>intro a m k d;simp only [fP,shift];rw [ih]
 | app b c h1 h2=>intro a m k d;simp only [fP,shift];rw [show k+d+1=k+(d+1) by omega,h1,h2,show k+(d+1)+1=k+d+1+1 by omega,show k+d+1=k+(d+1) by omega]
 | elim z s n h1 h2 h3=>intro a m k d;simp only [fP,shift];rw [show k+d+2=k+(d+2) by omega,h1,h2,h3,show k+(d+2)+1=k+d+1+2 by omega]
 | part q x y h1 h2=>intro a m k d;simp only [fP,shift];rw [h1,h2]
 | mov x y h1 h2=>intro a m k d;simp only [fP,shift];rw [h1,h2]
theorem aLe (x:NT):∀(a:NT) (k d c:Nat),c≤k→fP a (k+d) (x.shift d c)=(fP a k x).shift d c:=by
 induction x with
 | var i=>
  intro a k d c h;simp only [fP,shift]
  by_cases h1:i=k
  ·subst h1;rw [if_pos h,if_pos rfl];simp only [fP]
   rw [if_pos trivial,aFf a i d 0 c (by omega) (by omega)]
  ·rw [if_neg h1];by_cases h2:k<i
   ·rw [if_pos (by omega),if_pos h2];simp only [fP,shift]
    rw [if_neg (by omega),if_pos (by omega),if_pos (by omega)];congr 1;omega
   ·rw [if_neg h2];by_cases h3:c≤i
    ·rw [if_pos h3];simp only [fP,shift];rw [if_neg (by omega),if_neg (by omega),if_pos h3]
    ·rw [if_neg h3];simp only [fP,shift];rw [if_neg (by omega),if_neg (by omega),if_neg h3]
 | zero=>intros;rfl
 | suc b ih=>intro a k d c h;simp only [fP,shift];rw [ih a k d c h]
 | app b e h1 h2=>intro a k d c h;simp only [fP,shift];rw [show k+d+1=(k+1)+d by omega,h1 a (k+1) d (c+1) (by omega),h2 a k d c h]
 | elim z s n h1 h2 h3=>intro a k d c h;simp only [fP,shift];rw [show k+d+2=(k+2)+d by omega,h2 a (k+2) d (c+2) (by omega),h1 a k d c h,h3 a k d c h]
 | part q x y h1 h2=>intro a k d c h;simp only [fP,shift];rw [h1 a k d c h,h2 a k d c h]
 | mov x y h1 h2=>intro a k d c h;simp only [fP,shift];rw [h1 a k d c h,h2 a k d c h]
theorem vJ (a:NT):∀(x:NT) (j d c:Nat),c≤d→d≤c+j→fP x d (a.shift (j+1) c)=a.shift j c:=by
 induction a with
 | var i=>
  intro x j d c h1 h2;simp only [shift]
  by_cases h:c≤i
  ·rw [if_pos h,if_pos h];simp only [fP];rw [if_neg (by omega),if_pos (by omega)];congr 1
  ·rw [if_neg h,if_neg h];simp only [fP];rw [if_neg (by omega),if_neg (by omega)]
 | zero=>intros;rfl
 | suc b ih=>intro x j d c h1 h2;simp only [shift,fP];rw [ih x j d c h1 h2]
 | app b e h1 h2=>intro x j d c g1 g2;simp only [shift,fP];rw [h1 x j (d+1) (c+1) (by omega) (by omega),h2 x j d c g1 g2]
 | elim z s n h1 h2 h3=>intro x j d c g1 g2;simp only [shift,fP];rw [h1 x j d c g1 g2,h2 x j (d+2) (c+2) (by omega) (by omega),h3 x j d c g1 g2]
 | part q a b h1 h2=>intro x j d c g1 g2;simp only [shift,fP];rw [h1 x j d c g1 g2,h2 x j d c g1 g2]
 | mov a b h1 h2=>intro x j d c g1 g2;simp only [shift,fP];rw [h1 x j d c g1 g2,h2 x j d c g1 g2]
theorem aHn (u:NT):∀(a b:NT) (k d:Nat),fP (fP a k b) d (fP a (k+d+1) u)=fP a (k+d) (fP b d u):=by
 induction u with
 | var i=>
  intro a b k d;simp only [fP]
  by_cases h1:i=k+d+1
  ·rw [if_pos h1,if_neg (show ¬i=d by omega),if_pos (show d<i by omega),vJ a _ (k+d) d 0 (by omega) (by omega)];simp only [fP]
   rw [if_pos (by omega)]
  ·rw [if_neg h1];by_cases h2:k+d+1<i
   ·rw [if_pos h2,if_neg (show ¬i=d by omega),if_pos (show d<i by omega)];simp only [fP]
    rw [if_neg (by omega),if_pos (by omega),if_neg (by omega),if_pos (by omega)]
   ·rw [if_neg h2];by_cases h3:i=d
    ·subst h3;rw [if_pos rfl];simp only [fP]
     rw [if_pos trivial,aLe b a k i 0 (by omega)]
    ·rw [if_neg h3];by_cases h4:d<i
     ·rw [if_pos h4];simp only [fP];rw [if_neg h3,if_pos h4,if_neg (by omega),if_neg (by omega)]
     ·rw [if_neg h4];simp only [fP];rw [if_neg h3,if_neg h4,if_neg (by omega),if_neg (by omega)]
 | zero=>intros;rfl
 | suc u ih=>intro a b k d;simp only [fP];rw [ih]
 | app u v h1 h2=>intro a b k d;simp only [fP];rw [show k+d+1+1=k+(d+1)+1 by omega,h1,h2,show k+(d+1)=k+d+1 by omega]
 | elim z s n h1 h2 h3=>intro a b k d;simp only [fP];rw [show k+d+1+2=k+(d+2)+1 by omega,h2,h1,h3,show k+(d+2)=k+d+2 by omega]
 | part q x y h1 h2=>intro a b k d;simp only [fP];rw [h1,h2]
 | mov x y h1 h2=>intro a b k d;simp only [fP];rw [h1,h2]
end NT
theorem cls_mx:(∀(t:Tm) (d a:Int),cE d t=true→mxT d a t=a)∧∀(ts:List Tm) (k d a:Int) (i:Nat),gO d k i ts=true→vG k d i a ts=a:=by
 refine bO (fun k n ks ih d a h=>?_) (fun k d a i _=>by rw [vG]) (fun t ts h1 h2 k d a i h=>?_)
 ·rw [mxT,if_neg (fun hc=>by have:=mL h hc.1;omega)];exact ih _ _ _ _ (mF h)
 ·rw [gO,Bool.and_eq_true] at h;rw [vG,h1 _ _ h.1,h2 _ _ _ _ h.2]
theorem aQl {t:Tm}(h:cE 0 t=true):mxT 0 0 t=0:=cls_mx.1 t 0 0 h
theorem aLj (n:Nat):(cR n).n=0:=by cases n<;>rfl
theorem aCu (t:Tm):t = .mk t.k t.n t.ks:=by cases t;rfl
theorem aJu {B g:Nat}{w:World}{us:List Tm}{xs:List Value}{f:List Nat}(h:OwX w us xs f)(hg:Blk w g xs.toArray)(hn:f.Nodup)(hf:∀b,b∈f→B≤b∧b≠g)(hB:B≤g)(hu:us≠[]):Fresh B w (some ⟨g,0,none⟩) us:=by
 obtain ⟨t,ht⟩:=hg;have hl:=h.length;refine ⟨g::f,.inr ⟨g,xs.toArray,t,f,hu,rfl,ht,rfl,?_⟩,List.nodup_cons.2 ⟨fun hm=>(hf g hm).2 rfl,hn⟩,fun b hb=>?_⟩
 ·rw [show xs.toArray.toList=xs from rfl,List.take_of_length_le (by omega)];exact h
 ·rcases List.mem_cons.1 hb with rfl|hb
  ·exact hB
  ·exact (hf b hb).1
theorem aCd (m:Nat)(hm:m≤1000)(w:World):Calls prog 27 #[.int .i64 m] w (uO w (cR m).k 0 (cR m).ks):=by
 go_enter func27,ntmps27;go_wp2_with (go_at_call 18;refine (aS 7 _ ⟨_,_,_,rfl⟩ _).mono ?_;rintro e w1 ⟨rfl,hb1⟩;have hZ:=(aC w 25 Zr rfl).keep hb1;have g1:Bw w w1:=bQ bw1 hb1;have s1:=hZ.lt)
 go_loopw [0] (fun i wr=>∃(j:Nat) (A:Option Addr) (c:Nat),j≤m∧i = .int .i64 ((m - j:Nat):Int)∧Blk wr w1.heap.size #[.int .i64 (cR j).k,.int .i64 0,.slice A (cR j).ks.length c]∧(cR j).ks.length≤1∧Fresh (w1.heap.size+1) wr A (cR j).ks∧Blk wr w.heap.size Zr∧Bw w wr) (fun i _=>(intOf i).toNat)
 case atStart=>exact ⟨0,none,0,Nat.zero_le _,rfl,aC _ 25 _ rfl,by simp [cR,Tm.ks],Fresh.nil,hZ.alloc _,g1.alloc (by omega) _⟩
 case round=>
  obtain ⟨j,A,c,hj,rfl,hT,hl,hf,hZr,hb⟩:=hrel;obtain ⟨x0,x1,x2,f0,f1,f2,lt⟩:=dA hT;by_cases hlt:j<m
  ·have hq:decide ((0:Int)<((m - j:Nat):Int))=true:=decide_eq_true (by omega);have hq2:(0:Int)<((m - j:Nat):Int):=by omega
   have he:∃kj ksj,cR j = .mk kj 0 ksj:=by cases j<;>exact ⟨_,_,rfl⟩
   obtain ⟨kj,ksj,he⟩:=he;have hnext:(cR (j+1)).k=8∧(cR (j+1)).ks=[.mk kj 0 ksj]:=by rw [← he];exact ⟨rfl,rfl⟩
   rw [he] at x0 x2 hT hl hf;simp only [Tm.k,Tm.ks] at x0 x2 hT hl hf
   have he':=aD he;obtain ⟨fp,hO,hnd,hge⟩:=hf;have hOl:=hO.lt;clear he hnext;have lz:=hZr.lt;go_wp2_with (go_at_call 18;refine (aS 8 _ ⟨_,_,_,rfl⟩ _).mono ?_;rintro e w2 ⟨rfl,hb2⟩;have hN:=(aC wr 25 (Ro kj 0 A ksj.length c) rfl).keep hb2;replace hT:=(hT.alloc (.cells (Ro kj 0 A ksj.length c) 25)).keep hb2;have hO2:Ow w2 A ksj fp:=hO.frame (fun b hb=>(hb2.block b (by have:=hOl b hb;simp;omega)).trans (Below.heap_alloc wr _ b (hOl b hb)));replace hZr:=(hZr.alloc (.cells (Ro kj 0 A ksj.length c) 25)).keep hb2;clear x0 x1 x2 f0 f1 f2;have x0:=hT.three.1;have x1:=hT.three.2.1;have x2:=hT.three.2.2;obtain ⟨f0,f1,f2⟩:=lF hT;have s2:wr.heap.size+1≤w2.heap.size:=(by have:=hb2.size;simpa using this);have g2:Bw w w2:=(hb.alloc hb.size _).trans (hb2.mono (by have:=hb.size;simp;omega)))
   have hfr:Fresh (w1.heap.size+1) w2 (some ⟨wr.heap.size,0,none⟩) [.mk kj 0 ksj]:=aJu (jE (OwT.iff.2 ⟨A,c,rfl,by omega,hO2⟩)) hN hnd (fun b hb=>⟨hge b hb,by have:=hOl b hb;omega⟩) (by omega) (by simp);go_roundw
   case rel=>
    refine ⟨j+1,some ⟨wr.heap.size,0,none⟩,1,by omega,by rw [show ((m - (j+1):Nat):Int)=((m - j:Nat):Int) - 1 by omega],((hT.set_ 0 _).set_ 1 _).set_ 2 _,by show 1≤1;omega,?_,((hZr.far (by simp;omega) _).far (by simp;omega) _).far (by simp;omega) _,(bT g2)⟩;show Fresh _ _ _ [cR j]
    rw [he'.out];exact (mU hfr)
   case measure=>simp [intOf];omega
  ·obtain rfl:j=m:=by omega
   have hq:decide ((0:Int)<((j - j:Nat):Int))=false:=decide_eq_false (by omega);have hq2:¬(0:Int)<((j - j:Nat):Int):=by omega
   obtain ⟨d0,d1,d2,e0,e1,e2,lz⟩:=dA hZr;go_wp2_with fail
   refine bodyPost_ret (v:=.agg #[.int .i64 (cR j).k,.int .i64 0,.slice A (cR j).ks.length c]) (by simp [results,results27,go_sem,d0,d1,d2]) rfl ⟨A,c,rfl,by omega,?_,(bT hb)⟩;exact (((hf.setCell (by simp;omega) _).setCell (by simp;omega) _).setCell (by simp;omega) _).mono (by omega)
theorem rV (m:Nat)(hm:m≤20)(w:World):Calls prog 8 #[.int .i64 m] w fun e w'=>∃A c,e = .returned (.tuple #[.agg #[.int .i64 (cR m).k,.int .i64 0,.slice A (cR m).ks.length c],.bool true])∧(cR m).ks.length≤9223372036854775807∧Rd w' A 0 (cR m).ks∧Bw w w':=by
 have q1:(decide ((0:Int)≤(m:Int)) && decide ((m:Int)≤20))=true:=by rw [decide_eq_true (by omega),decide_eq_true (by omega)];rfl
 go_enter func8,ntmps8;go_wp2_with (first
  | (go_at_call 27;refine (aCd m (by omega) _).mono ?_;rintro e w1 ⟨A,c,rfl,hl,hf,hb1⟩;have hZ:=(aC w 25 Zr rfl).keep hb1;obtain ⟨d0,d1,d2,e0,e1,e2⟩:=bW hZ;have g1:Bw w w1:=bQ bw1 hb1)
  | (go_at_call 26;refine (cX _ _ _ _).mono ?_;rw [q1];rintro e w' ⟨rfl,rfl⟩))
 refine bodyPost_ret (v:=.tuple #[.agg #[.int .i64 (cR m).k,.int .i64 0,.slice A (cR m).ks.length c],.bool true]) (by simp [results,results8,go_sem,d0,d1,d2]) rfl ⟨A,c,rfl,hl,?_,(bT g1)⟩;exact (((hf.setCell (by simp) _).setCell (by simp) _).setCell (by simp) _).rd
section
open Go.ChangeShapes Go.WideShapes Go.ChangeAt Go.RowKit
theorem zT {H:Type}{enc:TypeId × Value→H}{W:World}{base:Nat}{spare:Nat→Bool}{held:Bool}{r:Reach}{b0:Nat}{v:Value}{d:DataW H}{p:List MemPlace}(hv:Value.okWide prog W r b0 22 v)(h:DataW.Trod enc prog W base spare held 22 v d p) :
  ∃(xs:List Int) (A:Option Addr) (c:Nat),v = .slice A xs.length c∧xs.length≤9223372036854775807∧xs.length≤c∧RdY W A xs:=by
 obtain ⟨a,len,cap,rfl⟩:=Go.WideShapes.okWide_slice Tryz.underlying22 hv;obtain ⟨fuel,hf⟩:=h;have hmax:maxLen≤9223372036854775807:=by decide
 rcases open_ints Tryz.underlying22 Tryz.underlying5 (by kernel_rfl) hf with ⟨hcs,_⟩|⟨a',len',cap',zs,hcs,_,hl,hm,hz,_,hcell,hwf⟩
 ·injection hcs with hcs;injection hcs with e1 e2 e3;subst e1 e2 e3;exact ⟨[],none,0,rfl,by simp,by simp,fun j hj=>absurd hj (Nat.not_lt_zero _)⟩
 ·injection hcs with hcs;injection hcs with e1 e2 e3;subst e1 e2 e3;have hzl:len≤zs.length:=by rw [hz];split<;>omega
  refine ⟨zs.take len,some a',cap,by rw [List.length_take,Nat.min_eq_left hzl],by rw [List.length_take];omega,by rw [List.length_take];omega,fun j hj=>?_⟩;rw [List.length_take,Nat.min_eq_left hzl] at hj;have h1:=hcell j (by omega);have h00:=hcell 0 (by omega);obtain ⟨b,off,spot⟩:=a';have hspot:spot=none:=by
   have:=World.cell?_spot h00;simpa [Addr.add] using this
  subst hspot;have e:(⟨b,off,none⟩:Addr).add j=⟨b,off+j,none⟩:=by unfold Addr.add;split<;>simp_all
  rw [e,List.getD_eq_getElem?_getD,oE (by omega),Option.getD_some] at h1;have hw:=hwf zs[j] (iS _);have hw':(decide ((0:Int)≤zs[j]) && decide (zs[j]≤255))=true:=hw;simp only [Bool.and_eq_true,decide_eq_true_eq] at hw'
  exact ⟨b,off,rfl,by rw [h1,List.getElem_take],by rw [List.getElem_take];exact hw'.1,by rw [List.getElem_take];exact hw'.2⟩
section
variable {H:Type}{enc:TypeId × Value→H}{P:Program}
theorem aHc {f:Func}{s:ChangeSpec}{apart fresh handsOn again:Bool}{W W':World}{args:Array Value}{v:Value}{ds gs:List (DataW H)}{before pa pv:List MemPlace}
  (hW : DataW.Whole enc P f.params.toList s.vars apart W args.toList ds gs before)
  (hres : ∀ (b : Nat) (sp : Nat → Bool) (hd : Bool), DataW.TrodAll enc P W' b sp hd f.resultTypes.toList (v.resultList f.resultTypes.size) (s.fn H (ds ++ gs)).results [])
  (hargs : ∀ sp : Nat → Bool, (∀ p ∈ before, sp p.block = true) → DataW.TrodAll enc P W' 0 sp true f.params.toList args.toList (s.fn H (ds ++ gs)).args pa)
  (hvars : ∀ sp : Nat → Bool, (∀ p ∈ before, sp p.block = true) → DataW.TrodVars enc P W' sp s.vars (s.fn H (ds ++ gs)).vars pv)
  (hps : before = pa ++ pv) (hb : Bw W W')
  (hok : ∀ (j : Nat) (t : TypeId) (r : Value), f.resultTypes[j]? = some t → (v.resultList f.resultTypes.size)[j]? = some r → Value.okWide P W' .any 0 t r) :
  s.post enc P f apart fresh handsOn again W args v W':=by
 have hlt:∀p∈before,p.block<W.heap.size:=fun p hp=>hW.lt p hp
 have hold:∀p∈before,(fun b=>decide (b<W.heap.size)) p.block=true:=fun p hp=>by simpa using hlt p hp
 refine ⟨ds,gs,before,[],pa,pv,hW,hres _ _ _,hargs _ hold,hvars _ hold,World.keptBut_mono (fun p hp=>⟨hp,?_⟩) (hb.frame (·∈before)),fun _=>?_⟩
 ·rw [hps,List.mem_append] at hp;exact Or.inr hp
 ·obtain ⟨_,_,_,_,_,hz,hn⟩:=hW;refine ⟨hok,_,_,([]++pa)++pv,⟨[]++pa,pv,trodAll_append (hargs _ (fun _ _=>rfl)) (hres _ _ _),hvars _ (fun _ _=>rfl),rfl,?_,?_⟩,?_⟩
  ·intro b off hp;have hin:MemPlace.cell b off∈before:=by rw [hps];simpa using hp
   rw [hb.frozen (hlt _ hin)];exact hz b off hin
  ·intro ha;have:=hn ha;rw [hps] at this;simpa using this
  ·intro p hp _;rw [hps];simpa using hp
end
end
end Go.Proofs.YtajjhldcjikkpaaGreat
