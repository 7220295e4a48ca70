/- Parts of the proof. No condition. -/
import Derived.Test.YtjlaenhcemacdaaGreatK12
open Go.Proofs.Tryz
namespace Go.Proofs.YtjlaenhcemacdaaGreat
open Go.RowKit
set_option maxHeartbeats 8000000
set_option maxRecDepth 100000
set_option linter.unusedSimpArgs false
set_option linter.unusedVariables false
theorem aQt {w:Bb}{z:Nat}(hZ:Blk w z Zr):(∀t d b off i,shape d t=true->RdC w b off i t->RdPC (·≠z) w b off i t)/\(∀(ks:List Tm) d A i,(∀t,t∈ks->shape d t=true)->Rd w A i ks->RdP (·≠z) w A i ks):=by
 refine bA (λk n ks ih d b off i hs hr=>?_) (λd A i _ _=>RdP.nil) (λt ts h1 h2 d A i hs hr=>?_)
 ·obtain ⟨d,rfl⟩:∃d',d=d'+1:=by cases d with|zero=>simp [shape] at hs|succ d=>exact ⟨d,rfl⟩
  obtain ⟨ha,_,_,hk⟩:=(bH d k n ks).1 hs;obtain ⟨c1,c2,A,c,c3,hl,hr'⟩:=RdC.iff.1 hr;refine RdPC.iff.2 ⟨λe=>?_,c1,c2,A,c,c3,hl,ih d A 0 hk hr'⟩;subst e;have h0:k≠0:=by rintro rfl;have:aX 0 = -1:=rfl;omega
  rw [hZ.cell] at c1;generalize off+i*3=j at c1;rcases j with _|_|_|j
  ·simp at c1;exact h0 c1.symm
  ·simp at c1;exact h0 c1.symm
  ·simp at c1
  ·simp at c1
 ·obtain ⟨⟨b,off,e,hc⟩,hr'⟩:=Rd.cons_iff.1 hr;exact RdP.cons_iff.2 ⟨⟨b,off,e,h1 d b off i (hs t Ag) hc⟩,h2 d A (i+1) (λu hu=>hs u (by simp [hu])) hr'⟩
theorem bS {w:Bb}{z:Nat}{k n:Int}{ks:List Tm}{A:Ba}(hZ:Blk w z Zr)(hv:aE (.mk k n ks)=true)(hr:Rd w A 0 ks)(x y v:Value) :
  Rd (((w.setCell ⟨z,0,none⟩ x).setCell ⟨z,1,none⟩ y).setCell ⟨z,2,none⟩ v) A 0 ks:=by
 have hs:=((bH 29 k n ks).1 (bC hv)).2.2.2;exact (((((aQt hZ).2 ks 29 A 0 hs hr).setCell (a:=⟨z,0,none⟩) (λh=>h rfl) x).setCell (a:=⟨z,1,none⟩) (λh=>h rfl) y).setCell (a:=⟨z,2,none⟩) (λh=>h rfl) v).rd
def jH (w:Bb)(k n:Int)(ks:List Tm)(e:Ending)(w':Bb):Prop:=
 ∃A c,e = .returned (.tuple #[.agg (Ro k n A ks.length c),.int .i64 0])/\ks.length<=9223372036854775807/\Rd w' A 0 ks/\Bw w w'
theorem qG (x:Int)(w:Bb):Calls prog 137 #[.int .i64 x] w λe w'=>e = .returned (.agg (Ro 2 x none 0 0))/\Bw w w':=by
 go_enter func137,ntmps137;go_wp2_with fail;refine bodyPost_ret (v:=.agg (Ro 2 x none 0 0)) (by simp [results,results137,go_sem]) rfl ⟨rfl,?_⟩;exact bw1
theorem cP (k1 n1:Int)(s1:List Tm)(A1:Ba)(c1:Nat)(w:Bb)(hv:aE (.mk k1 n1 s1)=true)(hr:Rd w A1 0 s1) :
  Calls prog 99 #[.agg (Ro k1 n1 A1 s1.length c1),.bool true] w λe w'=>e = .returned (.tuple #[.agg (Ro k1 n1 A1 s1.length c1),.int .i64 0])/\Bw w w':=by
 have hz:=aH hv;have hv':=aD hv;clear hv;go_enter func99,ntmps99;go_wp2_with (go_at_call 58;refine (bB k1 n1 s1 A1 c1 _ Ac ((hr.alloc _).alloc _)).mono ?_;rw [hv'.out];rintro e w1 ⟨rfl,hb1⟩;have hX:=((aC w 32 (Ro k1 n1 A1 s1.length c1) rfl).alloc (.cells Zr 32)).keep hb1;have hZ:Blk w1 (w.heap.size+1) Zr:=(aC _ 32 _ Ag).keep hb1;have g1:Bw w w1:=bN bw2 hb1;obtain ⟨x0,x1,x2⟩:=hX.three;obtain ⟨d0,d1,d2,e0,e1,e2⟩:=bZ hZ);refine bodyPost_ret (v:=.tuple #[.agg (Ro k1 n1 A1 s1.length c1),.int .i64 0]) (by simp [results,results99,go_sem,d0,d1,d2]) rfl ⟨rfl,?_⟩;exact bV g1
theorem xQ {s o:Tm}{kind:Int}(h:sK s kind=some o):aE s=true/\(redI cA 200 s).1=some o/\(redI cA 200 s).2=0/\o.k=kind/\aE o=true:=by
 unfold sK at h;split at h
 ·rename_i hv;split at h
  ·rename_i o' c he;split at h
   ·rename_i hc;injection h with h;subst h;rw [he];exact ⟨hv,rfl,hc.1,hc.2,yB _ _ _ _ hv he⟩
   ·cases h
  ·cases h
 ·cases h
theorem mI (k1 n1:Int)(s1:List Tm)(A1:Ba)(c1:Nat)(kind n3:Int)(s3:List Tm)(w:Bb)(hs:sK (.mk k1 n1 s1) kind=some (.mk kind n3 s3))(hr:Rd w A1 0 s1) :
  Calls prog 107 #[.agg (Ro k1 n1 A1 s1.length c1),.int .i64 kind] w (jH w kind n3 s3):=by
 obtain ⟨hv,h1,h2,h3,h4⟩:=xQ hs;have hH:=aD (λ(w:Bb) (hr:Rd w A1 0 s1)=>(iF k1 n1 s1 A1 c1 200 w hv Ac hr).mono λe w' h=>sZ h (by rw [h1];rfl) h2);have h4':=aD h4;clear hs hv h1 h2 h3 h4;go_enter func107,ntmps107;go_wp2_with (go_at_call 51;refine (hH.out _ ((hr.alloc _).alloc _)).mono ?_;rintro e w1 ⟨A3,c3,rfl,hl3,r3,hb1⟩;have hZ:Blk w1 (w.heap.size+1) Zr:=(aC _ 32 _ Ag).keep hb1;have g1:Bw w w1:=bN bw2 hb1;obtain ⟨d0,d1,d2,e0,e1,e2,lz⟩:=dN hZ;have n1':w.heap.size+1≠w1.heap.size:=Ac);have y:=λ(o:Obj)=>(((((hZ.set_ 0 (.int .i64 kind)).set_ 1 (.int .i64 n3)).set_ 2 (.slice A3 s3.length c3)).alloc o:Blk _ _ (Ro kind n3 A3 s3.length c3))).three
 refine bodyPost_ret (v:=.tuple #[.agg (Ro kind n3 A3 s3.length c3),.int .i64 0]) (by simp [results,results107,go_sem,y]) rfl ⟨A3,c3,rfl,hl3,?_,?_⟩
 ·exact (bS hZ h4'.out r3 _ _ _).alloc _
 ·exact (bV g1).alloc (by simp [World.setCell];exact g1.size) _
theorem rD (k1 n1:Int)(s1:List Tm)(A1:Ba)(c1:Nat)(k2 n2:Int)(s2:List Tm)(A2:Ba)(c2:Nat)(w:Bb)(hs:aEl (.mk k1 n1 s1) (.mk k2 n2 s2)=true)(hr1:Rd w A1 0 s1)(hr2:Rd w A2 0 s2) :
  Calls prog 97 #[.agg (Ro k1 n1 A1 s1.length c1),.agg (Ro k2 n2 A2 s2.length c2)] w λe w'=>e = .returned (.int .i64 0)/\Bw w w':=by
 rw [aEl,Bool.and_eq_true,Bool.and_eq_true,beq_iff_eq] at hs;obtain ⟨⟨hv1,hv2⟩,hc⟩:=hs;have hC:=aD (λ(w:Bb) (hr1:Rd w A1 0 s1) (hr2:Rd w A2 0 s2)=>by have:=qN k1 n1 s1 A1 c1 k2 n2 s2 A2 c2 200 w Ac hv1 hv2 hr1 hr2;rwa [hc] at this);clear hv1 hv2 hc;go_enter func97,ntmps97;go_wp2_with (go_at_call 52;refine (hC.out _ ((hr1.alloc _).alloc _) ((hr2.alloc _).alloc _)).mono ?_;rintro e w1 ⟨rfl,hb1⟩);go_ret;exact ⟨rfl,bw2.trans (hb1.mono Ai)⟩
def Clo (fc:Nat)(ev:Array Value):Prop:=∃b2 b3,fc=116/\ev=#[.pointer (some ⟨b2,0,none⟩),.pointer (some ⟨b3,0,none⟩)]
def TyOk (fc:Nat)(ev:Array Value)(w:Bb)(ty:Nat->Option Tm):Prop:=Clo fc ev/\∀(i:Nat) (k n:Int) (ks:List Tm),i<4->ty i=some (.mk k n ks)->∀w',Bw w w'->∀args,args=#[.int .i64 i]++ev->
 Calls prog fc args w' (jH w' k n ks)
theorem TyOk.below {fc:Nat}{ev:Array Value}{w w':Bb}{ty:Nat->Option Tm}(h:TyOk fc ev w ty)(hb:Bw w w'):TyOk fc ev w' ty:=⟨h.1,λi k n ks hi ht w2 hw2=>h.2 i k n ks hi ht w2 (hb.trans (hw2.mono hb.size))⟩
theorem iN (C:Ba)(m cc:Nat)(k n:Int)(A:Ba)(la c fc:Nat)(ev:Array Value)(i:Nat)(hi:i<4)(kind n3:Int)(s3:List Tm)(ty:Nat->Option Tm)(w:Bb)(hs:fmS (ty i) kind=some (.mk kind n3 s3))(hT:TyOk fc ev w ty) :
  Calls prog 141 #[.agg #[.slice C m cc,.int .i64 k,.int .i64 n,.slice A la c,.func (.func fc) #[] ev],.int .i64 i,.int .i64 kind] w (jH w kind n3 s3):=by
 obtain ⟨b2,b3,rfl,rfl⟩:=hT.1;all_goals
  obtain ⟨k1,n1,s1,h1,h2⟩:∃k1 n1 s1,ty i=some (.mk k1 n1 s1)/\sK (.mk k1 n1 s1) kind=some (.mk kind n3 s3):=by
   cases h:ty i with
   | none=>rw [h] at hs;cases hs
   | some s=>rw [h] at hs;obtain ⟨a,b,l⟩:=s;exact ⟨a,b,l,rfl,hs⟩
  have hv3:=aD (xQ h2).2.2.2.2;have h1':=aD h1;have h2':=aD h2;clear hs h1 h2;go_enter func141,ntmps141;go_wp2_with (first
   | (go_at_call 107;have _t:=tok1;refine (mI k1 n1 s1 A1 c1 kind n3 s3 _ h2'.out (r1.alloc _)).mono ?_;rintro e w2 ⟨A3,c3,rfl,hl3,r3,hb2⟩;have hZ2:=(hZ.alloc (.cells (Ro k1 n1 A1 s1.length c1) 32)).keep hb2;have g2:=(g1.alloc g1.size (.cells (Ro k1 n1 A1 s1.length c1) 32)).trans (hb2.mono (by have:=g1.size;simp;omega));obtain ⟨d0,d1,d2,e0,e1,e2⟩:=bZ hZ2)
   | (go_at_call 116;refine (hT.2 i k1 n1 s1 hi h1'.out _ bw2 _ (by rfl)).mono ?_;rintro e w1 ⟨A1,c1,rfl,hl1,r1,hb1⟩;have hZ:Blk w1 (w.heap.size+1) Zr:=(aC _ 32 _ Ag).keep hb1;have g1:Bw w w1:=bN bw2 hb1;have lz:=hZ.lt;have tok1:=trivial))
  refine bodyPost_ret (v:=.tuple #[.agg (Ro kind n3 A3 s3.length c3),.int .i64 0]) (by simp [results,results141,go_sem,d0,d1,d2]) rfl ⟨A3,c3,rfl,hl3,?_,?_⟩
  ·exact bS hZ2 hv3.out r3 _ _ _
  ·exact bV g2
theorem oP {o:Option Tm}{kind:Int}{t:Tm}(h:fmS o kind=some t):∃n3 s3,t = .mk kind n3 s3/\aE (.mk kind n3 s3)=true:=by
 cases o with
 | none=>cases h
 | some s=>
  obtain ⟨h1,h2,h3,h4,h5⟩:=xQ h;obtain ⟨a,b,l⟩:=t;obtain rfl:a=kind:=h4;exact ⟨b,l,rfl,h5⟩
theorem aQw {o:Option Tm}{l:Int}(h:lvS o=some l):∃s3,fmS o 2=some (.mk 2 l s3):=by
 cases o with
 | none=>cases h
 | some s=>
  rw [lvS] at h;cases hh:sK s 2 with
  | none=>rw [hh] at h;cases h
  | some t=>
   rw [hh] at h;obtain ⟨n3,s3,rfl,_⟩:=oP (o:=some s) hh;injection h with h;obtain rfl:n3=l:=h;exact ⟨s3,hh⟩
theorem jR (C:Ba)(m cc:Nat)(k n:Int)(A:Ba)(la c fc:Nat)(ev:Array Value)(i:Nat)(hi:i<4)(l:Int)(ty:Nat->Option Tm)(w:Bb)(hs:lvS (ty i)=some l)(hT:TyOk fc ev w ty) :
  Calls prog 155 #[.agg #[.slice C m cc,.int .i64 k,.int .i64 n,.slice A la c,.func (.func fc) #[] ev],.int .i64 i] w λe w'=>e = .returned (.tuple #[.int .i64 l,.int .i64 0])/\Bw w w':=by
 obtain ⟨s3,h1⟩:=aQw hs;have h1':=aD h1;clear hs h1;go_enter func155,ntmps155;go_wp2_with (go_at_call 141;refine (iN C m cc k n A la c fc ev i hi 2 l s3 ty _ h1'.out (hT.below bw1)).mono ?_;rintro e w1 ⟨A3,c3,rfl,hl3,r3,hb1⟩;have g1:Bw w w1:=bN bw1 hb1);go_ret2;exact ⟨rfl,g1.alloc g1.size _⟩
theorem aNr {o:Option Tm}{want:Tm}(h:aDx o want=true):∃k1 n1 s1,o=some (.mk k1 n1 s1)/\aEl (.mk k1 n1 s1) want=true:=by
 cases o with
 | none=>cases h
 | some s=>obtain ⟨a,b,l⟩:=s;exact ⟨a,b,l,rfl,h⟩
theorem rT (C:Ba)(m cc:Nat)(k n:Int)(A:Ba)(la c fc:Nat)(ev:Array Value)(i:Nat)(hi:i<4)(k2 n2:Int)(s2:List Tm)(A2:Ba)(c2:Nat)(ty:Nat->Option Tm)(w:Bb)(hs:aDx (ty i) (.mk k2 n2 s2)=true)(hT:TyOk fc ev w ty)(hr2:Rd w A2 0 s2) :
  Calls prog 138 #[.agg #[.slice C m cc,.int .i64 k,.int .i64 n,.slice A la c,.func (.func fc) #[] ev],.int .i64 i,.agg (Ro k2 n2 A2 s2.length c2)] w λe w'=>e = .returned (.int .i64 0)/\Bw w w':=by
 obtain ⟨b2,b3,rfl,rfl⟩:=hT.1;all_goals
  obtain ⟨k1,n1,s1,h1,h2⟩:=aNr hs;have h1':=aD h1;have h2':=aD h2;clear hs h1 h2;go_enter func138,ntmps138;go_wp2_with (first
   | (go_at_call 97;have _t:=tok1;refine (rD k1 n1 s1 A1 c1 k2 n2 s2 A2 c2 _ h2'.out (r1.alloc _) ((hr2.below g1).alloc _)).mono ?_;rintro e w2 ⟨rfl,hb2⟩;have g2:=(g1.alloc g1.size (.cells (Ro k1 n1 A1 s1.length c1) 32)).trans (hb2.mono (by have:=g1.size;simp;omega)))
   | (go_at_call 116;refine (hT.2 i k1 n1 s1 hi h1'.out _ bw2 _ (by rfl)).mono ?_;rintro e w1 ⟨A1,c1,rfl,hl1,r1,hb1⟩;have hZ:Blk w1 (w.heap.size+1) (Ro k2 n2 A2 s2.length c2):=(aC _ 32 _ Ag).keep hb1;have g1:Bw w w1:=bN bw2 hb1;have lz:=hZ.lt;obtain ⟨d0,d1,d2⟩:=hZ.three;have tok1:=trivial))
  go_ret;exact ⟨rfl,g2⟩
theorem jC (C:Ba)(m cc:Nat)(k n:Int)(A:Ba)(la c fc:Nat)(ev:Array Value)(i:Nat)(hi:i<4)(k2 n2:Int)(s2:List Tm)(A2:Ba)(c2:Nat)(ty:Nat->Option Tm)(w:Bb)(hs:aDx (ty i) (.mk k2 n2 s2)=true)(hT:TyOk fc ev w ty)(hr2:Rd w A2 0 s2) :
  Calls prog 142 #[.agg #[.slice C m cc,.int .i64 k,.int .i64 n,.slice A la c,.func (.func fc) #[] ev],.int .i64 i,.agg (Ro k2 n2 A2 s2.length c2),.int .i64 0] w λe w'=>e = .returned (.int .i64 0)/\Bw w w':=by
 have hs':=aD hs;clear hs;go_enter func142,ntmps142;go_wp2_with (go_at_call 138;refine (rT C m cc k n A la c fc ev i hi k2 n2 s2 A2 c2 ty _ hs'.out (hT.below bw2) ((hr2.alloc _).alloc _)).mono ?_;rintro e w1 ⟨rfl,hb1⟩;have g1:Bw w w1:=bN bw2 hb1);go_ret;exact ⟨rfl,g1⟩
theorem aPp {o:Option Tm}{t:Tm}(h:aGm o t=true):∃n3 ka na sa kb nb sb ne se,fmS o 3=some (.mk 3 n3 [.mk ka na sa,.mk kb nb sb])/\aEl (.mk ka na sa) t=true/\sK (.mk kb nb sb) 2=some (.mk 2 ne se):=by
 unfold aGm at h;split at h
 ·rename_i s hs;obtain ⟨n3,s3,rfl,hv⟩:=oP hs;obtain ⟨a,b,rfl⟩:=kP (l:=s3) (by have:=(bD hv).1;have h3:aX 3=2:=rfl;omega);obtain ⟨ka,na,sa⟩:=a;obtain ⟨kb,nb,sb⟩:=b;rw [Bool.and_eq_true] at h;obtain ⟨t2,ht2⟩:=Option.isSome_iff_exists.1 h.2;obtain ⟨ne,se,rfl,_⟩:=oP (o:=some (.mk kb nb sb)) ht2;exact ⟨n3,ka,na,sa,kb,nb,sb,ne,se,hs,h.1,ht2⟩
 ·cases h
theorem mH (C:Ba)(m cc:Nat)(k n:Int)(A:Ba)(la c fc:Nat)(ev:Array Value)(i:Nat)(hi:i<4)(k2 n2:Int)(s2:List Tm)(A2:Ba)(c2:Nat)(ty:Nat->Option Tm)(w:Bb)(hs:aGm (ty i) (.mk k2 n2 s2)=true)(hT:TyOk fc ev w ty)(hr2:Rd w A2 0 s2) :
  Calls prog 156 #[.agg #[.slice C m cc,.int .i64 k,.int .i64 n,.slice A la c,.func (.func fc) #[] ev],.int .i64 i,.agg (Ro k2 n2 A2 s2.length c2)] w λe w'=>e = .returned (.int .i64 0)/\Bw w w':=by
 obtain ⟨n3,ka,na,sa,kb,nb,sb,ne,se,h1,h2,h3⟩:=aPp hs;have h1':=aD h1;have h2':=aD h2;have h3':=aD h3;clear hs h1 h2 h3;go_enter func156,ntmps156;go_upto_region 4 with (go_at_call 141;refine (iN C m cc k n A la c fc ev i hi 3 n3 [.mk ka na sa,.mk kb nb sb] ty _ h1'.out (hT.below bw2)).mono ?_;rintro e w1 ⟨A3,c3,rfl,hl3,r3,hb1⟩;have hY:Blk w1 (w.heap.size+1) (Ro k2 n2 A2 s2.length c2):=(aC _ 32 _ Ag).keep hb1;have g1:Bw w w1:=bN bw2 hb1;have r2:=hr2.below g1)
 refine aNy (show Blk _ w1.heap.size (Ro 3 n3 A3 2 c3) from (aC _ 32 _ rfl)) (hY.alloc _) (g1.alloc g1.size _) ?_;intro wx hT7x hYx gx hwx;have r3x:Rd wx A3 0 [.mk ka na sa,.mk kb nb sb]:=by rw [hwx];exact r3.alloc _
 have r2x:Rd wx A2 0 s2:=by rw [hwx];exact r2.alloc _
 clear hwx;obtain ⟨ba,oa,Aa,ca,rfl,i1,i2,i3,hla,ra⟩:=mU r3x;obtain ⟨Ab,cb,j1,j2,j3,hlb,rb⟩:=sB r3x;simp only [Nat.zero_mul,Nat.add_zero,Nat.one_mul,Nat.reduceMul] at i1 i2 i3 j1 j2 j3;obtain ⟨u0,u1,u2⟩:=fW hT7x;obtain ⟨v0,v1,v2⟩:=fW hYx;obtain ⟨y0,y1,y2⟩:=pG i1 i2 i3;refine eK wx [6] [0,1,2,3,4] 7 2 (lT:=[_,_,_,_,_]) ?_;intro q0 bq0;refine bU (aD ?_);refine aZ 5 ?_
 ·go_wp2_with (go_at_call 97;refine (rD ka na sa Aa ca k2 n2 s2 A2 c2 _ h2'.out (ra.below bq0) (r2x.below bq0)).mono ?_;rintro e q1 ⟨rfl,hbq1⟩);refine aV bq0 hbq1 ?_;intro bq1 lq1;refine cK [6] (lB:=[_]) ?_;have hT7:=hT7x.keep bq1;have gz:=gx.trans (bq1.mono gx.size);have rbz:=rb.below bq1;obtain ⟨p0,p1,p2⟩:=hT7.three;have lp:=hT7.lt;have z0:=(cM bq1) _ _ j1;have z1:=(cM bq1) _ _ j2;have z2:=(cM bq1) _ _ j3;go_wp2_with (go_at_call 107;refine (mI kb nb sb Ab cb 2 ne se _ h3'.out rbz).mono ?_;rintro e w9 ⟨A9,c9,rfl,hl9,r9,hb9⟩);go_ret;exact ⟨rfl,gz.trans (hb9.mono gz.size)⟩
def aXs (w:Bb)(k n:Int)(ks:List Tm)(e:Ending)(w':Bb):Prop:=
 ∃A c,e = .returned (.agg (Ro k n A ks.length c))/\ks.length<=9223372036854775807/\Rd w' A 0 ks/\Bw w w'
theorem pT (k1 n1:Int)(ka na:Int)(sa:List Tm)(ts:List Tm)(A1:Ba)(c1:Nat)(w:Bb)(hr:Rd w A1 0 (.mk ka na sa::ts))(hl:(Tm.mk ka na sa::ts).length<=9223372036854775807) :
  Calls prog 143 #[.agg (Ro k1 n1 A1 (ts.length+1) c1)] w (aXs w ka na sa):=by
 obtain ⟨ba,oa,Aa,ca,rfl,i1,i2,i3,hla,ra⟩:=mU hr;simp only [Nat.zero_mul,Nat.add_zero] at i1 i2 i3;have hb:=kF _ _ i1;have q:(((ts.length:Nat):Int)+1==0)=false:=by simp;omega
 have q2:(0:Int)<((ts.length:Nat):Int)+1:=by omega
 go_enter func143,ntmps143;go_wp2_with fail;refine bodyPost_ret (v:=.agg (Ro ka na Aa sa.length ca)) (by simp [results,results143,go_sem]) rfl ⟨Aa,ca,rfl,hla,(ra.alloc _).alloc _,?_⟩;exact bw2
theorem aGk (C:Ba)(m cc:Nat)(k n:Int)(A:Ba)(c fc:Nat)(ev:Array Value)(la:Nat)(i j:Int)(ty:Nat->Option Tm)(w:Bb)(h1:lvS (ty 0)=some i)(h2:lvS (ty 1)=some j)(hT:TyOk fc ev w ty) :
  Calls prog 139 #[.agg #[.slice C m cc,.int .i64 k,.int .i64 n,.slice A la c,.func (.func fc) #[] ev]] w (jH w 2 (if i<j then j else i) []):=by
 obtain ⟨q,hq⟩:∃q,q=(if i<j then j else i):=⟨_,rfl⟩;have hmax:∀w',(Builtin.max_ #[3,3] 3 #[.int .i64 i,.int .i64 j]).run prog w' = .ok (.int .i64 q) w':=λw'=>by rw [hq];first|(simp [go_sem];done)|(simp [go_sem];split<;>omega)
 rw [<- hq];replace h1:=aD h1;replace h2:=aD h2;clear hq;go_enter func139,ntmps139;go_wp2_with (first
  | (go_at_call 137;have _t:=tok2;refine (qG _ _).mono ?_;rintro e w3 ⟨rfl,hb3⟩;have hZ3:=hZ2.keep hb3;have g3:=g2.trans (hb3.mono g2.size);obtain ⟨d0,d1,d2,e0,e1,e2⟩:=bZ hZ3)
  | (go_at_call 155;have _t:=tok1;refine (jR C m cc k n A la c fc ev 1 Ac j ty _ h2.out (hT.below g1)).mono ?_;rintro e w2 ⟨rfl,hb2⟩;have hZ2:=hZ1.keep hb2;have g2:=g1.trans (hb2.mono g1.size);have tok2:=trivial)
  | (go_at_call 155;refine (jR C m cc k n A la c fc ev 0 Ac i ty _ h1.out (hT.below bw2)).mono ?_;rintro e w1 ⟨rfl,hb1⟩;have hZ1:Blk w1 (w.heap.size+1) Zr:=(aC _ 32 _ Ag).keep hb1;have hJ1:=((aC w 105 #[.slice C m cc,.int .i64 k,.int .i64 n,.slice A la c,.func (.func fc) #[] ev] rfl).alloc (.cells Zr 32)).keep hb1;have g1:Bw w w1:=bN bw2 hb1;have j0:=hJ1.at_ (i:=0) rfl;have j1:=hJ1.at_ (i:=1) rfl;have j2:=hJ1.at_ (i:=2) rfl;have j3:=hJ1.at_ (i:=3) rfl;have j4:=hJ1.at_ (i:=4) rfl;have tok1:=trivial))
 refine bodyPost_ret (v:=.tuple #[.agg (Ro 2 q none 0 0),.int .i64 0]) (by simp [results,results139,go_sem,d0,d1,d2]) rfl ⟨none,0,rfl,by simp,Rd.nil,?_⟩;exact bV g3
end Go.Proofs.YtjlaenhcemacdaaGreat
