/- Parts of the proof. No condition. -/
import Derived.Test.YtddkehjdjfmhmaaGreatK9
open Go.Proofs.Tryz
namespace Go.Proofs.YtddkehjdjfmhmaaGreat
open Go.RowKit
set_option maxHeartbeats 4000000
set_option maxRecDepth 100000
set_option linter.unusedSimpArgs false
set_option linter.unusedVariables false
theorem iJ {s:ByteArray}{i:Nat}{c:UInt8}{bs:List UInt8}(h:Has s i (c::bs)){z:Nat}(hz:c.toNat=z):∃hi:i<s.size,(s[i]'hi).toNat=z:=by
 obtain ⟨⟨hi,hc⟩,_⟩:=h.cons;exact ⟨hi,by rw [hc,hz]⟩
theorem ParsedT.cast {w:World}{k n:Int}{ks:List Tm}{j j':Nat}{e:Ending}{w':World}(h:ParsedT w k n ks j e w')(hj:j=j'):ParsedT w k n ks j' e w':=hj▸h
section
variable (s:ByteArray)(i:Nat)(D:Int)(w:World)
theorem aGo (n:Int)(c:UInt8)(h:0≤n∧n≤9∧(c.toNat:Int)=48+n)(hs:s.size≤1000000)(hh:Has s i [35,c])(hn:Nd s (i+2))(hD:1≤D)(hD2:D≤1000) :
  Calls prog 109 #[.string s,.int .i64 i,.int .i64 D] w (ParsedT w 1 n [] (i+2)):=by
 obtain ⟨hi,he⟩:=iJ hh (z:=35) rfl;obtain ⟨_,hh2⟩:=hh.cons;obtain ⟨hi2,he2⟩:=iJ hh2 (z:=c.toNat) rfl;have hnum:=aD (fun w=>rJ s (i+1) c.toNat 2 w (.inr rfl) hs hi2 he2 (by omega) (by omega) (fun _=>hn));have hcn:Hid ((c.toNat:Int) - 48=n):=aD (by omega);clear hh hh2 he2 hn;go_enter func109,ntmps109;go_wp2_with (first
  | (go_at_call 44;refine (bH _ _ _).mono ?_;rintro e w1 ⟨rfl,hb1⟩;have hZ:=(aC w 25 Zr rfl).keep hb1;have d0:=hZ.at_ (i:=0) rfl;have d1:=hZ.at_ (i:=1) rfl;have d2:=hZ.at_ (i:=2) rfl;obtain ⟨e0,e1,e2⟩:=kS hZ;have g1:Bw w w1:=bW bw1 hb1)
  | (go_at_call 127;refine (hnum.out _).mono ?_;rintro e w9 ⟨rfl,rfl⟩;rw [hcn.out]))
 refine bodyPost_ret (v:=.tuple #[.agg (Ro 1 n none 0 0),.int .i64 ((i+2:Nat):Int)]) (by simp [results,results109,go_sem,d0,d1,d2];omega) rfl ⟨i+2,none,0,rfl,rfl,by simp,Fresh.nil,(bV g1)⟩
theorem aCq (n:Int)(c:UInt8)(h:0≤n∧n≤3∧(c.toNat:Int)=48+n)(hs:s.size≤1000000)(hh:Has s i [42,c])(hn:Nd s (i+2))(hD:1≤D)(hD2:D≤1000) :
  Calls prog 109 #[.string s,.int .i64 i,.int .i64 D] w (ParsedT w 2 n [] (i+2)):=by
 obtain ⟨hi,he⟩:=iJ hh (z:=42) rfl;obtain ⟨_,hh2⟩:=hh.cons;obtain ⟨hi2,he2⟩:=iJ hh2 (z:=c.toNat) rfl;have hnum:=aD (fun w=>rJ s (i+1) c.toNat 1 w (.inl rfl) hs hi2 he2 (by omega) (by omega) (fun h=>absurd h (by decide)));have hcn:Hid ((c.toNat:Int) - 48=n):=aD (by omega);clear hh hh2 he2 hn;go_enter func109,ntmps109;go_wp2_with (first
  | (go_at_call 44;refine (bH _ _ _).mono ?_;rintro e w1 ⟨rfl,hb1⟩;have hZ:=(aC w 25 Zr rfl).keep hb1;have d0:=hZ.at_ (i:=0) rfl;have d1:=hZ.at_ (i:=1) rfl;have d2:=hZ.at_ (i:=2) rfl;obtain ⟨e0,e1,e2⟩:=kS hZ;have g1:Bw w w1:=bW bw1 hb1)
  | (go_at_call 127;refine (hnum.out _).mono ?_;rintro e w9 ⟨rfl,rfl⟩;rw [hcn.out]))
 refine bodyPost_ret (v:=.tuple #[.agg (Ro 2 n none 0 0),.int .i64 ((i+2:Nat):Int)]) (by simp [results,results109,go_sem,d0,d1,d2];omega) rfl ⟨i+2,none,0,rfl,rfl,by simp,Fresh.nil,(bV g1)⟩
theorem aHr (hs:s.size≤1000000)(hh:Has s i [78])(hD:1≤D)(hD2:D≤1000) :
  Calls prog 109 #[.string s,.int .i64 i,.int .i64 D] w (ParsedT w 6 0 [] (i+1)):=by
 obtain ⟨hi,he⟩:=iJ hh (z:=78) rfl;clear hh;go_enter func109,ntmps109;go_wp2_with (go_at_call 44;refine (bH _ _ _).mono ?_;rintro e w1 ⟨rfl,hb1⟩;have hZ:=(aC w 25 Zr rfl).keep hb1;have d0:=hZ.at_ (i:=0) rfl;have d1:=hZ.at_ (i:=1) rfl;have d2:=hZ.at_ (i:=2) rfl;obtain ⟨e0,e1,e2⟩:=kS hZ;have g1:Bw w w1:=bW bw1 hb1)
 refine bodyPost_ret (v:=.tuple #[.agg (Ro 6 0 none 0 0),.int .i64 ((i+1:Nat):Int)]) (by simp [results,results109,go_sem,d0,d1,d2]) rfl ⟨i+1,none,0,rfl,rfl,by simp,Fresh.nil,(bV g1)⟩
theorem aCa (hs:s.size≤1000000)(hh:Has s i [48])(hD:1≤D)(hD2:D≤1000) :
  Calls prog 109 #[.string s,.int .i64 i,.int .i64 D] w (ParsedT w 7 0 [] (i+1)):=by
 obtain ⟨hi,he⟩:=iJ hh (z:=48) rfl;clear hh;go_enter func109,ntmps109;go_wp2_with (go_at_call 44;refine (bH _ _ _).mono ?_;rintro e w1 ⟨rfl,hb1⟩;have hZ:=(aC w 25 Zr rfl).keep hb1;have d0:=hZ.at_ (i:=0) rfl;have d1:=hZ.at_ (i:=1) rfl;have d2:=hZ.at_ (i:=2) rfl;obtain ⟨e0,e1,e2⟩:=kS hZ;have g1:Bw w w1:=bW bw1 hb1)
 refine bodyPost_ret (v:=.tuple #[.agg (Ro 7 0 none 0 0),.int .i64 ((i+1:Nat):Int)]) (by simp [results,results109,go_sem,d0,d1,d2]) rfl ⟨i+1,none,0,rfl,rfl,by simp,Fresh.nil,(bV g1)⟩
theorem aFv (z j:Nat)(k:Int)(ks:List Tm)(hz:z=43∨z=33∨z=94∨z=95)(hs:s.size≤1000000)(hi:i<s.size)(he:(s[i]'hi).toNat=z)(hD:1≤D)(hD2:D≤1000)(hl:ks.length≤9223372036854775807)
  (hp : ∀ w (I D' : Int), I = (i : Int) → D' = D → Calls prog 128 #[.string s, .int .i64 I, .int .i64 D'] w (ParsedT w k 0 ks j)) :
  Calls prog 109 #[.string s,.int .i64 i,.int .i64 D] w (ParsedT w k 0 ks j):=by
 have hp':=aD hp;clear hp;rcases hz with rfl|rfl|rfl|rfl
 all_goals
  go_enter func109,ntmps109;go_wp2_with (go_at_call 128;refine (hp'.out _ _ _ (by simp) rfl).mono ?_;rintro e w1 ⟨m1,A1,c1,hm1,rfl,hl1,hf1,hb1⟩;have hm1':=aD hm1;clear hm1;have hZ:=(aC w 25 Zr rfl).keep hb1;have d0:=hZ.at_ (i:=0) rfl;have d1:=hZ.at_ (i:=1) rfl;have d2:=hZ.at_ (i:=2) rfl;obtain ⟨e0,e1,e2⟩:=kS hZ;have g1:Bw w w1:=bW bw1 hb1)
  refine bodyPost_ret (v:=.tuple #[.agg (Ro k 0 A1 ks.length c1),.int .i64 m1]) (by simp [results,results109,go_sem,d0,d1,d2]) rfl ⟨m1,A1,c1,hm1'.out,rfl,hl1,?_,(bV g1)⟩;exact (mW hf1).mono (by simp)
theorem aHq (z j:Nat)(k:Int)(ks:List Tm)(hz:z=40∨z=40)(hs:s.size≤1000000)(hi:i<s.size)(he:(s[i]'hi).toNat=z)(hD:1≤D)(hD2:D≤1000)(hl:ks.length≤9223372036854775807)
  (hp : ∀ w (I D' : Int), I = (i + 1 : Nat) → D' = D - 1 → Calls prog 129 #[.string s, .int .i64 I, .int .i64 D'] w (ParsedT w k 0 ks j)) :
  Calls prog 109 #[.string s,.int .i64 i,.int .i64 D] w (ParsedT w k 0 ks j):=by
 have hp':=aD hp;clear hp;rcases hz with rfl|rfl
 all_goals
  go_enter func109,ntmps109;go_wp2_with (go_at_call 129;refine (hp'.out _ _ _ (by simp) rfl).mono ?_;rintro e w1 ⟨m1,A1,c1,hm1,rfl,hl1,hf1,hb1⟩;have hm1':=aD hm1;clear hm1;have hZ:=(aC w 25 Zr rfl).keep hb1;have d0:=hZ.at_ (i:=0) rfl;have d1:=hZ.at_ (i:=1) rfl;have d2:=hZ.at_ (i:=2) rfl;obtain ⟨e0,e1,e2⟩:=kS hZ;have g1:Bw w w1:=bW bw1 hb1)
  refine bodyPost_ret (v:=.tuple #[.agg (Ro k 0 A1 ks.length c1),.int .i64 m1]) (by simp [results,results109,go_sem,d0,d1,d2]) rfl ⟨m1,A1,c1,hm1'.out,rfl,hl1,?_,(bV g1)⟩;exact (mW hf1).mono (by simp)
theorem aGt (z j:Nat)(k:Int)(ks:List Tm)(hz:z=60∨z=123∨z=124∨z=64)(hs:s.size≤1000000)(hi:i<s.size)(he:(s[i]'hi).toNat=z)(hD:1≤D)(hD2:D≤1000)(hl:ks.length≤9223372036854775807)
  (hp : ∀ w (I D' : Int), I = (i : Int) → D' = D → Calls prog 130 #[.string s, .int .i64 I, .int .i64 D'] w (ParsedT w k 0 ks j)) :
  Calls prog 109 #[.string s,.int .i64 i,.int .i64 D] w (ParsedT w k 0 ks j):=by
 have hp':=aD hp;clear hp;rcases hz with rfl|rfl|rfl|rfl
 all_goals
  go_enter func109,ntmps109;go_wp2_with (go_at_call 130;refine (hp'.out _ _ _ (by simp) rfl).mono ?_;rintro e w1 ⟨m1,A1,c1,hm1,rfl,hl1,hf1,hb1⟩;have hm1':=aD hm1;clear hm1;have hZ:=(aC w 25 Zr rfl).keep hb1;have d0:=hZ.at_ (i:=0) rfl;have d1:=hZ.at_ (i:=1) rfl;have d2:=hZ.at_ (i:=2) rfl;obtain ⟨e0,e1,e2⟩:=kS hZ;have g1:Bw w w1:=bW bw1 hb1)
  refine bodyPost_ret (v:=.tuple #[.agg (Ro k 0 A1 ks.length c1),.int .i64 m1]) (by simp [results,results109,go_sem,d0,d1,d2]) rfl ⟨m1,A1,c1,hm1'.out,rfl,hl1,?_,(bV g1)⟩;exact (mW hf1).mono (by simp)
theorem aFl (j1 j2:Nat)(k1 n1:Int)(ks1:List Tm)(k2 n2:Int)(ks2:List Tm)(hs:s.size≤1000000)(hi:i<s.size)(he:(s[i]'hi).toNat=91)(hi1:j1<s.size)(he1:(s[j1]'hi1).toNat=93)(hD:1≤D)(hD2:D≤1000)
  (hp1 : ∀ w (I D' : Int), I = (i + 1 : Nat) → D' = D - 1 → Calls prog 109 #[.string s, .int .i64 I, .int .i64 D'] w (ParsedT w k1 n1 ks1 j1)) (hp2 : ∀ w (I D' : Int), I = (j1 + 1 : Nat) → D' = D - 1 → Calls prog 109 #[.string s, .int .i64 I, .int .i64 D'] w (ParsedT w k2 n2 ks2 j2)) :
  Calls prog 109 #[.string s,.int .i64 i,.int .i64 D] w (ParsedT w 4 0 [.mk k1 n1 ks1,.mk k2 n2 ks2] j2):=by
 have hpar1:=aD hp1;have hpar2:=aD hp2;clear hp1 hp2;go_enter func109,ntmps109;go_wp2_with (first
  | (go_at_call 73;refine (pS (B:=w.heap.size+1) (us:=[.mk k1 n1 ks1,.mk k2 n2 ks2]) _ (by simp;omega) ((hO2.alloc _).alloc _) hnd hge (by simp) _ 2 (aC _ 25 _ (by simp))).mono ?_;rintro e w4 ⟨A4,c4,rfl,hf4,hb4⟩;replace hZ:=((hZ.alloc _).alloc _).keep hb4;have d0:=hZ.at_ (i:=0) rfl;have d1:=hZ.at_ (i:=1) rfl;have d2:=hZ.at_ (i:=2) rfl;obtain ⟨e0,e1,e2⟩:=kS hZ;have g4:Bw w w4:=((g3.alloc (by omega) _).alloc (by simp;omega) _).trans (hb4.mono (by simp;omega)))
  | (go_at_call 109;have _t:=tok;refine (hpar2.out _ _ _ (by simp) rfl).mono ?_;rintro e w3 ⟨m2,A2,c2,hm2,rfl,hl2,hf2,hb2⟩;subst hm2;clear tok;obtain ⟨fp,hO2,hnd,hge⟩:=(hf1.alloc _).node2 hb2 hf2 (by simp;omega) hl1 hl2 k1 n1 k2 n2 c1 c2;replace hZ:=(hZ.alloc _).keep hb2;have hX1:=(aC w1 25 (Ro k1 n1 A1 ks1.length c1) rfl).keep hb2;have x0:=hX1.at_ (i:=0) rfl;have x1:=hX1.at_ (i:=1) rfl;have x2:=hX1.at_ (i:=2) rfl;have lx:=hX1.lt;have lz:=hZ.lt;have g3:Bw w w3:=(g1.alloc (by omega) _).trans (hb2.mono (by simp;omega));have s3:=g3.size;have s13:w1.heap.size+1≤w3.heap.size:=(by have:=hb2.size;simpa using this))
  | (go_at_call 109;refine (hpar1.out _ _ _ (by simp) rfl).mono ?_;rintro e w1 ⟨m,A1,c1,hm,rfl,hl1,hf1,hb1⟩;subst hm;have tok:True:=trivial;replace hf1:=hf1.mono (B':=w.heap.size+1) (by simp);have hZ:=(aC w 25 Zr rfl).keep hb1;have g1:Bw w w1:=bW bw1 hb1;have s1:=g1.size;have s1':=hZ.lt))
 refine bodyPost_ret (v:=_) ?_ rfl ⟨m2,A4,c4,rfl,rfl,by simp,?_,(bV g4)⟩
 ·simp [results,results109,go_sem,d0,d1,d2]
 ·exact (mW hf4).mono (by omega)
end
theorem aGq {d:Nat}{t:Tm}{b:List UInt8}(h:Tx d t b):∀(k n:Int) (ks:List Tm),t = .mk k n ks→oI k n ks b d:=by
 induction h with
 | var d n c h=>rintro k' n' ks' ⟨⟩ s i I D w hs rfl hh hn hD hD2;exact aGo s i D w n c h hs hh hn (by omega) hD2
 | sort d n c h=>rintro k' n' ks' ⟨⟩ s i I D w hs rfl hh hn hD hD2;exact aCq s i D w n c h hs hh hn (by omega) hD2
 | nat d=>rintro k' n' ks' ⟨⟩ s i I D w hs rfl hh hn hD hD2;exact aHr s i D w hs hh (by omega) hD2
 | zero d=>rintro k' n' ks' ⟨⟩ s i I D w hs rfl hh hn hD hD2;exact aCa s i D w hs hh (by omega) hD2
 | pre d k c t b h ht ih=>
  rintro k' n' ks' ⟨⟩ s i I D w hs rfl hh hn hD hD2;obtain ⟨k1,n1,ks1⟩:=t;obtain ⟨hi,he⟩:=iJ hh (z:=c.toNat) rfl;have hz:c.toNat=43∨c.toNat=33∨c.toNat=94∨c.toNat=95:=by rcases h with ⟨_,rfl⟩|⟨_,rfl⟩|⟨_,rfl⟩|⟨_,rfl⟩<;>decide
  rw [List.length_cons] at hn⊢;exact aFv s i D w _ _ k _ hz hs hi he (by omega) hD2 (by simp) fun w I D' hI hD'=>by
   subst hD';have:=aDo h (ih k1 n1 ks1 rfl) s i I D' w hs hI hh (by rw [show i+1+b.length=i+(b.length+1) by omega];exact hn) (by omega) hD2;rwa [show i+1+b.length=i+(b.length+1) by omega] at this
 | rnd d k c t u x y h ht hu i1 i2=>
  rintro k' n' ks' ⟨⟩ s i I D w hs rfl hh hn hD hD2;obtain ⟨k1,n1,ks1⟩:=t;obtain ⟨k2,n2,ks2⟩:=u;obtain ⟨hi,he⟩:=iJ hh (z:=40) rfl;obtain ⟨_,hh2⟩:=hh.cons;exact aHq s i D w _ _ k _ (.inl rfl) hs hi he (by omega) hD2 (by simp) fun w I D' hI hD'=>by
   subst hD';have:=aFm h (i1 k1 n1 ks1 rfl) (i2 k2 n2 ks2 rfl) s (i+1) I (D - 1) w hs hI hh2 (by omega) (by omega);have e:i+1+x.length+1+y.length+1=i+(40::(x++c::(y++[41]))).length:=by simp;omega
   rwa [e] at this
 | lam d t u x y ht hu i1 i2=>
  rintro k' n' ks' ⟨⟩ s i I D w hs rfl hh hn hD hD2;obtain ⟨k1,n1,ks1⟩:=t;obtain ⟨k2,n2,ks2⟩:=u;obtain ⟨hi,he⟩:=iJ hh (z:=91) rfl;obtain ⟨_,hh2⟩:=hh.cons;obtain ⟨hh3,hh4⟩:=hh2.app;obtain ⟨hi1,he1⟩:=iJ hh4 (z:=93) rfl;obtain ⟨_,hh5⟩:=hh4.cons;have e:i+(91::(x++93::y)).length=i+1+x.length+1+y.length:=by simp;omega
  rw [e] at hn⊢;exact aFl s i D w (i+1+x.length) _ k1 n1 ks1 k2 n2 ks2 hs hi he hi1 he1 (by omega) hD2
   (fun w I D' hI hD'=>i1 k1 n1 ks1 rfl s (i+1) I D' w hs hI hh3 (.of hh4 (by decide)) (by omega) (by omega))
   (fun w I D' hI hD'=>i2 k2 n2 ks2 rfl s (i+1+x.length+1) I D' w hs hI hh5 hn (by omega) (by omega))
 | blk d k m o c ts xs h hm hx ht ih=>
  rintro k' n' ks' ⟨⟩ s i I D w hs rfl hh hn hD hD2;obtain ⟨a,ao,hao,hz⟩:∃a ao,o=a::ao∧(a.toNat=60∨a.toNat=123∨a.toNat=124∨a.toNat=64):=by rcases h with ⟨_,_,rfl,_⟩|⟨_,_,rfl,_⟩|⟨_,_,rfl,_⟩|⟨_,_,rfl,_⟩<;>exact ⟨_,_,rfl,by decide⟩
  have hh1:=hh;rw [hao] at hh1;obtain ⟨hi,he⟩:=iJ hh1 (z:=a.toNat) rfl;have hm4:ts.length≤4:=by rcases h with ⟨_,rfl,_,_⟩|⟨_,rfl,_,_⟩|⟨_,rfl,_,_⟩|⟨_,rfl,_,_⟩<;>omega
  exact aGt s i D w _ _ k _ hz hs hi he (by omega) hD2 (by omega) fun w I D' hI hD'=>by
   subst hD';exact aFk h ts xs hm hx (fun j k n ks x h1 h2=>ih j (.mk k n ks) x h1 h2 k n ks rfl) s i I D' w hs hI hh (by omega) hD2
end Go.Proofs.YtddkehjdjfmhmaaGreat
