/- Parts of the proof. No condition. -/
import Derived.Test.YtajjhldcjikkpaaGreatK4
import Derived.Test.YtajjhldcjikkpaaGreatK6
import Derived.Laws.IdiomStrings
import Derived.Laws.BitsAllLaws
import Derived.Laws.BitsLemmas
open Go.Proofs.Tryz
namespace Go.Proofs.YtajjhldcjikkpaaGreat
open Go.RowKit
set_option maxHeartbeats 4000000
set_option maxRecDepth 100000
set_option linter.unusedSimpArgs false
set_option linter.unusedVariables false
theorem iH {s:ByteArray}{i:Nat}{c:UInt8}{bs:List UInt8}(h:Has s i (c::bs)){z:Nat}(hz:c.toNat=z):∃hi:i<s.size,(s[i]'hi).toNat=z:=by
 obtain ⟨⟨hi,hc⟩,_⟩:=h.cons;exact ⟨hi,by rw [hc,hz]⟩
theorem ParsedT.cast {w:World}{k n:Int}{ks:List Tm}{j j':Nat}{e:Ending}{w':World}(h:ParsedT w k n ks j e w')(hj:j=j'):ParsedT w k n ks j' e w':=hj▸h
section
variable (s:ByteArray)(i:Nat)(D:Int)(w:World)
theorem aKx (n:Int)(c:UInt8)(h:0≤n∧n≤9∧(c.toNat:Int)=48+n)(hs:s.size≤1000000)(hh:Has s i [35,c])(hn:Nd s (i+2))(hD:1≤D)(hD2:D≤1000) :
  Calls prog 52 #[.string s,.int .i64 i,.int .i64 D] w (ParsedT w 1 n [] (i+2)):=by
 obtain ⟨hi,he⟩:=iH hh (z:=35) rfl;obtain ⟨_,hh2⟩:=hh.cons;obtain ⟨hi2,he2⟩:=iH hh2 (z:=c.toNat) rfl;have hnum:=aD (fun w=>sM s (i+1) c.toNat 2 w (.inr rfl) hs hi2 he2 (by omega) (by omega) (fun _=>hn));have hcn:Hid ((c.toNat:Int) - 48=n):=aD (by omega);clear hh hh2 he2 hn;go_enter func52,ntmps52;go_wp2_with (first
  | (go_at_call 23;refine (bB _ _ _).mono ?_;rintro e w1 ⟨rfl,hb1⟩;have hZ:=(aC w 25 Zr rfl).keep hb1;have d0:=hZ.at_ (i:=0) rfl;have d1:=hZ.at_ (i:=1) rfl;have d2:=hZ.at_ (i:=2) rfl;obtain ⟨e0,e1,e2⟩:=lF hZ;have g1:Bw w w1:=bQ bw1 hb1)
  | (go_at_call 74;refine (hnum.out _).mono ?_;rintro e w9 ⟨rfl,rfl⟩;rw [hcn.out]))
 refine bodyPost_ret (v:=.tuple #[.agg (Ro 1 n none 0 0),.int .i64 ((i+2:Nat):Int)]) (by simp [results,results52,go_sem,d0,d1,d2];omega) rfl ⟨i+2,none,0,rfl,rfl,by simp,Fresh.nil,(bT g1)⟩
theorem aFv (n:Int)(c:UInt8)(h:0≤n∧n≤3∧(c.toNat:Int)=48+n)(hs:s.size≤1000000)(hh:Has s i [42,c])(hn:Nd s (i+2))(hD:1≤D)(hD2:D≤1000) :
  Calls prog 52 #[.string s,.int .i64 i,.int .i64 D] w (ParsedT w 2 n [] (i+2)):=by
 obtain ⟨hi,he⟩:=iH hh (z:=42) rfl;obtain ⟨_,hh2⟩:=hh.cons;obtain ⟨hi2,he2⟩:=iH hh2 (z:=c.toNat) rfl;have hnum:=aD (fun w=>sM s (i+1) c.toNat 1 w (.inl rfl) hs hi2 he2 (by omega) (by omega) (fun h=>absurd h (by decide)));have hcn:Hid ((c.toNat:Int) - 48=n):=aD (by omega);clear hh hh2 he2 hn;go_enter func52,ntmps52;go_wp2_with (first
  | (go_at_call 23;refine (bB _ _ _).mono ?_;rintro e w1 ⟨rfl,hb1⟩;have hZ:=(aC w 25 Zr rfl).keep hb1;have d0:=hZ.at_ (i:=0) rfl;have d1:=hZ.at_ (i:=1) rfl;have d2:=hZ.at_ (i:=2) rfl;obtain ⟨e0,e1,e2⟩:=lF hZ;have g1:Bw w w1:=bQ bw1 hb1)
  | (go_at_call 74;refine (hnum.out _).mono ?_;rintro e w9 ⟨rfl,rfl⟩;rw [hcn.out]))
 refine bodyPost_ret (v:=.tuple #[.agg (Ro 2 n none 0 0),.int .i64 ((i+2:Nat):Int)]) (by simp [results,results52,go_sem,d0,d1,d2];omega) rfl ⟨i+2,none,0,rfl,rfl,by simp,Fresh.nil,(bT g1)⟩
theorem aJs (hs:s.size≤1000000)(hh:Has s i [78])(hD:1≤D)(hD2:D≤1000) :
  Calls prog 52 #[.string s,.int .i64 i,.int .i64 D] w (ParsedT w 6 0 [] (i+1)):=by
 obtain ⟨hi,he⟩:=iH hh (z:=78) rfl;clear hh;go_enter func52,ntmps52;go_wp2_with (go_at_call 23;refine (bB _ _ _).mono ?_;rintro e w1 ⟨rfl,hb1⟩;have hZ:=(aC w 25 Zr rfl).keep hb1;have d0:=hZ.at_ (i:=0) rfl;have d1:=hZ.at_ (i:=1) rfl;have d2:=hZ.at_ (i:=2) rfl;obtain ⟨e0,e1,e2⟩:=lF hZ;have g1:Bw w w1:=bQ bw1 hb1)
 refine bodyPost_ret (v:=.tuple #[.agg (Ro 6 0 none 0 0),.int .i64 ((i+1:Nat):Int)]) (by simp [results,results52,go_sem,d0,d1,d2]) rfl ⟨i+1,none,0,rfl,rfl,by simp,Fresh.nil,(bT g1)⟩
theorem aGu (hs:s.size≤1000000)(hh:Has s i [48])(hD:1≤D)(hD2:D≤1000) :
  Calls prog 52 #[.string s,.int .i64 i,.int .i64 D] w (ParsedT w 7 0 [] (i+1)):=by
 obtain ⟨hi,he⟩:=iH hh (z:=48) rfl;clear hh;go_enter func52,ntmps52;go_wp2_with (go_at_call 23;refine (bB _ _ _).mono ?_;rintro e w1 ⟨rfl,hb1⟩;have hZ:=(aC w 25 Zr rfl).keep hb1;have d0:=hZ.at_ (i:=0) rfl;have d1:=hZ.at_ (i:=1) rfl;have d2:=hZ.at_ (i:=2) rfl;obtain ⟨e0,e1,e2⟩:=lF hZ;have g1:Bw w w1:=bQ bw1 hb1)
 refine bodyPost_ret (v:=.tuple #[.agg (Ro 7 0 none 0 0),.int .i64 ((i+1:Nat):Int)]) (by simp [results,results52,go_sem,d0,d1,d2]) rfl ⟨i+1,none,0,rfl,rfl,by simp,Fresh.nil,(bT g1)⟩
theorem aJv (z j:Nat)(k:Int)(ks:List Tm)(hz:z=43∨z=33∨z=94∨z=95)(hs:s.size≤1000000)(hi:i<s.size)(he:(s[i]'hi).toNat=z)(hD:1≤D)(hD2:D≤1000)(hl:ks.length≤9223372036854775807)
  (hp : ∀ w (I D' : Int), I = (i : Int) → D' = D → Calls prog 75 #[.string s, .int .i64 I, .int .i64 D'] w (ParsedT w k 0 ks j)) :
  Calls prog 52 #[.string s,.int .i64 i,.int .i64 D] w (ParsedT w k 0 ks j):=by
 have hp':=aD hp;clear hp;rcases hz with rfl|rfl|rfl|rfl
 all_goals
  go_enter func52,ntmps52;go_wp2_with (go_at_call 75;refine (hp'.out _ _ _ (by simp) rfl).mono ?_;rintro e w1 ⟨m1,A1,c1,hm1,rfl,hl1,hf1,hb1⟩;have hm1':=aD hm1;clear hm1;have hZ:=(aC w 25 Zr rfl).keep hb1;have d0:=hZ.at_ (i:=0) rfl;have d1:=hZ.at_ (i:=1) rfl;have d2:=hZ.at_ (i:=2) rfl;obtain ⟨e0,e1,e2⟩:=lF hZ;have g1:Bw w w1:=bQ bw1 hb1)
  refine bodyPost_ret (v:=.tuple #[.agg (Ro k 0 A1 ks.length c1),.int .i64 m1]) (by simp [results,results52,go_sem,d0,d1,d2]) rfl ⟨m1,A1,c1,hm1'.out,rfl,hl1,?_,(bT g1)⟩;exact (mU hf1).mono (by simp)
theorem aJf (z j:Nat)(k:Int)(ks:List Tm)(hz:z=40∨z=40)(hs:s.size≤1000000)(hi:i<s.size)(he:(s[i]'hi).toNat=z)(hD:1≤D)(hD2:D≤1000)(hl:ks.length≤9223372036854775807)
  (hp : ∀ w (I D' : Int), I = (i + 1 : Nat) → D' = D - 1 → Calls prog 76 #[.string s, .int .i64 I, .int .i64 D'] w (ParsedT w k 0 ks j)) :
  Calls prog 52 #[.string s,.int .i64 i,.int .i64 D] w (ParsedT w k 0 ks j):=by
 have hp':=aD hp;clear hp;rcases hz with rfl|rfl
 all_goals
  go_enter func52,ntmps52;go_wp2_with (go_at_call 76;refine (hp'.out _ _ _ (by simp) rfl).mono ?_;rintro e w1 ⟨m1,A1,c1,hm1,rfl,hl1,hf1,hb1⟩;have hm1':=aD hm1;clear hm1;have hZ:=(aC w 25 Zr rfl).keep hb1;have d0:=hZ.at_ (i:=0) rfl;have d1:=hZ.at_ (i:=1) rfl;have d2:=hZ.at_ (i:=2) rfl;obtain ⟨e0,e1,e2⟩:=lF hZ;have g1:Bw w w1:=bQ bw1 hb1)
  refine bodyPost_ret (v:=.tuple #[.agg (Ro k 0 A1 ks.length c1),.int .i64 m1]) (by simp [results,results52,go_sem,d0,d1,d2]) rfl ⟨m1,A1,c1,hm1'.out,rfl,hl1,?_,(bT g1)⟩;exact (mU hf1).mono (by simp)
theorem aLc (z j:Nat)(k:Int)(ks:List Tm)(hz:z=60∨z=123∨z=124∨z=64)(hs:s.size≤1000000)(hi:i<s.size)(he:(s[i]'hi).toNat=z)(hD:1≤D)(hD2:D≤1000)(hl:ks.length≤9223372036854775807)
  (hp : ∀ w (I D' : Int), I = (i : Int) → D' = D → Calls prog 77 #[.string s, .int .i64 I, .int .i64 D'] w (ParsedT w k 0 ks j)) :
  Calls prog 52 #[.string s,.int .i64 i,.int .i64 D] w (ParsedT w k 0 ks j):=by
 have hp':=aD hp;clear hp;rcases hz with rfl|rfl|rfl|rfl
 all_goals
  go_enter func52,ntmps52;go_wp2_with (go_at_call 77;refine (hp'.out _ _ _ (by simp) rfl).mono ?_;rintro e w1 ⟨m1,A1,c1,hm1,rfl,hl1,hf1,hb1⟩;have hm1':=aD hm1;clear hm1;have hZ:=(aC w 25 Zr rfl).keep hb1;have d0:=hZ.at_ (i:=0) rfl;have d1:=hZ.at_ (i:=1) rfl;have d2:=hZ.at_ (i:=2) rfl;obtain ⟨e0,e1,e2⟩:=lF hZ;have g1:Bw w w1:=bQ bw1 hb1)
  refine bodyPost_ret (v:=.tuple #[.agg (Ro k 0 A1 ks.length c1),.int .i64 m1]) (by simp [results,results52,go_sem,d0,d1,d2]) rfl ⟨m1,A1,c1,hm1'.out,rfl,hl1,?_,(bT g1)⟩;exact (mU hf1).mono (by simp)
theorem aLd (j1 j2:Nat)(k1 n1:Int)(ks1:List Tm)(k2 n2:Int)(ks2:List Tm)(hs:s.size≤1000000)(hi:i<s.size)(he:(s[i]'hi).toNat=91)(hi1:j1<s.size)(he1:(s[j1]'hi1).toNat=93)(hD:1≤D)(hD2:D≤1000)
  (hp1 : ∀ w (I D' : Int), I = (i + 1 : Nat) → D' = D - 1 → Calls prog 52 #[.string s, .int .i64 I, .int .i64 D'] w (ParsedT w k1 n1 ks1 j1)) (hp2 : ∀ w (I D' : Int), I = (j1 + 1 : Nat) → D' = D - 1 → Calls prog 52 #[.string s, .int .i64 I, .int .i64 D'] w (ParsedT w k2 n2 ks2 j2)) :
  Calls prog 52 #[.string s,.int .i64 i,.int .i64 D] w (ParsedT w 4 0 [.mk k1 n1 ks1,.mk k2 n2 ks2] j2):=by
 have hpar1:=aD hp1;have hpar2:=aD hp2;clear hp1 hp2;go_enter func52,ntmps52;go_wp2_with (first
  | (go_at_call 31;refine (nS (B:=w.heap.size+1) (us:=[.mk k1 n1 ks1,.mk k2 n2 ks2]) _ (by simp;omega) ((hO2.alloc _).alloc _) hnd hge (by simp) _ 2 (aC _ 25 _ (by simp))).mono ?_;rintro e w4 ⟨A4,c4,rfl,hf4,hb4⟩;replace hZ:=((hZ.alloc _).alloc _).keep hb4;have d0:=hZ.at_ (i:=0) rfl;have d1:=hZ.at_ (i:=1) rfl;have d2:=hZ.at_ (i:=2) rfl;obtain ⟨e0,e1,e2⟩:=lF hZ;have g4:Bw w w4:=((g3.alloc (by omega) _).alloc (by simp;omega) _).trans (hb4.mono (by simp;omega)))
  | (go_at_call 52;have _t:=tok;refine (hpar2.out _ _ _ (by simp) rfl).mono ?_;rintro e w3 ⟨m2,A2,c2,hm2,rfl,hl2,hf2,hb2⟩;subst hm2;clear tok;obtain ⟨fp,hO2,hnd,hge⟩:=(hf1.alloc _).node2 hb2 hf2 (by simp;omega) hl1 hl2 k1 n1 k2 n2 c1 c2;replace hZ:=(hZ.alloc _).keep hb2;have hX1:=(aC w1 25 (Ro k1 n1 A1 ks1.length c1) rfl).keep hb2;have x0:=hX1.at_ (i:=0) rfl;have x1:=hX1.at_ (i:=1) rfl;have x2:=hX1.at_ (i:=2) rfl;have lx:=hX1.lt;have lz:=hZ.lt;have g3:Bw w w3:=(g1.alloc (by omega) _).trans (hb2.mono (by simp;omega));have s3:=g3.size;have s13:w1.heap.size+1≤w3.heap.size:=(by have:=hb2.size;simpa using this))
  | (go_at_call 52;refine (hpar1.out _ _ _ (by simp) rfl).mono ?_;rintro e w1 ⟨m,A1,c1,hm,rfl,hl1,hf1,hb1⟩;subst hm;have tok:True:=trivial;replace hf1:=hf1.mono (B':=w.heap.size+1) (by simp);have hZ:=(aC w 25 Zr rfl).keep hb1;have g1:Bw w w1:=bQ bw1 hb1;have s1:=g1.size;have s1':=hZ.lt))
 refine bodyPost_ret (v:=_) ?_ rfl ⟨m2,A4,c4,rfl,rfl,by simp,?_,(bT g4)⟩
 ·simp [results,results52,go_sem,d0,d1,d2]
 ·exact (mU hf4).mono (by omega)
end
theorem aIt {d:Nat}{t:Tm}{b:List UInt8}(h:Tx d t b):∀(k n:Int) (ks:List Tm),t = .mk k n ks→pO k n ks b d:=by
 induction h with
 | var d n c h=>rintro k' n' ks' ⟨⟩ s i I D w hs rfl hh hn hD hD2;exact aKx s i D w n c h hs hh hn (by omega) hD2
 | sort d n c h=>rintro k' n' ks' ⟨⟩ s i I D w hs rfl hh hn hD hD2;exact aFv s i D w n c h hs hh hn (by omega) hD2
 | nat d=>rintro k' n' ks' ⟨⟩ s i I D w hs rfl hh hn hD hD2;exact aJs s i D w hs hh (by omega) hD2
 | zero d=>rintro k' n' ks' ⟨⟩ s i I D w hs rfl hh hn hD hD2;exact aGu s i D w hs hh (by omega) hD2
 | pre d k c t b h ht ih=>
  rintro k' n' ks' ⟨⟩ s i I D w hs rfl hh hn hD hD2;obtain ⟨k1,n1,ks1⟩:=t;obtain ⟨hi,he⟩:=iH hh (z:=c.toNat) rfl;have hz:c.toNat=43∨c.toNat=33∨c.toNat=94∨c.toNat=95:=by rcases h with ⟨_,rfl⟩|⟨_,rfl⟩|⟨_,rfl⟩|⟨_,rfl⟩<;>decide
  rw [List.length_cons] at hn⊢;exact aJv s i D w _ _ k _ hz hs hi he (by omega) hD2 (by simp) fun w I D' hI hD'=>by
   subst hD';have:=aGi h (ih k1 n1 ks1 rfl) s i I D' w hs hI hh (by rw [show i+1+b.length=i+(b.length+1) by omega];exact hn) (by omega) hD2;rwa [show i+1+b.length=i+(b.length+1) by omega] at this
 | rnd d k c t u x y h ht hu i1 i2=>
  rintro k' n' ks' ⟨⟩ s i I D w hs rfl hh hn hD hD2;obtain ⟨k1,n1,ks1⟩:=t;obtain ⟨k2,n2,ks2⟩:=u;obtain ⟨hi,he⟩:=iH hh (z:=40) rfl;obtain ⟨_,hh2⟩:=hh.cons;exact aJf s i D w _ _ k _ (.inl rfl) hs hi he (by omega) hD2 (by simp) fun w I D' hI hD'=>by
   subst hD';have:=aJk h (i1 k1 n1 ks1 rfl) (i2 k2 n2 ks2 rfl) s (i+1) I (D - 1) w hs hI hh2 (by omega) (by omega);have e:i+1+x.length+1+y.length+1=i+(40::(x++c::(y++[41]))).length:=by simp;omega
   rwa [e] at this
 | lam d t u x y ht hu i1 i2=>
  rintro k' n' ks' ⟨⟩ s i I D w hs rfl hh hn hD hD2;obtain ⟨k1,n1,ks1⟩:=t;obtain ⟨k2,n2,ks2⟩:=u;obtain ⟨hi,he⟩:=iH hh (z:=91) rfl;obtain ⟨_,hh2⟩:=hh.cons;obtain ⟨hh3,hh4⟩:=hh2.app;obtain ⟨hi1,he1⟩:=iH hh4 (z:=93) rfl;obtain ⟨_,hh5⟩:=hh4.cons;have e:i+(91::(x++93::y)).length=i+1+x.length+1+y.length:=by simp;omega
  rw [e] at hn⊢;exact aLd s i D w (i+1+x.length) _ k1 n1 ks1 k2 n2 ks2 hs hi he hi1 he1 (by omega) hD2
   (fun w I D' hI hD'=>i1 k1 n1 ks1 rfl s (i+1) I D' w hs hI hh3 (.of hh4 (by decide)) (by omega) (by omega))
   (fun w I D' hI hD'=>i2 k2 n2 ks2 rfl s (i+1+x.length+1) I D' w hs hI hh5 hn (by omega) (by omega))
 | blk d k m o c ts xs h hm hx ht ih=>
  rintro k' n' ks' ⟨⟩ s i I D w hs rfl hh hn hD hD2;obtain ⟨a,ao,hao,hz⟩:∃a ao,o=a::ao∧(a.toNat=60∨a.toNat=123∨a.toNat=124∨a.toNat=64):=by rcases h with ⟨_,_,rfl,_⟩|⟨_,_,rfl,_⟩|⟨_,_,rfl,_⟩|⟨_,_,rfl,_⟩<;>exact ⟨_,_,rfl,by decide⟩
  have hh1:=hh;rw [hao] at hh1;obtain ⟨hi,he⟩:=iH hh1 (z:=a.toNat) rfl;have hm4:ts.length≤4:=by rcases h with ⟨_,rfl,_,_⟩|⟨_,rfl,_,_⟩|⟨_,rfl,_,_⟩|⟨_,rfl,_,_⟩<;>omega
  exact aLc s i D w _ _ k _ hz hs hi he (by omega) hD2 (by omega) fun w I D' hI hD'=>by
   subst hD';exact aKz h ts xs hm hx (fun j k n ks x h1 h2=>ih j (.mk k n ks) x h1 h2 k n ks rfl) s i I D' w hs hI hh (by omega) hD2
def dM (l:List UInt8):ByteArray:=⟨l.toArray⟩
theorem gJ {a b:ByteArray}(h:a.data.toList=b.data.toList):Ending.returned (.string a) = .returned (.string b):=by
 rw [ByteArray.ext (Array.ext' h)]
theorem aHf (a b:List UInt8)(h:a.length+b.length≤1000000)(w:World):(Op.stringOp .add (dM a) (dM b)).run prog w = .ok (.string (dM (a++b))) w:=by
 rw [run_string_add_sum w _ _ (by simp [dM,ByteArray.size];omega)];unfold dM
 rw [ByteArray.mk_append_mk]
theorem aHd (n:Int)(c:UInt8)(h:0≤n∧n≤9∧(c.toNat:Int)=48+n)(w:World):Calls prog 97 #[.int .i64 n] w fun e w'=>e = .returned (.string (dM [c]))∧Bw w w':=by
 have hcv:=aD (run_convert_bytes_back (P:=prog) (w.alloc (.cells #[.int .u8 (48+n)] 5)) 22 9 5 ⟨w.heap.size,0,none⟩ 1 [c] Tryz.underlying22 Tryz.underlying5 Tryz.underlying9 (fun j hj=>by
  have:j=0:=by simpa using hj
  subst this;simp [Addr.add,h.2.2]))
 have hcv2:(convert 22 9 (.slice (some ⟨w.heap.size,0,none⟩) 1 1)).run prog (w.alloc (.cells #[.int .u8 (48+n)] 5)) = .ok (.string (dM [c])) (w.alloc (.cells #[.int .u8 (48+n)] 5)):=hcv.out;have hu8:IntKind.u8.wrap (48+n)=48+n:=IntWalk.u8_in _ (by omega);have qE:decide (n < -9223372036854775807)=false:=decide_eq_false (by omega);have rW:decide (n<0)=false:=decide_eq_false (by omega);have sR:decide (9<n)=false:=decide_eq_false (by omega);obtain ⟨h1,h2,h3⟩:=h;have h3':=aD h3;clear hcv h3;go_enter func97,ntmps97;go_wp2
 go_loop [0,3] (fun a v=>a = .int .i64 n∧v = .string (dM [])) (fun _ _=>0)
 case atStart=>exact ⟨rfl,rfl⟩
 case round=>
  obtain ⟨rfl,rfl⟩:=hrel;have hadd:=fun w=>aHf [c] [] (by simp) w
  go_wp2
  go_ret
  exact ⟨rfl,bw1⟩
def gK (k n:Int)(ks:List Tm)(b:List UInt8):Prop:=∀(A:Option Addr) (c:Nat) (w:World),b.length≤100000→Rd w A 0 ks→
 Calls prog 78 #[.agg (Ro k n A ks.length c)] w fun e w'=>e = .returned (.string (dM b))∧Bw w w'
theorem aOl (n:Int)(c:UInt8)(h:0≤n∧n≤9∧(c.toNat:Int)=48+n):gK 1 n [] [35,c]:=by
 intro A cc w _ _;have hsz:(dM [c]).size≤1000:=by simp [dM,ByteArray.size]
 have h9:0≤n∧n≤9∧(c.toNat:Int)=48+n:=⟨h.1,by omega,h.2.2⟩;clear h;go_enter func78,ntmps78;go_wp2_with (go_at_call 97;refine (aHd n c h9 _).mono ?_;rintro e w1 ⟨rfl,hb1⟩)
 go_ret
 exact ⟨gJ (by simp [dM]),bw1.trans (hb1.mono (by simp))⟩
theorem aKk (n:Int)(c:UInt8)(h:0≤n∧n≤3∧(c.toNat:Int)=48+n):gK 2 n [] [42,c]:=by
 intro A cc w _ _;have hsz:(dM [c]).size≤1000:=by simp [dM,ByteArray.size]
 have h9:0≤n∧n≤9∧(c.toNat:Int)=48+n:=⟨h.1,by omega,h.2.2⟩;clear h;go_enter func78,ntmps78;go_wp2_with (go_at_call 97;refine (aHd n c h9 _).mono ?_;rintro e w1 ⟨rfl,hb1⟩)
 go_ret
 exact ⟨gJ (by simp [dM]),bw1.trans (hb1.mono (by simp))⟩
theorem aLn:gK 6 0 [] [78]:=by
 intro A cc w _ _;go_enter func78,ntmps78;go_wp2
 go_ret
 exact ⟨gJ (by simp [dM]),bw1⟩
theorem aKy:gK 7 0 [] [48]:=by
 intro A cc w _ _;go_enter func78,ntmps78;go_wp2
 go_ret
 exact ⟨gJ (by simp [dM]),bw1⟩
theorem aMk {k:Int}{c:UInt8}{k1 n1:Int}{ks1:List Tm}{b:List UInt8}(h:aUw k c)(ih:gK k1 n1 ks1 b):gK k 0 [.mk k1 n1 ks1] (c::b):=by
 intro A cc w hl hr;obtain ⟨bb,off,k',n',ks',A',c',rfl,hk,hc1,hc2,hc3,hl',hr'⟩:=hr.at_ (j:=0) (by simp);injection hk with h1 h2 h3;subst h1 h2 h3;simp only [Nat.zero_mul,Nat.add_zero] at hc1 hc2 hc3
 have hb:b.length≤100000:=by simp at hl;omega
 have hsz:(dM b).size≤100000:=by simpa [dM,ByteArray.size] using hb
 have ih':=aD ih;have bl:bb<w.heap.size:=kY w _ hc1;clear ih hr;rcases h with ⟨rfl,rfl⟩|⟨rfl,rfl⟩|⟨rfl,rfl⟩|⟨rfl,rfl⟩
 all_goals
  go_enter func78,ntmps78;go_wp2_with (go_at_call 78;refine (ih'.out A' c' _ hb (hr'.alloc _)).mono ?_;rintro e w1 ⟨rfl,hb1⟩)
  go_ret
  exact ⟨gJ (by simp [dM]),bw1.trans (hb1.mono (by simp))⟩
theorem cA {a b r:List UInt8}(hr:r=a++b)(h:a.length+b.length≤1000000)(w:World):(Op.stringOp .add (dM a) (dM b)).run prog w = .ok (.string (dM r)) w:=by subst hr;exact aHf a b h w
theorem aOa {k:Int}{c:UInt8}{k1 n1:Int}{ks1:List Tm}{x:List UInt8}{k2 n2:Int}{ks2:List Tm}{y:List UInt8}(h:aUo k c)(ih1:gK k1 n1 ks1 x)(ih2:gK k2 n2 ks2 y):gK k 0 [.mk k1 n1 ks1,.mk k2 n2 ks2] (40::(x++c::(y++[41]))):=by
 intro A cc w hl hr;obtain ⟨bb,off,k',n',ks',A',c',rfl,hk,hc1,hc2,hc3,hl',hr'⟩:=hr.at_ (j:=0) (by simp);obtain ⟨b2,o2,k3,n3,ks3,A2,c2,hA,hk2,qE,rW,sR,hl2,hr2⟩:=hr.at_ (j:=1) (by simp);injection hA with hA;injection hA with h8 h9;subst h8 h9;injection hk with h1 h2 h3;subst h1 h2 h3;injection hk2 with h1 h2 h3;subst h1 h2 h3;simp only [Nat.zero_mul,Nat.add_zero,Nat.one_mul] at hc1 hc2 hc3 qE rW sR
 have hbx1:x.length≤100000:=by simp at hl;omega
 have hby1:y.length≤100000:=by simp at hl;omega
 have ih1':=aD ih1;have ih2':=aD ih2;have bl:bb<w.heap.size:=kY w _ hc1;clear ih1 ih2 hr;rcases h with ⟨rfl,rfl⟩|⟨rfl,rfl⟩|⟨rfl,rfl⟩
 ·have a1:∀w,(Op.stringOp .add ⟨#[40]⟩ (dM x)).run prog w = .ok (.string (dM (40::x))) w:=fun w=>cA (a:=[40]) rfl (by simp;omega) w
  have a2:∀w,(Op.stringOp .add (dM (40::x)) ⟨#[62]⟩).run prog w = .ok (.string (dM (40::(x++[62])))) w:=fun w=>cA (a:=40::x) (b:=[62]) rfl (by simp;omega) w
  have a3:∀w,(Op.stringOp .add (dM (40::(x++[62]))) (dM y)).run prog w = .ok (.string (dM (40::(x++62::y)))) w:=fun w=>cA (a:=40::(x++[62])) (b:=y) (by simp) (by simp;omega) w
  have a4:∀w,(Op.stringOp .add (dM (40::(x++62::y))) ⟨#[41]⟩).run prog w = .ok (.string (dM (40::(x++62::(y++[41]))))) w:=fun w=>cA (a:=40::(x++62::y)) (b:=[41]) (by simp) (by simp;omega) w
  go_enter func78,ntmps78;go_wp2_with fail
  refine aN ?_;intro wx hwx;have hbx:Bw w wx:=by rw [hwx];exact bw1
  have hX:Blk wx w.heap.size (Ro 3 0 (some ⟨bb,off,none⟩) 2 cc):=by rw [hwx];exact aC _ _ _ rfl
  have y0:=aF ((bU hbx) _ _ hc1);have y1:=aF ((bU hbx) _ _ hc2);have y2:=aF ((bU hbx) _ _ hc3);have z0:=aF ((bU hbx) _ _ qE);have z1:=aF ((bU hbx) _ _ rW);have z2:=aF ((bU hbx) _ _ sR);have x2:=hX.rule (i:=2) rfl;have sm1:=fun (w':World) (hw':Bw wx w')=>ih1'.out A' c' w' hbx1 ((hr'.below hbx).below hw')
  have sm2:=fun (w':World) (hw':Bw wx w')=>ih2'.out A2 c2 w' hby1 ((hr2.below hbx).below hw')
  clear hwx;refine bZ (fun w'=>Below (wx).heap.size wx w') (by kernel_rfl) (by kernel_rfl) (fG _ _).drew ?_;repeat (first|refine qS ?_|refine qO ?_|refine qB 78 (hc:=fun w' hS'=>by with_reducible exact sm1 w' hS') (h:=?_)|refine qB 78 (hc:=fun w' hS'=>by with_reducible exact sm2 w' hS') (h:=?_))
  refine dW ?_;intro wa hx1;clear sm1 sm2 y0 y1 y2 z0 z1 z2 x2;go_wp2_with fail
  go_ret
  exact ⟨gJ (by simp [dM]),hbx.trans (hx1.mono hbx.size)⟩
 ·have a1:∀w,(Op.stringOp .add ⟨#[40]⟩ (dM x)).run prog w = .ok (.string (dM (40::x))) w:=fun w=>cA (a:=[40]) rfl (by simp;omega) w
  have a2:∀w,(Op.stringOp .add (dM (40::x)) ⟨#[42]⟩).run prog w = .ok (.string (dM (40::(x++[42])))) w:=fun w=>cA (a:=40::x) (b:=[42]) rfl (by simp;omega) w
  have a3:∀w,(Op.stringOp .add (dM (40::(x++[42]))) (dM y)).run prog w = .ok (.string (dM (40::(x++42::y)))) w:=fun w=>cA (a:=40::(x++[42])) (b:=y) (by simp) (by simp;omega) w
  have a4:∀w,(Op.stringOp .add (dM (40::(x++42::y))) ⟨#[41]⟩).run prog w = .ok (.string (dM (40::(x++42::(y++[41]))))) w:=fun w=>cA (a:=40::(x++42::y)) (b:=[41]) (by simp) (by simp;omega) w
  go_enter func78,ntmps78;go_wp2_with fail
  refine aN ?_;intro wx hwx;have hbx:Bw w wx:=by rw [hwx];exact bw1
  have hX:Blk wx w.heap.size (Ro 13 0 (some ⟨bb,off,none⟩) 2 cc):=by rw [hwx];exact aC _ _ _ rfl
  have y0:=aF ((bU hbx) _ _ hc1);have y1:=aF ((bU hbx) _ _ hc2);have y2:=aF ((bU hbx) _ _ hc3);have z0:=aF ((bU hbx) _ _ qE);have z1:=aF ((bU hbx) _ _ rW);have z2:=aF ((bU hbx) _ _ sR);have x2:=hX.rule (i:=2) rfl;have sm1:=fun (w':World) (hw':Bw wx w')=>ih1'.out A' c' w' hbx1 ((hr'.below hbx).below hw')
  have sm2:=fun (w':World) (hw':Bw wx w')=>ih2'.out A2 c2 w' hby1 ((hr2.below hbx).below hw')
  clear hwx;refine bZ (fun w'=>Below (wx).heap.size wx w') (by kernel_rfl) (by kernel_rfl) (fG _ _).drew ?_;repeat (first|refine qS ?_|refine qO ?_|refine qB 78 (hc:=fun w' hS'=>by with_reducible exact sm1 w' hS') (h:=?_)|refine qB 78 (hc:=fun w' hS'=>by with_reducible exact sm2 w' hS') (h:=?_))
  refine dW ?_;intro wa hx1;clear sm1 sm2 y0 y1 y2 z0 z1 z2 x2;go_wp2_with fail
  go_ret
  exact ⟨gJ (by simp [dM]),hbx.trans (hx1.mono hbx.size)⟩
 ·have a1:∀w,(Op.stringOp .add ⟨#[40]⟩ (dM x)).run prog w = .ok (.string (dM (40::x))) w:=fun w=>cA (a:=[40]) rfl (by simp;omega) w
  have a2:∀w,(Op.stringOp .add (dM (40::x)) ⟨#[32]⟩).run prog w = .ok (.string (dM (40::(x++[32])))) w:=fun w=>cA (a:=40::x) (b:=[32]) rfl (by simp;omega) w
  have a3:∀w,(Op.stringOp .add (dM (40::(x++[32]))) (dM y)).run prog w = .ok (.string (dM (40::(x++32::y)))) w:=fun w=>cA (a:=40::(x++[32])) (b:=y) (by simp) (by simp;omega) w
  have a4:∀w,(Op.stringOp .add (dM (40::(x++32::y))) ⟨#[41]⟩).run prog w = .ok (.string (dM (40::(x++32::(y++[41]))))) w:=fun w=>cA (a:=40::(x++32::y)) (b:=[41]) (by simp) (by simp;omega) w
  go_enter func78,ntmps78;go_wp2_with fail
  refine aN ?_;intro wx hwx;have hbx:Bw w wx:=by rw [hwx];exact bw1
  have hX:Blk wx w.heap.size (Ro 5 0 (some ⟨bb,off,none⟩) 2 cc):=by rw [hwx];exact aC _ _ _ rfl
  have y0:=aF ((bU hbx) _ _ hc1);have y1:=aF ((bU hbx) _ _ hc2);have y2:=aF ((bU hbx) _ _ hc3);have z0:=aF ((bU hbx) _ _ qE);have z1:=aF ((bU hbx) _ _ rW);have z2:=aF ((bU hbx) _ _ sR);have x2:=hX.rule (i:=2) rfl;have sm1:=fun (w':World) (hw':Bw wx w')=>ih1'.out A' c' w' hbx1 ((hr'.below hbx).below hw')
  have sm2:=fun (w':World) (hw':Bw wx w')=>ih2'.out A2 c2 w' hby1 ((hr2.below hbx).below hw')
  clear hwx;refine bZ (fun w'=>Below (wx).heap.size wx w') (by kernel_rfl) (by kernel_rfl) (fG _ _).drew ?_;repeat (first|refine qS ?_|refine qO ?_|refine qB 78 (hc:=fun w' hS'=>by with_reducible exact sm1 w' hS') (h:=?_)|refine qB 78 (hc:=fun w' hS'=>by with_reducible exact sm2 w' hS') (h:=?_))
  refine dW ?_;intro wa hx1;clear sm1 sm2 y0 y1 y2 z0 z1 z2 x2;go_wp2_with fail
  go_ret
  exact ⟨gJ (by simp [dM]),hbx.trans (hx1.mono hbx.size)⟩
theorem aOt {k1 n1:Int}{ks1:List Tm}{x:List UInt8}{k2 n2:Int}{ks2:List Tm}{y:List UInt8}(ih1:gK k1 n1 ks1 x)(ih2:gK k2 n2 ks2 y):gK 4 0 [.mk k1 n1 ks1,.mk k2 n2 ks2] (91::(x++93::y)):=by
 intro A cc w hl hr;obtain ⟨bb,off,k',n',ks',A',c',rfl,hk,hc1,hc2,hc3,hl',hr'⟩:=hr.at_ (j:=0) (by simp);obtain ⟨b2,o2,k3,n3,ks3,A2,c2,hA,hk2,qE,rW,sR,hl2,hr2⟩:=hr.at_ (j:=1) (by simp);injection hA with hA;injection hA with h8 h9;subst h8 h9;injection hk with h1 h2 h3;subst h1 h2 h3;injection hk2 with h1 h2 h3;subst h1 h2 h3;simp only [Nat.zero_mul,Nat.add_zero,Nat.one_mul] at hc1 hc2 hc3 qE rW sR
 have hbx1:x.length≤100000:=by simp at hl;omega
 have hby1:y.length≤100000:=by simp at hl;omega
 have ih1':=aD ih1;have ih2':=aD ih2;have bl:bb<w.heap.size:=kY w _ hc1;clear ih1 ih2 hr;have a1:∀w,(Op.stringOp .add ⟨#[91]⟩ (dM x)).run prog w = .ok (.string (dM (91::x))) w:=fun w=>cA (a:=[91]) rfl (by simp;omega) w
 have a2:∀w,(Op.stringOp .add (dM (91::x)) ⟨#[93]⟩).run prog w = .ok (.string (dM (91::(x++[93])))) w:=fun w=>cA (a:=91::x) (b:=[93]) rfl (by simp;omega) w
 have a3:∀w,(Op.stringOp .add (dM (91::(x++[93]))) (dM y)).run prog w = .ok (.string (dM (91::(x++93::y)))) w:=fun w=>cA (a:=91::(x++[93])) (b:=y) (by simp) (by simp;omega) w
 go_enter func78,ntmps78;go_wp2_with fail
 refine aN ?_;intro wx hwx;have hbx:Bw w wx:=by rw [hwx];exact bw1
 have hX:Blk wx w.heap.size (Ro 4 0 (some ⟨bb,off,none⟩) 2 cc):=by rw [hwx];exact aC _ _ _ rfl
 have y0:=aF ((bU hbx) _ _ hc1);have y1:=aF ((bU hbx) _ _ hc2);have y2:=aF ((bU hbx) _ _ hc3);have z0:=aF ((bU hbx) _ _ qE);have z1:=aF ((bU hbx) _ _ rW);have z2:=aF ((bU hbx) _ _ sR);have x2:=hX.rule (i:=2) rfl;have sm1:=fun (w':World) (hw':Bw wx w')=>ih1'.out A' c' w' hbx1 ((hr'.below hbx).below hw')
 have sm2:=fun (w':World) (hw':Bw wx w')=>ih2'.out A2 c2 w' hby1 ((hr2.below hbx).below hw')
 clear hwx;refine bZ (fun w'=>Below (wx).heap.size wx w') (by kernel_rfl) (by kernel_rfl) (fG _ _).drew ?_;repeat (first|refine qS ?_|refine qO ?_|refine qB 78 (hc:=fun w' hS'=>by with_reducible exact sm1 w' hS') (h:=?_)|refine qB 78 (hc:=fun w' hS'=>by with_reducible exact sm2 w' hS') (h:=?_))
 refine dW ?_;intro wa hx1;clear sm1 sm2 y0 y1 y2 z0 z1 z2 x2;go_wp2_with fail
 go_ret
 exact ⟨gJ (by simp [dM]),hbx.trans (hx1.mono hbx.size)⟩
def jn:List (List UInt8)→List UInt8
 | []=>[]
 | [b]=>b
 | b::bs=>b++44::jn bs
theorem aGr (b d:List UInt8)(bs:List (List UInt8)):jn (b::d::bs)=b++44::jn (d::bs):=by simp [jn]
theorem aCp (x:List UInt8):∀{xs:List (List UInt8)},xs≠[]→jn (xs++[x])=jn xs++44::x
 | [],h=>absurd rfl h
 | [b],_=>by simp [jn]
 | b::d::bs,_=>by
  have:=aCp x (xs:=d::bs) (by simp);rw [List.cons_append,List.cons_append,aGr,aGr,← List.cons_append,this];simp
theorem aNy (c:UInt8):∀{xs:List (List UInt8)},xs≠[]→mX c xs=jn xs++[c]
 | [],h=>absurd rfl h
 | [b],_=>by simp [mX,jn]
 | b::d::bs,_=>by rw [aDd,aGr,aNy c (xs:=d::bs) (by simp)];simp
theorem aSt (x:List UInt8)(xs:List (List UInt8)):(jn xs).length+x.length≤(jn (xs++[x])).length:=by
 by_cases h:xs=[]
 ·subst h;simp [jn]
 ·rw [aCp x h];simp only [List.length_append,List.length_cons];omega
theorem aRn {xs:List (List UInt8)}{j:Nat}(hj:j<xs.length):(jn (xs.take j)).length+xs[j].length≤(jn xs).length:=by
 have h:∀m,j+1+m≤xs.length→(jn (xs.take j)).length+xs[j].length≤(jn (xs.take (j+1+m))).length:=by
  intro m;induction m with
  | zero=>intro _;rw [Nat.add_zero,uQ hj];exact aSt _ _
  | succ m ih=>
   intro hm;have:=ih (by omega);rw [show j+1+(m+1)=(j+1+m)+1 from by omega,uQ (by omega:j+1+m<xs.length)];have:=aSt (xs[j+1+m]'(by omega)) (xs.take (j+1+m));omega
 have:=h (xs.length - (j+1)) (by omega);rw [show j+1+(xs.length - (j+1))=xs.length from by omega,List.take_length] at this;exact this
theorem aNa (ts:List Tm)(xs:List (List UInt8))(hl:xs.length=ts.length)(hl4:ts.length≤1000)(hj:(jn xs).length≤100000)
  (ih : ∀ (j : Nat) (k n : Int) (ks : List Tm) (x : List UInt8), ts[j]? = some (.mk k n ks) → xs[j]? = some x → gK k n ks x) (A : Option Addr) (c : Nat) (w : World) (hr : Rd w A 0 ts) :
  Calls prog 98 #[.slice A ts.length c] w fun e w'=>e = .returned (.string (dM (jn xs)))∧Bw w w':=by
 have hl':=aD hl;have ih':=aD ih;clear hl ih;go_enter func98,ntmps98;go_wp2
 go_loopw [3,4] (fun v jv wr=>∃j:Nat,j≤ts.length∧jv = .int .i64 j∧v = .string (dM (jn (xs.take j)))∧Bw w wr) (fun _ jv _=>ts.length - (intOf jv).toNat)
 case atStart=>exact ⟨0,Nat.zero_le _,rfl,rfl,fG _ _⟩
 case round=>
  obtain ⟨j,hjl,rfl,rfl,hb⟩:=hrel;by_cases hlt:j<ts.length
  ·have hlx:j<xs.length:=by have:=hl'.out;omega
   obtain ⟨bb,off,k',n',ks',A',c',rfl,hk,hc1,hc2,hc3,hln,hr'⟩:=(hr.below hb).at_ hlt;obtain ⟨x,hx⟩:∃x,xs[j]=x:=⟨_,rfl⟩;have htk:=aRn hlx;rw [hx] at htk;have htx:=aD (show ts[j]?=some (.mk k' n' ks') by rw [oE hlt,hk]);have hxx:=aD (show xs[j]?=some x by rw [oE hlx,hx]);have hnext:=aD (show xs.take (j+1)=xs.take j++[x] by rw [uQ hlx,hx]);have hne:=aD (show 0<j→xs.take j≠[] from fun h e=>by have:=congrArg List.length e;rw [List.length_take] at this;simp only [List.length_nil] at this;omega);have hj0:=aD (show j=0→xs.take j=[] from fun h=>by rw [h];rfl);have hx1:x.length≤100000:=by omega
   have hsub:=aD (fun (w:World) (hr:Rd w A' 0 ks')=>ih'.out j k' n' ks' x htx.out hxx.out A' c' w hx1 hr);clear hk hx;generalize xs.take j=pr at *
   generalize hJ:jn pr=J at *
   have hJ':=aD hJ;clear hJ;by_cases h0:j=0
   ·have q0:decide (0<j)=false:=decide_eq_false (by omega);have q1:¬0<j:=by omega
    have hJn:J=[]:=by rw [← hJ'.out,hj0.out h0];rfl
    subst hJn;have h0':=aD h0;clear h0;have a2:∀w,(Op.stringOp .add (dM []) (dM x)).run prog w = .ok (.string (dM x)) w:=fun w=>cA (a:=[]) rfl (by simp;omega) w
    go_wp2_with (go_at_call 78;refine (hsub.out _ hr').mono ?_;rintro e w1 ⟨rfl,hb1⟩)
    go_roundw
    case rel=>exact ⟨j+1,by omega,by go_num,by rw [hnext.out,hj0.out h0'.out];rfl,hb.trans (hb1.mono hb.size)⟩
    case measure=>simp [intOf];omega
   ·have q0:decide (0<(j:Int))=true:=decide_eq_true (by omega);have a1:∀w,(Op.stringOp .add (dM J) ⟨#[44]⟩).run prog w = .ok (.string (dM (J++[44]))) w:=fun w=>cA (b:=[44]) rfl (by simp;omega) w
    have a2:∀w,(Op.stringOp .add (dM (J++[44])) (dM x)).run prog w = .ok (.string (dM (J++44::x))) w:=fun w=>cA (a:=J++[44]) (by simp) (by simp;omega) w
    go_wp2_with (go_at_call 78;refine (hsub.out _ hr').mono ?_;rintro e w1 ⟨rfl,hb1⟩)
    go_roundw
    case rel=>exact ⟨j+1,by omega,by go_num,by rw [hnext.out,aCp x (hne.out (by omega)),hJ'.out],hb.trans (hb1.mono hb.size)⟩
    case measure=>simp [intOf];omega
  ·have hjl:j=ts.length:=by omega
   subst hjl;have hall:=aD (show xs.take ts.length=xs from List.take_of_length_le (by have:=hl'.out;omega));go_wp2
   go_ret
   exact ⟨by rw [hall.out];rfl,hb⟩
theorem aMx {k:Int}{m:Nat}{o:List UInt8}{c:UInt8}(h:aOm k m o c)(ts:List Tm)(xs:List (List UInt8))(hm:ts.length=m)(hx:xs.length=m)
  (ih : ∀ (j : Nat) (k n : Int) (ks : List Tm) (x : List UInt8), ts[j]? = some (.mk k n ks) → xs[j]? = some x → gK k n ks x) : gK k 0 ts (o ++ mX c xs) := by
 intro A cc w hl hr;have hne:xs≠[]:=fun e=>by subst e;rcases h with ⟨_,rfl,_,_⟩|⟨_,rfl,_,_⟩|⟨_,rfl,_,_⟩|⟨_,rfl,_,_⟩<;>simp at hx
 have hm4:ts.length≤4:=by rcases h with ⟨_,rfl,_,_⟩|⟨_,rfl,_,_⟩|⟨_,rfl,_,_⟩|⟨_,rfl,_,_⟩<;>omega
 rw [aNy c hne] at hl⊢;have hjl:(jn xs).length≤100000:=by simp only [List.length_append,List.length_cons] at hl;omega
 have hlist:=aD (fun w (hr:Rd w A 0 ts)=>aNa ts xs (by omega) (by omega) hjl ih A cc w hr);clear ih hx hne hl;generalize jn xs=J at *
 have hm':=aD hm;rcases h with ⟨rfl,rfl,rfl,rfl⟩|⟨rfl,rfl,rfl,rfl⟩|⟨rfl,rfl,rfl,rfl⟩|⟨rfl,rfl,rfl,rfl⟩
 ·clear hm;have a1:∀w,(Op.stringOp .add ⟨#[60]⟩ (dM J)).run prog w = .ok (.string (dM (60::J))) w:=fun w=>cA (a:=[60]) rfl (by simp;omega) w
  have a2:∀w,(Op.stringOp .add (dM (60::J)) ⟨#[62]⟩).run prog w = .ok (.string (dM (60::(J++[62])))) w:=fun w=>cA (a:=60::J) (b:=[62]) rfl (by simp;omega) w
  go_enter func78,ntmps78;go_wp2_with (go_at_call 98;refine (hlist.out _ (hr.alloc _)).mono ?_;rintro e w1 ⟨rfl,hb1⟩)
  go_ret
  exact ⟨gJ (by simp [dM]),bw1.trans (hb1.mono (by simp))⟩
 ·clear hm;have a1:∀w,(Op.stringOp .add ⟨#[123]⟩ (dM J)).run prog w = .ok (.string (dM (123::J))) w:=fun w=>cA (a:=[123]) rfl (by simp;omega) w
  have a2:∀w,(Op.stringOp .add (dM (123::J)) ⟨#[125]⟩).run prog w = .ok (.string (dM (123::(J++[125])))) w:=fun w=>cA (a:=123::J) (b:=[125]) rfl (by simp;omega) w
  go_enter func78,ntmps78;go_wp2_with (go_at_call 98;refine (hlist.out _ (hr.alloc _)).mono ?_;rintro e w1 ⟨rfl,hb1⟩)
  go_ret
  exact ⟨gJ (by simp [dM]),bw1.trans (hb1.mono (by simp))⟩
 ·clear hm;have a1:∀w,(Op.stringOp .add ⟨#[124]⟩ (dM J)).run prog w = .ok (.string (dM (124::J))) w:=fun w=>cA (a:=[124]) rfl (by simp;omega) w
  have a2:∀w,(Op.stringOp .add (dM (124::J)) ⟨#[124]⟩).run prog w = .ok (.string (dM (124::(J++[124])))) w:=fun w=>cA (a:=124::J) (b:=[124]) rfl (by simp;omega) w
  go_enter func78,ntmps78;go_wp2_with (go_at_call 98;refine (hlist.out _ (hr.alloc _)).mono ?_;rintro e w1 ⟨rfl,hb1⟩)
  go_ret
  exact ⟨gJ (by simp [dM]),bw1.trans (hb1.mono (by simp))⟩
 ·clear hm;have a1:∀w,(Op.stringOp .add ⟨#[64,60]⟩ (dM J)).run prog w = .ok (.string (dM (64::60::J))) w:=fun w=>cA (a:=[64,60]) rfl (by simp;omega) w
  have a2:∀w,(Op.stringOp .add (dM (64::60::J)) ⟨#[62]⟩).run prog w = .ok (.string (dM (64::60::(J++[62])))) w:=fun w=>cA (a:=64::60::J) (b:=[62]) rfl (by simp;omega) w
  go_enter func78,ntmps78;go_wp2_with (go_at_call 98;refine (hlist.out _ (hr.alloc _)).mono ?_;rintro e w1 ⟨rfl,hb1⟩)
  go_ret
  exact ⟨gJ (by simp [dM]),bw1.trans (hb1.mono (by simp))⟩
theorem aPm {d:Nat}{t:Tm}{b:List UInt8}(h:Tx d t b):∀(k n:Int) (ks:List Tm),t = .mk k n ks→gK k n ks b:=by
 induction h with
 | var d n c h=>rintro k' n' ks' ⟨⟩;exact aOl n c h
 | sort d n c h=>rintro k' n' ks' ⟨⟩;exact aKk n c h
 | nat d=>rintro k' n' ks' ⟨⟩;exact aLn
 | zero d=>rintro k' n' ks' ⟨⟩;exact aKy
 | pre d k c t b h ht ih=>rintro k' n' ks' ⟨⟩;obtain ⟨k1,n1,ks1⟩:=t;exact aMk h (ih k1 n1 ks1 rfl)
 | rnd d k c t u x y h ht hu i1 i2=>rintro k' n' ks' ⟨⟩;obtain ⟨k1,n1,ks1⟩:=t;obtain ⟨k2,n2,ks2⟩:=u;exact aOa h (i1 k1 n1 ks1 rfl) (i2 k2 n2 ks2 rfl)
 | lam d t u x y ht hu i1 i2=>rintro k' n' ks' ⟨⟩;obtain ⟨k1,n1,ks1⟩:=t;obtain ⟨k2,n2,ks2⟩:=u;exact aOt (i1 k1 n1 ks1 rfl) (i2 k2 n2 ks2 rfl)
 | blk d k m o c ts xs h hm hx ht ih=>rintro k' n' ks' ⟨⟩;exact aMx h ts xs hm hx fun j k n ks x h1 h2=>ih j (.mk k n ks) x h1 h2 k n ks rfl
theorem aJ {k n:Int}{ks:List Tm}(h:aE (.mk k n ks)=true):aH ks≤400:=by
 simp only [aE,Bool.and_eq_true,decide_eq_true_eq] at h
 have:=h.2;rw [Tm.size] at this;omega
theorem aGl {t:Tm}{b:List UInt8}{d:Nat}(h:Tx d t b)(k n:Int)(ks:List Tm)(ht:t = .mk k n ks)(hv:aE t=true)(hb:b.length≤100000)(A:Option Addr)(c:Nat)(w:World)(hr:Rd w A 0 ks) :
  Calls prog 53 #[.agg (Ro k n A ks.length c)] w fun e w'=>e = .returned (.string (dM b))∧Bw w w':=by
 have htx:=aD (aPm h k n ks ht);subst ht;have hM:=aJ hv;have hv':=aD hv;clear hv h;go_enter func53,ntmps53;go_wp2_with (first
  | (go_at_call 78;refine (htx.out A c _ hb ((hr.alloc _).below hb1)).mono ?_;rintro e w2 ⟨rfl,hb2⟩)
  | (go_at_call 21;refine (aU k n ks A c _ (by omega) (hr.alloc _)).mono ?_;rw [hv'.out];rintro e w1 ⟨rfl,hb1⟩;have hB:=(aC w 25 (Ro k n A ks.length c) rfl).keep hb1;have x0:=hB.at_ (i:=0) rfl;have x1:=hB.at_ (i:=1) rfl;have x2:=hB.at_ (i:=2) rfl))
 go_ret
 exact ⟨rfl,(bw1.trans (hb1.mono (by simp))).trans (hb2.mono (by have:=hb1.size;simp at this;omega))⟩
def pV (t:Tm)(b:List UInt8):Prop:=Tx 30 t b∧aE t=true∧b.length≤1000
def aWo (w:World)(k n:Int)(ks:List Tm)(e:Ending)(w':World):Prop:=
 ∃A c,e = .returned (.tuple #[.agg (Ro k n A ks.length c),.bool true])∧ks.length≤9223372036854775807∧Fresh w.heap.size w' A ks∧Bw w w'
theorem yK {k n:Int}{ks:List Tm}{b:List UInt8}(h:pV (.mk k n ks) b)(w:World):Calls prog 34 #[.string (dM b)] w (aWo w k n ks):=by
 obtain ⟨htx,hv,hb⟩:=h;have hs:(dM b).size=b.length:=by simp [dM,ByteArray.size]
 have hpar:=aD (fun w=>aIt htx k n ks rfl (dM b) 0 0 30 w (by rw [hs];omega) rfl (Has.all b) (Nd.out (by rw [hs];omega)) (by omega) (by omega));have hfm:=aD (fun A c w hr=>aGl htx k n ks rfl hv (by omega) A c w hr);have q1:((dM b).toList==[])=false:=by
  have:=htx.ne;cases b with
  | nil=>exact absurd rfl this
  | cons x xs=>simp [dM]
 have q2:(dM b).toList.isEmpty=false:=by
  have:=htx.ne;cases b with
  | nil=>exact absurd rfl this
  | cons x xs=>simp [dM]
 have q3:((dM b).toList==(dM b).toList)=true:=by simp
 have hpos:0<b.length:=List.length_pos_iff.2 htx.ne;clear htx hv;go_enter func34,ntmps34;go_wp2_with (first
  | (go_at_call 53;refine (hfm.out A1 c1 _ (hf1.rd.alloc _)).mono ?_;rintro e w2 ⟨rfl,hb2⟩;replace hX:=hX.keep hb2;replace hZ:=(hZ.alloc _).keep hb2;have x0:=hX.at_ (i:=0) rfl;have x1:=hX.at_ (i:=1) rfl;have x2:=hX.at_ (i:=2) rfl;have d0:=hZ.at_ (i:=0) rfl;have d1:=hZ.at_ (i:=1) rfl;have d2:=hZ.at_ (i:=2) rfl;obtain ⟨e0,e1,e2⟩:=lF hZ;have lx:=hX.lt;have lz:=hZ.lt)
  | (go_at_call 52;refine (hpar.out _).mono ?_;rintro e w1 ⟨m,A1,c1,hm,rfl,hl1,hf1,hb1⟩;rw [Nat.zero_add] at hm;subst hm;have hZ:=(aC w 25 Zr rfl).keep hb1;have g1:Bw w w1:=bQ bw1 hb1;have s1:=g1.size;have hX:=aC w1 25 (Ro k n A1 ks.length c1) rfl;have lz1:=hZ.lt))
 have hf2:=(hf1.alloc (.cells (Ro k n A1 ks.length c1) 25)).below hb2;have g2:Bw w w2:=(g1.alloc (by omega) _).trans (hb2.mono (by simp;omega));refine bodyPost_ret (v:=.tuple #[.agg (Ro k n A1 ks.length c1),.bool true]) (by simp [results,results34,go_sem,d0,d1,d2]) rfl ⟨A1,c1,rfl,hl1,?_,(bT g2)⟩;exact (mU hf2).mono (by simp)
def aQs (xs:List (List UInt8)):Array Value:=(xs.map fun x=>Value.string (dM x)).toArray
theorem aNx {xs:List (List UInt8)}{j:Nat}(h:j<xs.length):(aQs xs)[j]?=some (.string (dM xs[j])):=by simp [aQs,oE h]
def Rdr (B:Nat)(w:World)(r p:Nat):Prop:=
 ∃(A:Option Addr) (bs:List Int) (c:Nat),Blk w r #[.slice A bs.length c,.int .i64 p]∧bs.length≤2000∧r<B∧
  ∀j (hj:j<bs.length),∃b off,A=some ⟨b,off,none⟩∧w.cell? ⟨b,off+j,none⟩=some (.int .u8 bs[j])∧0≤bs[j]∧bs[j]≤255∧b≠r∧b<B
theorem Rdr.keep {B r p:Nat}{w w':World}(h:Rdr B w r p)(hk:∀b,b<B→w'.heap[b]?=w.heap[b]?):Rdr B w' r p:=by
 obtain ⟨A,bs,c,⟨t,h1⟩,h2,h3,h4⟩:=h;refine ⟨A,bs,c,⟨t,(hk r h3).trans h1⟩,h2,h3,fun j hj=>?_⟩;obtain ⟨b,off,e,h5,h6,h7,h8,h9⟩:=h4 j hj;exact ⟨b,off,e,(World.cell?_of_block (w:=w) (a:=⟨b,off+j,none⟩) (hk b h9)).trans h5,h6,h7,h8,h9⟩
theorem Rdr.below {B B' r p:Nat}{w w':World}(h:Rdr B w r p)(hb:Below B' w w')(hB:B≤B'):Rdr B w' r p:=h.keep fun b hl=>hb.block b (by omega)
theorem Rdr.alloc {B r p:Nat}{w:World}(h:Rdr B w r p)(hB:B≤w.heap.size)(o:Obj):Rdr B (w.alloc o) r p:=h.keep fun b hl=>Below.heap_alloc w o b (by omega)
theorem Rdr.drew {B r p:Nat}{w:World}(h:Rdr B w r p):Rdr B w.drew r p:=h
theorem Rdr.setCell {B r p:Nat}{w:World}(h:Rdr B w r p){a:Addr}(ha:B≤a.block)(u:Value):Rdr B (w.setCell a u) r p:=h.keep fun b hl=>oM w a u b (by omega)
theorem Rdr.step {B r p:Nat}{w:World}(h:Rdr B w r p)(q:Nat):Rdr B (w.setCell ⟨r,1,none⟩ (.int .i64 q)) r q:=by
 obtain ⟨A,bs,c,h1,h2,h3,h4⟩:=h;refine ⟨A,bs,c,h1.set_ 1 _,h2,h3,fun j hj=>?_⟩;obtain ⟨b,off,e,h5,h6,h7,h8,h9⟩:=h4 j hj;exact ⟨b,off,e,(World.cell?_of_block (w:=w) (a:=⟨b,off+j,none⟩) (oM w _ _ b h8)).trans h5,h6,h7,h8,h9⟩
def aVa (B:Nat)(w:World)(r p:Nat)(n:Int)(e:Ending)(w':World):Prop:=
 ∃m:Nat,e = .returned (.int .i64 m)∧(1≤n→(m:Int)<n)∧(n<1→m=0)∧Rdr B w' r (p+1)∧w.grownBy w' (some r)
theorem aAe (a:Nat)(ha:a<9223372036854775808):(BitVec.ofInt 64 (a:Int)).toNat=a:=by
 rw [BitVec.ofInt_natCast,BitVec.toNat_ofNat];exact Nat.mod_eq_of_lt (by omega)
theorem aDl (a b:Nat)(ha:a<9223372036854775808)(hb:b<9223372036854775808):bits .xor .i64 (a:Int) (b:Int)=((a ^^^ b:Nat):Int):=by
 have hx:a ^^^ b<2 ^ 63:=Nat.xor_lt_two_pow (by omega) (by omega);show IntKind.i64.wrap ((BitVec.ofInt 64 (a:Int) ^^^ BitVec.ofInt 64 (b:Int)).toNat:Int)=_
 rw [BitVec.toNat_xor,aAe a ha,aAe b hb,IntKind.wrap_i64];omega
theorem aQc (x1 x2:Int)(p dv:Nat)(h1:0≤x1)(h2:x1≤255)(h3:0≤x2)(h4:x2≤255)(h5:p≤1000000000)(h6:dv≤p) :
  wrap64 (x1*131+x2*1117+(p:Int)*29+wrap64 (wrap64 (dv:Int)*53))=x1*131+x2*1117+(p:Int)*29+(dv:Int)*53∧0≤x1*131+x2*1117+(p:Int)*29+(dv:Int)*53∧x1*131+x2*1117+(p:Int)*29+(dv:Int)*53≤((200000000000:Nat):Int):=by
 have e1:wrap64 (dv:Int)=dv:=IntWalk.wrap64_in _ ⟨by omega,by omega⟩;have e2:wrap64 ((dv:Int)*53)=(dv:Int)*53:=IntWalk.wrap64_in _ ⟨by omega,by omega⟩;rw [e1,e2];exact ⟨IntWalk.wrap64_in _ ⟨by omega,by omega⟩,by omega,by omega⟩
theorem aNg (m:Nat)(h:m≤200000000000):wrap64 ((m:Int) / 64)=(m:Int) / 64:=IntWalk.wrap64_in _ ⟨by omega,by omega⟩
theorem jW (B r p:Nat)(n:Int)(w:World)(hp:p≤1000000000)(hn:n≤1000000000)(hB:B≤w.heap.size)(hr:Rdr B w r p) :
  Calls prog 14 #[.pointer (some ⟨r,0,none⟩),.int .i64 n] w (aVa B w r p n):=by
 have hst:=hr.step (p+1);obtain ⟨A,bs,c,h1,h2,h3,h4⟩:=hr;have b0:=h1.at_ (i:=0) rfl;have b1:=h1.at_ (i:=1) rfl;have e1:=h1.frozen 1;have b2:=(h1.set_ 1 (.int .i64 (p+1:Nat))).at_ (i:=0) rfl;have b3:=(h1.set_ 1 (.int .i64 (p+1:Nat))).at_ (i:=1) rfl;have hg:w.grownBy (w.setCell ⟨r,1,none⟩ (.int .i64 (p+1:Nat))) (some r):=aG (iM _ _) (.inl rfl) _;by_cases hn1:n<1
 ·go_enter func14,ntmps14;go_wp2_with fail
  go_ret
  exact ⟨0,rfl,by omega,fun _=>rfl,hst,hg⟩
 ·by_cases hl:bs.length=0
  ·have hq:((bs.length:Int)==0)=true:=by simp [hl]
   have hl':=aD hl;clear hl;go_enter func14,ntmps14;go_wp2_with fail
   go_ret
   exact ⟨0,rfl,fun h=>by simp;omega,fun _=>rfl,hst,hg⟩
  ·have hq:((bs.length:Int)==0)=false:=beq_eq_false_iff_ne.2 (by omega);by_cases hk:p<bs.length
   ·obtain ⟨b,off,rfl,h5,h6,h7,h8,h9⟩:=h4 p hk;generalize bs[p]=x at *
    have h5':(w.setCell ⟨r,1,none⟩ (.int .i64 (p+1:Nat))).cell? ⟨b,off+p,none⟩=some (.int .u8 x):=(World.cell?_of_block (w:=w) (a:=⟨b,off+p,none⟩) (oM w _ _ b h8)).trans h5;go_enter func14,ntmps14;go_wp2_with fail
    go_ret
    refine ⟨(x % n).toNat,?_,fun h=>?_,fun h=>(by omega),hst,hg⟩
    ·rw [Int.toNat_of_nonneg (Int.emod_nonneg _ (by omega))];rfl
    ·rw [Int.toNat_of_nonneg (Int.emod_nonneg _ (by omega))];exact Int.emod_lt_of_pos _ (by omega)
   ·have hlp:0<bs.length:=by omega
    have hj1:=Nat.mod_lt p hlp;have t1:(p:Int).tmod (bs.length:Int)=((p % bs.length:Nat):Int):=by rw [Int.tmod_eq_emod_of_nonneg (by omega)];rfl
    generalize p % bs.length=j1 at hj1 t1
    have t2:IntKind.i64.wrap ((p:Int)*7)=((p*7:Nat):Int):=by rw [IntWalk.i64_in _ (by omega)];omega
    obtain ⟨q7,hq7⟩:∃q7,p*7=q7:=⟨_,rfl⟩;rw [hq7] at t2;have t3:IntKind.i64.wrap ((q7:Int)+3)=((q7+3:Nat):Int):=by rw [IntWalk.i64_in _ (by omega)];omega
    obtain ⟨q8,hq8⟩:∃q8,q7+3=q8:=⟨_,rfl⟩;rw [hq8] at t3;have hj2:=Nat.mod_lt q8 hlp;have t4:(q8:Int).tmod (bs.length:Int)=((q8 % bs.length:Nat):Int):=by rw [Int.tmod_eq_emod_of_nonneg (by omega)];rfl
    generalize q8 % bs.length=j2 at hj2 t4
    obtain ⟨ba,offa,rfl,a5,a6,a7,a8,a9⟩:=h4 j1 hj1;obtain ⟨bb,offb,hA,c5,c6,c7,c8,c9⟩:=h4 j2 hj2;injection hA with hA;injection hA with hA1 hA2;subst hA1 hA2;generalize bs[j1]=x1 at *
    generalize bs[j2]=x2 at *
    have a5':(w.setCell ⟨r,1,none⟩ (.int .i64 (p+1:Nat))).cell? ⟨ba,offa+j1,none⟩=some (.int .u8 x1):=(World.cell?_of_block (w:=w) (a:=⟨ba,offa+j1,none⟩) (oM w _ _ ba a8)).trans a5;have c5':(w.setCell ⟨r,1,none⟩ (.int .i64 (p+1:Nat))).cell? ⟨ba,offa+j2,none⟩=some (.int .u8 x2):=(World.cell?_of_block (w:=w) (a:=⟨ba,offa+j2,none⟩) (oM w _ _ ba a8)).trans c5;have hdv:=Nat.div_le_self p bs.length;have t10:(p:Int).tdiv (bs.length:Int)=((p / bs.length:Nat):Int):=by rw [Int.tdiv_eq_ediv_of_nonneg (by omega)];rfl
    generalize p / bs.length=dv at hdv t10
    obtain ⟨hX,hX0,hX1⟩:=aQc x1 x2 p dv a6 a7 c6 c7 hp hdv;obtain ⟨m8,hm8⟩:∃m8:Nat,x1*131+x2*1117+(p:Int)*29+(dv:Int)*53=(m8:Int):=⟨(x1*131+x2*1117+(p:Int)*29+(dv:Int)*53).toNat,(Int.toNat_of_nonneg hX0).symm⟩;rw [hm8] at hX hX0 hX1;have hb8:m8≤200000000000:=Int.ofNat_le.1 hX1;clear hX0 hX1;have t14:wrap64 ((m8:Int) / 64)=(m8:Int) / 64:=aNg m8 hb8;have hb9:m8 / 64≤m8:=Nat.div_le_self _ _;have t13:bits .xor .i64 (m8:Int) ((m8:Int) / 64)=((m8 ^^^ (m8 / 64):Nat):Int):=by
     have:=aDl m8 (m8 / 64) (by omega) (by omega);rw [← this];rfl
    generalize m8 ^^^ (m8 / 64)=m9 at t13
    have hX':=aD hX;have T13:=aD t13;have T14:=aD t14;clear t13 t14;clear hm8 hq8 hq7 h4 h1 hdv hX;go_enter func14,ntmps14;go_wp2_with fail
    refine aN ?_;intro wx hwx;have r0:wx.cell? ⟨r,0,none⟩=some (.slice (some ⟨ba,offa,none⟩) bs.length c):=by rw [hwx];exact b2
    have r1:wx.cell? ⟨ba,offa+j1,none⟩=some (.int .u8 x1):=by rw [hwx];exact a5'
    have r2:wx.cell? ⟨ba,offa+j2,none⟩=some (.int .u8 x2):=by rw [hwx];exact c5'
    have hgx:w.grownBy wx (some r):=by rw [hwx];exact hg
    have hsx:Rdr B wx r (p+1):=by rw [hwx];exact hst
    replace r0:=aF r0;replace r1:=aF r1;replace r2:=aF r2;clear hwx hg hst a5' c5' b2 b3;refine bK (fun w'=>Bw wx w') [0,1,2,3,4,5,6,7,8,9,10,11,12,13,14,15,16,17,18,19,20,21,22,23,24,25,26,27,28,29,30,31,32,33,34,35,36,37,38,39,40,41,42,43,44,45] [] [] [_,_,_,_,_,_,_,_,_,_,_,_,_,_,_,_,_,_,_,_,_,_,_,_,_,_,_,_,_,_,_,_,_,_,_,_,_,_,_,_,_,_,_,_,_,_] [] [] (by kernel_rfl) (by kernel_rfl) rfl rfl rfl (fun _ _ d _ _ h=>by cases d<;>exact h) (fG _ _).drew ?_;refine bV (aD ?_);refine cZ ?_;have hX:=hX'.out;go_wp2_with fail
    go_ret
    refine ⟨(m9 % n.toNat:Nat),?_,fun h=>?_,fun h=>(by omega),hsx,dR hgx⟩
    ·have hc:((m9 % n.toNat:Nat):Int)=(m9:Int) % n:=by
      rw [Int.natCast_emod,Int.toNat_of_nonneg (by omega)]
     rw [hc];show Ending.returned (.int .i64 ((bits .xor .i64 (m8:Int) (wrap64 ((m8:Int) / 64))).tmod n))=_
     rw [T14.out,T13.out,Int.tmod_eq_emod_of_nonneg (by omega)]
    ·have h5:=Nat.mod_lt m9 (show 0<n.toNat by omega);omega
def RdY (w:World)(A:Option Addr)(bs:List Int):Prop:=∀j (hj:j<bs.length),∃b off,A=some ⟨b,off,none⟩∧w.cell? ⟨b,off+j,none⟩=some (.int .u8 bs[j])∧0≤bs[j]∧bs[j]≤255
theorem RdY.take {w:World}{A:Option Addr}{bs:List Int}(h:RdY w A bs)(n:Nat):RdY w A (bs.take n):=fun j hj=>by
 rw [List.length_take] at hj;obtain ⟨b,off,e,h1,h2,h3⟩:=h j (by omega);exact ⟨b,off,e,by rw [List.getElem_take];exact h1,by rw [List.getElem_take];exact h2,by rw [List.getElem_take];exact h3⟩
theorem RdY.keeps {w w':World}{A:Option Addr}{bs:List Int}(h:RdY w A bs)(hk:Keeps w w'):RdY w' A bs:=fun j hj=>by
 obtain ⟨b,off,e,h1,h2,h3⟩:=h j hj;exact ⟨b,off,e,hk _ _ h1,h2,h3⟩
theorem Rdr.new {w:World}{A:Option Addr}{bs:List Int}{c:Nat}{t:TypeId}(h:RdY w A bs)(hl:bs.length≤2000):Rdr (w.heap.size+1) (w.alloc (.cells #[.slice A bs.length c,.int .i64 0] t)) w.heap.size 0:=
 ⟨A,bs,c,aC _ _ _ rfl,hl,by omega,fun j hj=>by
  obtain ⟨b,off,e,h1,h2,h3⟩:=h j hj;have hb:=kY _ _ h1;have hb:b<w.heap.size:=hb;exact ⟨b,off,e,Keeps.alloc _ _ _ _ h1,h2,h3,by omega,by omega⟩⟩
def aTt (w:World)(e:Ending)(w':World):Prop:=∃r,e = .returned (.pointer (some ⟨r,0,none⟩))∧w.heap.size≤r∧r<w'.heap.size∧Rdr w'.heap.size w' r 0∧Bw w w'
theorem Rdr.mono {B B':Nat}{w:World}{r p:Nat}(h:Rdr B w r p)(hB:B≤B'):Rdr B' w r p:=by
 obtain ⟨A,bs,c,h1,h2,h3,h4⟩:=h;exact ⟨A,bs,c,h1,h2,by omega,fun j hj=>by obtain ⟨b,off,e,h5,h6,h7,h8,h9⟩:=h4 j hj;exact ⟨b,off,e,h5,h6,h7,h8,by omega⟩⟩
theorem aLp (bs:List Int)(A:Option Addr)(c:Nat)(w:World)(hl:bs.length≤9223372036854775807)(hc:bs.length≤c)(hr:RdY w A bs):Calls prog 11 #[.slice A bs.length c] w (aTt w):=by
 by_cases h2:bs.length≤2000
 ·go_enter func11,ntmps11;go_wp2_with fail
  go_ret
  exact ⟨w.heap.size,rfl,pS _,by simp,by simpa using Rdr.new hr h2,bw1⟩
 ·have hr2:=hr.take 2000;have hl2:(bs.take 2000).length=2000:=by rw [List.length_take];omega
  have hc2:2000≤c:=by omega
  generalize bs.take 2000=bs2 at hr2 hl2
  have hl2':=aD hl2;clear hl2;go_enter func11,ntmps11;go_wp2_with fail
  go_ret
  refine ⟨w.heap.size,rfl,pS _,by simp,?_,bw1⟩;have:=Rdr.new (c:=c) (t:=56) hr2 (by have:=hl2'.out;omega);rw [hl2'.out] at this;simpa using this
def aBs (xs:List Int):Array Value:=(xs.map (Value.int .i64)).toArray
theorem aPa {xs:List Int}{j:Nat}(h:j<xs.length):(aBs xs)[j]?=some (.int .i64 xs[j]):=by simp [aBs,oE h]
def aXh (B:Nat)(w:World)(r p:Nat)(xs:List Int)(e:Ending)(w':World):Prop:=
 ∃x,x∈xs∧e = .returned (.int .i64 x)∧Rdr B w' r (p+1)∧w.grownBy w' (some r)
theorem jK (xs:List Int)(B r p g:Nat)(w:World)(hx:0<xs.length)(hx2:xs.length≤1000)(hp:p≤1000000000)(hB:B≤w.heap.size)(hr:Rdr B w r p)(hL:Blk w g (aBs xs))(hg:r≠g) :
  Calls prog 13 #[.pointer (some ⟨r,0,none⟩),.slice (some ⟨g,0,none⟩) xs.length xs.length] w (aXh B w r p xs):=by
 go_enter func13,ntmps13;go_wp2_with (go_at_call 14;refine (jW B r p xs.length _ hp (by omega) hB hr).mono ?_;rintro e w1 ⟨m,rfl,hm,hm0,hr1,hg1⟩;have hm:=hm (by omega);clear hm0;have hm':m<xs.length:=(by omega);have hc:w1.cell? ⟨g,m,none⟩=some (.int .i64 xs[m]):=(hL.grown hg1 (by simpa using hg.symm)).at_ (aPa hm'))
 go_ret
 exact ⟨xs[m],iS hm',rfl,hr1,hg1⟩
end Go.Proofs.YtajjhldcjikkpaaGreat
