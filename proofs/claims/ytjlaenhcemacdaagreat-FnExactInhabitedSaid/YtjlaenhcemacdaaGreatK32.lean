/- Parts of the proof. No condition. -/
import Derived.Test.YtjlaenhcemacdaaGreatK27
open Go.Proofs.Tryz
namespace Go.Proofs.YtjlaenhcemacdaaGreat
open Go.RowKit
set_option maxHeartbeats 8000000
set_option maxRecDepth 100000
set_option linter.unusedSimpArgs false
set_option linter.unusedVariables false
theorem aRd (N:Nat)(ctx:List Tm)(C:Ba)(cc:Nat)(k n:Int)(ks:List Tm)(A:Ba)(c:Nat)(k2 n2:Int)(s2:List Tm)(A2:Ba)(c2:Nat)(r:Rs Unit)(w:Bb)(hs:lC (bW N ctx (.mk k n ks)) (.mk k2 n2 s2)=some r)(hv2:aE (.mk k2 n2 s2)=true)(hvc:∀u,u∈ctx->aE u=true)(hm:ctx.length<=20)(hrc:Rd w C 0 ctx)(hra:Rd w A 0 ks)(hr2:Rd w A2 0 s2) :
  Calls prog 62 #[.slice C ctx.length cc,.agg (Ro k n A ks.length c),.agg (Ro k2 n2 A2 s2.length c2)] w (GtC w r):=by
 have hv2':=aD hv2;rcases aM hs with ⟨b,h1,rfl⟩|⟨s,h1,h2⟩
 ·have qb:=dP b;have hI:=aD (λ(w:Bb) (hrc:Rd w C 0 ctx) (hra:Rd w A 0 ks)=>sY N ctx k n ks _ hm h1 hvc C cc A c w hrc hra);clear hs h1 hvc hv2;go_enter func62,ntmps62;go_wp2_with (go_at_call 96;refine (hI.out _ ((hrc.alloc _).alloc _) ((hra.alloc _).alloc _)).mono ?_;rintro e w1 ⟨rfl,hb1⟩;have g1:Bw w w1:=bN bw2 hb1);go_ret;exact ⟨rfl,g1.alloc g1.size _⟩
 ·obtain ⟨k1,n1,s1⟩:=s;have hv1:=aD (iD h1);have hI:=aD (λ(w:Bb) (hrc:Rd w C 0 ctx) (hra:Rd w A 0 ks)=>sY N ctx k n ks _ hm h1 hvc C cc A c w hrc hra);obtain rfl:tR (.mk k1 n1 s1) (.mk k2 n2 s2)=r:=Option.some.inj h2;clear hs h1 hvc hv2 h2;go_enter func62,ntmps62;go_wp2_with (first
   | (go_at_call 97;have _t:=tok1;refine (kE k1 n1 s1 A1 c1 k2 n2 s2 A2 c2 _ hv1.out hv2'.out (r1.alloc _) ((hr2.below g1).alloc _)).mono ?_;rintro e w2 ⟨rfl,hb2⟩;have g2:=(g1.alloc g1.size (.cells (Ro k1 n1 A1 s1.length c1) 32)).trans (hb2.mono (by have:=g1.size;simp;omega)))
   | (go_at_call 96;refine (hI.out _ ((hrc.alloc _).alloc _) ((hra.alloc _).alloc _)).mono ?_;rintro e w1 ⟨A1,c1,rfl,hl1,r1,hb1⟩;have hY:=jI hb1;have g1:Bw w w1:=bN bw2 hb1;have lz:=hY.lt;obtain ⟨y0,y1,y2⟩:=hY.three;have tok1:=trivial))
  go_ret;exact ⟨rfl,g2⟩
theorem aHy (ctx:List Tm)(C:Ba)(cc:Nat)(k n:Int)(ks:List Tm)(A:Ba)(c:Nat)(k2 n2:Int)(s2:List Tm)(A2:Ba)(c2:Nat)(b:Bool)(w:Bb)(hb:xB ctx (.mk k2 n2 s2) (.mk k n ks)=b)(hG:SemG ctx)(hvc:∀u,u∈ctx->aE u=true)(hm:ctx.length<=20)(hv:aE (.mk k n ks)=true)(hv2:aE (.mk k2 n2 s2)=true)(hrc:Rd w C 0 ctx)(hra:Rd w A 0 ks)(hr2:Rd w A2 0 s2) :
  Calls prog 62 #[.slice C ctx.length cc,.agg (Ro k n A ks.length c),.agg (Ro k2 n2 A2 s2.length c2)] w λe w'=>∃co:Int,e = .returned (.int .i64 co)/\(co==0)=b/\Bw w w':=by
 obtain ⟨N,q,h1,h2⟩:=aIn hG (.mk k n ks) (.mk k2 n2 s2);rw [hb] at h2;obtain ⟨q',h3,h4⟩:=pL (qF N ctx (.mk k n ks) hv) (.mk k2 n2 s2) q h1;exact (aRd (2*N) ctx C cc k n ks A c k2 n2 s2 A2 c2 q' w h3 hv2 hvc hm hrc hra hr2).mono λe w' h=>⟨q'.cd,h.1,aSv q' (h2.trans (h4 ())),h.2⟩
theorem yT {P:Program}(t e:TypeId)(i:TypeInfo)(z:Value)(ht:P.underlying t=some (.slice e))(hi:P.info? e=some i)(hz:i.zero=some z)
  (kl kc : IntKind) (n c : Nat) (hnc : n <= c) (hbytes : i.bytes * c <= 281474976710656) (h63 : c <= 9223372036854775807) (w : Bb) :
  (Instr.makeSlice t (.int kl (n : Int)) (.int kc (c : Int))).run P w = .ok (.slice (some ⟨w.heap.size, 0, none⟩) n c) (w.alloc (.cells (madeCells z.cells (c * i.size)) e)) := by
 have hb:(i.bytes:Int)*(c:Int)<=281474976710656:=by
  have h:((i.bytes*c:Nat):Int)<=281474976710656:=by omega
  rwa [Int.natCast_mul] at h
 have hr:=run_make (P:=P) w t e i z ht hi hz kl kc n c Ac Ac hb Ac;simp only [Int.toNat_natCast] at hr;exact hr
theorem aMu (n:Nat)(hn:n<=1099511627776)(W:Bb):(Instr.makeSlice 29 (.int .i64 (n:Int)) (.int .i64 (n:Int))).run prog W = .ok (.slice (some ⟨W.heap.size,0,none⟩) n n)
  (W.alloc (.cells (madeCells Zr (n * 3)) 32)) := by
 obtain ⟨i0,hi,hz0,hz1,hz2⟩:=info_parts mJ;have h:=yT (P:=prog) 29 32 i0 _ Tryz.underlying29 hi hz0 .i64 .i64 n n (mC _) (by rw [hz2];omega) Ac W;rw [hz1] at h;exact h
theorem aRo (n:Nat)(W:Bb):Fill (W.alloc (.cells (madeCells Zr (n*3)) 32)) W.heap.size n []:=Fill.start (by simp [madeCells])
def uT (left:Int)(m:Nat):Int:=if left<m then -1 else left - m
theorem aPi (left:Int)(m:Nat)(h0:0<=left) : -1<=uT left m/\uT left m<=left:=by unfold uT;split<;>omega
theorem aRp {left:Int}{m:Nat}(h:0<=uT left m):(m:Int)<=left/\uT left m=left - m:=by unfold uT at *;split<;>simp_all
theorem aRx {left:Int}{m:Nat}(h:uT left m<0):left<m:=by unfold uT at *;split at h<;>omega
theorem aGn {left:Int}{m:Nat}(h:left<m):uT left m = -1:=by unfold uT;rw [Av h]
theorem aBl {left:Int}{m:Nat}(h:m<=left):uT left m=left - m:=by unfold uT;rw [Aw Ac]
def oU:List Tm->Nat|[]=>0|t::ts=>aG t.ks+oU ts
theorem aHs (ks:List Tm):aG ks=ks.length+oU ks:=by
 induction ks with
 | nil=>simp [aG,oU]
 | cons t ts ih=>cases t;simp only [aG,oU,Tm.size,Tm.ks,List.length_cons,ih];omega
theorem uU (a b:List Tm):oU (a++b)=oU a+oU b:=by
 induction a with
 | nil=>simp [oU]
 | cons x r ih=>simp only [List.cons_append,oU,ih];omega
theorem aKs (ks:List Tm)(j:Nat)(hj:j<ks.length):oU (ks.take (j+1))=oU (ks.take j)+aG ks[j].ks:=by
 rw [tM hj,uU];simp [oU]
theorem aQx (ks:List Tm)(j:Nat):oU (ks.take j)<=oU ks:=by
 have:=uU (ks.take j) (ks.drop j);rw [List.take_append_drop] at this;omega
theorem aAt {N:Nat}(ih:∀(ks:List Tm) (A:Ba) (c:Nat) (left:Int) (w:Bb),aG ks<N->ks.length<=9223372036854775807->Rd w A 0 ks->0<=left->left<=1048576->
      Calls prog 7 #[.slice A ks.length c,.int .i64 left] w λe w'=>e = .returned (.int .i64 (uT left (aG ks)))/\Bw w w')
    (k n:Int) (ks:List Tm) (A:Ba) (c:Nat) (left:Int) (w:Bb) (hN:aG ks<N) (hl:ks.length<=9223372036854775807) (hr:Rd w A 0 ks) (h0:0<=left) (h1:left<=1048576) :
    Calls prog 8 #[.agg (Ro k n A ks.length c),.int .i64 left] w λe w'=>e = .returned (.int .i64 (uT left (aG ks)))/\Bw w w':=by
  have hz:=aPi left (aG ks) h0;go_enter func8,ntmps8;go_wp2_with (go_at_call 7;refine (ih ks A c left _ hN hl (hr.alloc _) h0 h1).mono ?_;rintro e w' ⟨rfl,hb⟩);all_goals go_ret
  · exact ⟨cN Ac,bw1.trans (hb.mono Ag)⟩
  · exact ⟨rfl,bw1.trans (hb.mono Ag)⟩
theorem mA (N:Nat):∀(ks:List Tm) (A:Ba) (c:Nat) (left:Int) (w:Bb),aG ks<N->ks.length<=9223372036854775807->Rd w A 0 ks->0<=left->left<=1048576->
      Calls prog 7 #[.slice A ks.length c,.int .i64 left] w λe w'=>e = .returned (.int .i64 (uT left (aG ks)))/\Bw w w':=by
  induction N with
  | zero=>
    intro ks A c left w hN;exact absurd hN (Nat.not_lt_zero _)
  | succ N ih=>
  intro ks A c left w hN hl hr h0 h1;have hss:=aHs ks;by_cases hlen:left<(ks.length:Int)
  · go_enter func7,ntmps7
    go_wp2_with fail;go_ret;exact ⟨cN (by unfold uT;rw [Av Ac]),eI _ _⟩
  · have H:=aD hss;clear hss
    go_enter func7,ntmps7;go_wp2_with fail;go_loopw [1,5] (λl i wr=>∃j:Nat,j<=ks.length/\i = .int .i64 j/\l = .int .i64 (left - ks.length - oU (ks.take j))/\0<=left - ks.length - oU (ks.take j)/\Bw w wr)
      (λ_ i _=>ks.length - (intOf i).toNat)
    case atStart=>exact ⟨0,Nat.zero_le _,rfl,by simp [oU],by simp [oU];omega,eI _ _⟩
    case round=>
      obtain ⟨j,hj,rfl,rfl,hp,hb⟩:=hrel;by_cases hlt:j<ks.length
      · obtain ⟨b,off,k,n,ks',A',c',rfl,hkj,hc1,hc2,hc3,hl',hr'⟩:=(hr.below hb).at_ hlt
        have hst:=aKs ks j hlt;have hsl:=aQx ks (j+1);have hsz:=cG (gM hlt);rw [hkj] at hst hsz;simp only [Tm.ks,Tm.size] at hst hsz;have hzz:=aPi (left - ks.length - oU (ks.take j)) (aG ks') hp;have H2:=aD hst;have H3:=aD hkj;clear hst hkj;go_wp2_with (go_at_call 8;refine (aAt ih k n ks' A' c' _ _ Ac hl' hr' Ac Ac).mono ?_;rintro e w' ⟨rfl,hb'⟩)
        · go_ret
          have hneg:=aRx (by assumption);exact ⟨cN (aGn (by have:=H.out;have:=H2.out;omega)).symm,hb.trans (hb'.mono hb.size)⟩
        · have hpos:=aRp (by assumption)
          go_roundw
          case rel=>exact ⟨j+1,by omega,by go_num,by rw [hpos.2,H2.out];go_num,by rw [H2.out];omega,hb.trans (hb'.mono hb.size)⟩
          case measure=>simp [intOf];omega
      · go_wp2_with fail
        go_ret;have hjl:j=ks.length:=by omega
        subst hjl;have:=H.out;rw [List.take_length] at *;exact ⟨cN (by rw [aBl Ac];omega),hb⟩
theorem xF (k n:Int)(ks:List Tm)(A:Ba)(c:Nat)(left:Int)(w:Bb)(hl:ks.length<=9223372036854775807)(hr:Rd w A 0 ks)(h0:0<=left)(h1:left<=1048576) :
  Calls prog 8 #[.agg (Ro k n A ks.length c),.int .i64 left] w λe w'=>e = .returned (.int .i64 (uT left (aG ks)))/\Bw w w':=
 aAt (N:=aG ks+1) (mA _) k n ks A c left w Ac hl hr h0 h1
def aSy (w:Bb)(ks:List Tm)(e:Ending)(w':Bb):Prop:=∃A c,e = .returned (.slice A ks.length c)/\ks.length<=c/\Fresh w.heap.size w' A ks/\Bw w w'
theorem zR {N:Nat}(ih:∀(ks:List Tm) (A:Ba) (c:Nat) (w:Bb),aG ks<N->aG ks<=1099511627776->Rd w A 0 ks->Calls prog 10 #[.slice A ks.length c] w (aSy w ks))
  (k n : Int) (ks : List Tm) (A : Ba) (c : Nat) (w : Bb) (hN : aG ks < N) (hM : aG ks <= 1099511627776) (hr : Rd w A 0 ks) :
  Calls prog 11 #[.agg (Ro k n A ks.length c)] w (rQ w k n ks):=by
 have hlen:=aJ ks;go_enter func11,ntmps11;go_wp2_with (go_at_call 10;refine (ih ks A c _ hN hM (((hr.alloc _).alloc _).alloc _)).mono ?_;rintro e w1 ⟨A1,c1,rfl,-,hf1,hb1⟩;obtain ⟨hc,hf⟩:=aOq hb1);refine bodyPost_ret (v:=.agg (Ro k n A1 ks.length c1)) (by simp [results,results11,go_sem,hc]) rfl ⟨A1,c1,rfl,by omega,?_,?_⟩
 ·exact ((vF hf1).setCell Ag _).mono Ai
 ·exact (((bw3.trans (hb1.mono Ai)).setCell Ai _).setCell Ag _).setCell Ag _ |>.setCell Ag _
theorem kG (N:Nat):∀(ks:List Tm) (A:Ba) (c:Nat) (w:Bb),aG ks<N->aG ks<=1099511627776->Rd w A 0 ks->Calls prog 10 #[.slice A ks.length c] w (aSy w ks):=by
 induction N with
 | zero=>intro ks A c w hN;exact absurd hN (Nat.not_lt_zero _)
 | succ N ih=>
 intro ks A c w hN hM hr;have hlen:=aJ ks;have hmk:=aMu ks.length Ac;go_enter func10,ntmps10;go_wp2_with fail;go_loopw [4] (λi wr=>∃j:Nat,j<=ks.length/\i = .int .i64 j/\Fill wr w.heap.size ks.length (ks.take j)/\Bw w wr) (λi _=>ks.length - (intOf i).toNat)
 case atStart=>exact ⟨0,Nat.zero_le _,rfl,aRo _ _,bw1⟩
 case round=>
  obtain ⟨j,hj,rfl,hfl,hb⟩:=hrel;by_cases hlt:j<ks.length
  ·obtain ⟨b,off,k',n',ks',A',c',rfl,hkj,hc1,hc2,hc3,hl',hr'⟩:=(hr.below hb).at_ hlt;have hsz:=cG (gM hlt);rw [hkj] at hsz;simp only [Tm.size] at hsz;have H3:=aD hkj;clear hkj;have hgl:=hfl.lt;go_wp2_with (go_at_call 11;refine (zR ih k' n' ks' A' c' _ Ac Ac hr').mono ?_;rintro e w1 ⟨A1,c1,rfl,hl1,hf1,hb1⟩;obtain ⟨u0,x0⟩:=(hfl.below hb1).cell (j:=j*3) Ac;obtain ⟨u1,x1⟩:=(hfl.below hb1).cell (j:=j*3+1) Ac;obtain ⟨u2,x2⟩:=(hfl.below hb1).cell (j:=j*3+2) Ac;have z0:=(hfl.below hb1).frozen (j*3);have z1:=(hfl.below hb1).frozen (j*3+1);have z2:=(hfl.below hb1).frozen (j*3+2));go_roundw
   case rel=>
    refine ⟨j+1,by omega,by go_num,?_,?_⟩
    ·rw [tM hlt,H3.out];exact hfl.set_ hb1 hf1 hl1 Ai hlt
    ·exact (((hb.trans (hb1.mono hb.size)).setCell Ag _).setCell Ag _).setCell Ag _
   case measure=>simp [intOf];omega
  ·have hjl:j=ks.length:=by omega
   subst hjl;rw [List.take_length] at hfl;go_wp2_with fail;go_ret;exact ⟨_,_,rfl,mC _,hfl.fresh (mC _),hb⟩
theorem oA (k n:Int)(ks:List Tm)(A:Ba)(c:Nat)(w:Bb)(hM:aG ks<=1099511627776)(hr:Rd w A 0 ks) :
  Calls prog 11 #[.agg (Ro k n A ks.length c)] w (rQ w k n ks):=
 zR (N:=aG ks+1) (kG _) k n ks A c w Ac hM hr
theorem aBe {N:Nat}(ih:∀(ks:List Tm) (A:Ba) (c:Nat) (ls:List Tm) (B:Ba) (d:Nat) (w:Bb),aG ks<N->ks.length<=9223372036854775807->ls.length<=9223372036854775807->Rd w A 0 ks->Rd w B 0 ls->
      Calls prog 14 #[.slice A ks.length c,.slice B ls.length d] w λe w'=>e = .returned (.bool (kW ks ls))/\Bw w w')
    (k n:Int) (ks:List Tm) (A:Ba) (c:Nat) (k' n':Int) (ls:List Tm) (B:Ba) (d:Nat) (w:Bb) (hN:aG ks<N) (hl:ks.length<=9223372036854775807) (hl':ls.length<=9223372036854775807) (hr:Rd w A 0 ks) (hr':Rd w B 0 ls) :
    Calls prog 15 #[.agg (Ro k n A ks.length c),.agg (Ro k' n' B ls.length d)] w λe w'=>e = .returned (.bool (gL (.mk k n ks) (.mk k' n' ls)))/\Bw w w':=by
  by_cases hk:k=k'
  · by_cases hn:n=n'
    · subst hk hn
      have h1:(k==k)=true:=by simp
      have h2:(n==n)=true:=by simp
      go_enter func15,ntmps15;go_wp2_with (go_at_call 14;refine (ih ks A c ls B d _ hN hl hl' ((hr.alloc _).alloc _) ((hr'.alloc _).alloc _)).mono ?_;rintro e w1 ⟨rfl,hb1⟩);all_goals go_ret
      all_goals refine ⟨dE ?_,bw2.trans (hb1.mono Ai)⟩
      all_goals simp_all [gL]
    · have h2:(n==n')=false:=by simpa using hn
      subst hk;go_enter func15,ntmps15;go_wp2_with fail;go_ret;exact ⟨dE (by simp [gL,h2]),bw2⟩
  · have h2:(k==k')=false:=by simpa using hk
    go_enter func15,ntmps15;go_wp2_with fail;go_ret;exact ⟨dE (by simp [gL,h2]),bw2⟩
theorem kJ (N:Nat):∀(ks:List Tm) (A:Ba) (c:Nat) (ls:List Tm) (B:Ba) (d:Nat) (w:Bb),aG ks<N->ks.length<=9223372036854775807->ls.length<=9223372036854775807->Rd w A 0 ks->Rd w B 0 ls->
      Calls prog 14 #[.slice A ks.length c,.slice B ls.length d] w λe w'=>e = .returned (.bool (kW ks ls))/\Bw w w':=by
  induction N with
  | zero=>intro ks A c ls B d w hN;exact absurd hN (Nat.not_lt_zero _)
  | succ N ih=>
  intro ks A c ls B d w hN hl hl' hr hr';by_cases hlen:ks.length=ls.length
  · have hq:((ks.length:Int) != (ls.length:Int))=false:=by simp [hlen]
    have hH:=aD hlen;have hle:ls.length<=ks.length:=by omega
    have hge:ks.length<=ls.length:=by omega
    clear hlen;go_enter func14,ntmps14;go_wp2_with fail;go_loopw [5] (λi wr=>∃j:Nat,j<=ks.length/\i = .int .i64 j/\Hid (ks.take j=ls.take j)/\Bw w wr) (λi _=>ks.length - (intOf i).toNat)
    case atStart=>exact ⟨0,Nat.zero_le _,rfl,aD Ag,eI _ _⟩
    case round=>
      obtain ⟨j,hj,rfl,heq,hb⟩:=hrel;by_cases hlt:j<ks.length
      · have hlt':j<ls.length:=by omega
        obtain ⟨b,off,k1,n1,ks1,A1,c1,rfl,hkj,hc1,hc2,hc3,hl1,hr1⟩:=(hr.below hb).at_ hlt;obtain ⟨b2,off2,k2,n2,ks2,A2,c2,rfl,hkj2,hd1,hd2,hd3,hl2,hr2⟩:=(hr'.below hb).at_ hlt';have hsz:=cG (gM hlt);rw [hkj] at hsz;simp only [Tm.size] at hsz;have H3:=aD hkj;have H4:=aD hkj2;clear hkj hkj2;obtain ⟨r1,r2,r3⟩:=pG hc1 hc2 hc3;obtain ⟨r4,r5,r6⟩:=pG hd1 hd2 hd3;go_wp2_with fail;refine pE (λw'=>Bw wr w') [0,1,2,3,4,5,6,7] [] [8,9] [_,_,_,_,_,_,_,_] [] [_,_] (by kernel_rfl) (by kernel_rfl) rfl rfl rfl (λ_ _ d _ _ h=>by cases d<;>exact h) (eI _ _).drew ?_;repeat (first|((refine aAj (a':=?_) ?_ ?_ ?_);(rotate_left);(· (simp [Region.wanted,yielded];done));(· (simp only [Act.put,List.setIfInBounds_toArray,List.set_cons_zero,List.set_cons_succ];exact rfl)))|((refine zI (v:=?_) (a':=?_) ?_ ?_ ?_ ?_);(rotate_left 2);(· (simp [Region.wanted,yielded];done));(· (intro w' hS';go_simp;try (with_reducible rfl)));(· (simp only [Act.put,List.setIfInBounds_toArray,List.set_cons_zero,List.set_cons_succ];exact rfl))))
        refine aDh (eB ?_);go_wp2_with (go_at_call 15;refine (aBe ih k1 n1 ks1 A1 c1 k2 n2 ks2 A2 c2 _ Ac hl1 hl2 hr1.drew hr2.drew).mono ?_;rintro e w1 ⟨rfl,hb1⟩)
        · go_ret
          have hne0:(!gL (.mk k1 n1 ks1) (.mk k2 n2 ks2))=true:=by assumption
          have hne:gL (.mk k1 n1 ks1) (.mk k2 n2 ks2)=false:=by simpa using hne0
          refine ⟨dE (iM λe=>?_).symm,hb.drew.trans (hb1.mono (by simpa using hb.size))⟩;subst e;rw [<- H3.out,<- H4.out,nA] at hne;cases hne
        · have heq0:(!gL (.mk k1 n1 ks1) (.mk k2 n2 ks2))=false:=by assumption
          have heq1:gL (.mk k1 n1 ks1) (.mk k2 n2 ks2)=true:=by simpa using heq0
          go_roundw
          case rel=>exact ⟨j+1,by omega,by go_num,aD (by rw [tM hlt,tM hlt',heq.out,H3.out,H4.out,tmEq_iff.1 heq1]),hb.drew.trans (hb1.mono (by simpa using hb.size))⟩
          case measure=>simp [intOf];omega
      · go_wp2_with fail
        go_ret;have hjl:j=ks.length:=by omega
        have h5:=heq.out;rw [hjl,List.take_length,hH.out,List.take_length] at h5;exact ⟨dE (tmsEq_iff.2 h5).symm,hb⟩
  · have hq:((ks.length:Int) != (ls.length:Int))=true:=by simp;omega
    go_enter func14,ntmps14;go_wp2_with fail;go_ret;exact ⟨dE (iM (λe=>hlen (by rw [e]))).symm,eI _ _⟩
theorem aHo (k n:Int)(ks:List Tm)(A:Ba)(c:Nat)(k' n':Int)(ls:List Tm)(B:Ba)(d:Nat)(w:Bb)(hl:ks.length<=9223372036854775807)(hl':ls.length<=9223372036854775807)(hr:Rd w A 0 ks)(hr':Rd w B 0 ls) :
  Calls prog 15 #[.agg (Ro k n A ks.length c),.agg (Ro k' n' B ls.length d)] w λe w'=>e = .returned (.bool (gL (.mk k n ks) (.mk k' n' ls)))/\Bw w w':=
 aBe (N:=aG ks+1) (kJ _) k n ks A c k' n' ls B d w Ac hl hl' hr hr'
mutual
def kL:Int->List Tm->Bool
 | _,[]=>true
 | m,t::ts=>aJf m t && kL (m+2*t.size) ts
def aJf:Int->Tm->Bool|m,.mk k n ks=>k==m && n==m+1 && kL (m+2) ks
end
variable {w w':Bb}{A:Ba}{ks:List Tm}{fp fq:List Nat}{lo hi:Nat}
end Go.Proofs.YtjlaenhcemacdaaGreat
