/- Parts of the proof. No condition. -/
import Derived.Test.YtajjhldcjikkpaaGreatK11
import Derived.Test.YtajjhldcjikkpaaGreatK12
open Go.Proofs.Tryz
namespace Go.Proofs.YtajjhldcjikkpaaGreat
open Go.RowKit
set_option maxHeartbeats 8000000
set_option maxRecDepth 100000
set_option linter.unusedSimpArgs false
set_option linter.unusedVariables false
def Le {α:Type}(o1 o2:Option α):Prop:=∀r,o1=some r→o2=some r
theorem Le.refl {α:Type}(o:Option α):Le o o:=fun _ h=>h
theorem bR {α β:Type}{o1 o2:Option (Rs α)}{f1 f2:α→Option (Rs β)}(h:Le o1 o2)(hf:∀a,Le (f1 a) (f2 a)):Le (bd o1 f1) (bd o2 f2):=by
 intro r hr;rcases aO hr with ⟨b,h1,rfl⟩|⟨a,h1,h2⟩
 ·rw [h _ h1];rfl
 ·rw [h _ h1,kA];exact hf a r h2
section
variable {r1 r2:aVy}(hr:∀c t,Le (r1 c t) (r2 c t))(ctx:List Tm)
include hr
theorem oZ (t:Tm):Le (iW r1 ctx t) (iW r2 ctx t):=bR (hr _ _) fun _=>Le.refl _
theorem vB (t:Tm)(k:Int):Le (xQ r1 ctx t k) (xQ r2 ctx t k):=bR (hr _ _) fun _=>Le.refl _
theorem jN (t u:Tm):Le (iL r1 ctx t u) (iL r2 ctx t u):=bR (hr _ _) fun _=>Le.refl _
theorem aBc (a b:Tm):Le (uN r1 ctx a b) (uN r2 ctx a b):=bR (oZ hr _ _) fun _=>bR (oZ hr _ _) fun _=>Le.refl _
theorem aHo (p f:Tm):Le (aFk r1 ctx p f) (aFk r2 ctx p f):=bR (vB hr _ _ _) fun _=>Le.refl _
theorem aSp (t:Tm):Le (fS r1 ctx t) (fS r2 ctx t):=by
 obtain ⟨k,n,ks⟩:=t;rw [fS,fS];by_cases h3:k=3∨k=13
 ·rw [if_pos h3,if_pos h3];exact aBc hr _ _ _
 rw [if_neg h3,if_neg h3];by_cases h4:k=4
 ·rw [if_pos h4,if_pos h4];exact bR (oZ hr _ _) fun _=>bR (hr _ _) fun _=>bR (aBc hr _ _ _) fun _=>Le.refl _
 rw [if_neg h4,if_neg h4];by_cases h5:k=5
 ·rw [if_pos h5,if_pos h5];exact bR (vB hr _ _ _) fun _=>bR (jN hr _ _ _) fun _=>Le.refl _
 rw [if_neg h5,if_neg h5];by_cases h9:k=9
 ·rw [if_pos h9,if_pos h9];exact bR (aHo hr _ _ _) fun _=>bR (jN hr _ _ _) fun _=>bR (jN hr _ _ _) fun _=>bR (jN hr _ _ _) fun _=>Le.refl _
 rw [if_neg h9,if_neg h9];by_cases h10:k=10
 ·rw [if_pos h10,if_pos h10];exact bR (oZ hr _ _) fun _=>bR (jN hr _ _ _) fun _=>bR (jN hr _ _ _) fun _=>Le.refl _
 rw [if_neg h10,if_neg h10];by_cases h12:k=12
 ·rw [if_pos h12,if_pos h12];exact bR (vB hr _ _ _) fun _=>bR (aHo hr _ _ _) fun _=>bR (jN hr _ _ _) fun _=>Le.refl _
 rw [if_neg h12,if_neg h12];by_cases h14:k=14
 ·rw [if_pos h14,if_pos h14];exact bR (oZ hr _ _) fun _=>bR (Le.refl _) fun _=>bR (Le.refl _) fun _=>bR (jN hr _ _ _) fun _=>bR (jN hr _ _ _) fun _=>Le.refl _
 rw [if_neg h14,if_neg h14];by_cases h1:k=1
 ·rw [if_pos h1,if_pos h1];exact Le.refl _
 rw [if_neg h1,if_neg h1];by_cases h2:k=2
 ·rw [if_pos h2,if_pos h2];exact Le.refl _
 rw [if_neg h2,if_neg h2];by_cases h6:k=6
 ·rw [if_pos h6,if_pos h6];exact Le.refl _
 rw [if_neg h6,if_neg h6];by_cases h7:k=7
 ·rw [if_pos h7,if_pos h7];exact Le.refl _
 rw [if_neg h7,if_neg h7];by_cases h8:k=8
 ·rw [if_pos h8,if_pos h8];exact bR (jN hr _ _ _) fun _=>Le.refl _
 rw [if_neg h8,if_neg h8];by_cases h11:k=11
 ·rw [if_pos h11,if_pos h11];exact bR (hr _ _) fun _=>bR (oZ hr _ _) fun _=>Le.refl _
 rw [if_neg h11,if_neg h11];exact bR (vB hr _ _ _) fun _=>Le.refl _
end
theorem aAq:∀(N:Nat) (ctx:List Tm) (t:Tm),Le (bJ N ctx t) (bJ (N+1) ctx t)
 | 0,_,_=>fun _ h=>by cases h
 | N+1,ctx,t=>by
  intro r h;rw [bJ] at h⊢;split at h
  ·rename_i hv
   rw [if_pos hv];exact bR (aSp (aAq N) ctx t) (fun _=>Le.refl _) r h
  ·rename_i hv
   rw [if_neg hv];exact h
theorem aKa {N M:Nat}(h:N≤M)(ctx:List Tm)(t:Tm):Le (bJ N ctx t) (bJ M ctx t):=by
 induction M with
 | zero=>rw [show N=0 by omega];exact Le.refl _
 | succ M ih=>
  by_cases hN:N=M+1
  ·rw [hN];exact Le.refl _
  ·exact fun r hr=>aAq M ctx t r (ih (by omega) r hr)
def Ends (ctx:List Tm)(t:Tm):Prop:=∃N r,bJ N ctx t=some r
def Df {α:Type}(o:Option α):Prop:=∃r,o=some r
section
variable {rc:aVy}{ctx:List Tm}
end
theorem Ends.at_ {ctx:List Tm}{t:Tm}(h:Ends ctx t):∃N,∀M,N≤M→Df (bJ M ctx t):=by
 obtain ⟨N,r,h⟩:=h;exact ⟨N,fun M hM=>⟨r,aKa hM _ _ _ h⟩⟩
theorem sJ {w:World}{r:Option Tm × Int}{e:Ending}{w':World}(h:aRg w r e w'){k n c:Int}{ks:List Tm}(h1:r.1.getD (.mk 0 0 []) = .mk k n ks)(h2:r.2=c) :
  ∃A d,e = .returned (.tuple #[.agg (Ro k n A ks.length d),.int .i64 c])∧ks.length≤9223372036854775807∧Rd w' A 0 ks∧Bw w w':=by
 obtain ⟨k1,n1,ks1,A,d,hk,rfl,hl,hr,hb⟩:=h;rw [h1] at hk;injection hk with a1 a2 a3;subst a1 a2 a3 h2;exact ⟨A,d,rfl,hl,hr.rd,hb⟩
theorem pL (k n:Int)(ks:List Tm)(A:Option Addr)(c:Nat)(k' n':Int)(ls:List Tm)(B:Option Addr)(d:Nat)(fuel:Nat)(w:World)(hf:fuel≤200)(hv:aE (.mk k n ks)=true)(hv':aE (.mk k' n' ls)=true)(hr:Rd w A 0 ks)(hr':Rd w B 0 ls) :
    Calls prog 10 #[.agg (Ro k n A ks.length c),.agg (Ro k' n' B ls.length d),.int .i64 fuel] w fun e w'=>e = .returned (.int .i64 (iP fuel (.mk k n ks) (.mk k' n' ls)))∧Bw w w':=by
  have hz:=aJ hv;have hz':=aJ hv';have hl1:=aQ ks;have hl2:=aQ ls;have q1:decide ((fuel:Int)≤200)=true:=decide_eq_true (by omega);obtain ⟨xk,xn,xs,hx⟩:∃a b l,(redI dB fuel (.mk k n ks)).1.getD (.mk 0 0 []) = .mk a b l:=by cases (redI dB fuel (.mk k n ks)).1.getD (.mk 0 0 []) with|mk a b l=>exact ⟨a,b,l,rfl⟩
  obtain ⟨yk,yn,ys,hy⟩:∃a b l,(redI dB fuel (.mk k' n' ls)).1.getD (.mk 0 0 []) = .mk a b l:=by cases (redI dB fuel (.mk k' n' ls)).1.getD (.mk 0 0 []) with|mk a b l=>exact ⟨a,b,l,rfl⟩
  obtain ⟨ca,hca⟩:∃z,(redI dB fuel (.mk k n ks)).2=z:=⟨_,rfl⟩;obtain ⟨cb,hcb⟩:∃z,(redI dB fuel (.mk k' n' ls)).2=z:=⟨_,rfl⟩;have hN1:=aD (fun (w:World) (hr:Rd w A 0 ks)=>(mP k n ks A c fuel w hv hf hr).mono fun e w' h=>sJ h hx hca);have hN2:=aD (fun (w:World) (hr:Rd w B 0 ls)=>(mP k' n' ls B d fuel w hv' hf hr).mono fun e w' h=>sJ h hy hcb);have hcv:iP fuel (.mk k n ks) (.mk k' n' ls)=if iX (.mk k n ks) (.mk k' n' ls)=true then 1 else if ca≠0∨cb≠0 then 3 else if iX (.mk xk xn xs) (.mk yk yn ys)=true then 1 else 2:=by rw [iP,hx,hy,hca,hcb]
  rw [hcv];have hv1:=aD hv;have hv2:=aD hv';clear hcv hx hy hca hcb hv hv';cases hT:iX (.mk k n ks) (.mk k' n' ls) with
  | true=>
    rw [if_pos rfl];replace hT:=aD hT;go_enter func10,ntmps10;go_wp2_with (first
    | (go_at_call 30;have _t:=tok2;refine (jG k n ks A c k' n' ls B d _ (by omega) (by omega) (hr.below g2) (hr'.below g2)).mono ?_;rw [hT.out];rintro e w3 ⟨rfl,hb3⟩;have hX3:=hX2.keep hb3;have hY3:=hY2.keep hb3;have g3:=g2.trans (hb3.mono g2.size);clear x0 x1 x2 y0 y1 y2;obtain ⟨x0,x1,x2⟩:=hX3.three;obtain ⟨y0,y1,y2⟩:=hY3.three;have tok3:=trivial)
    | (go_at_call 26;refine (cX _ _ _ _).mono ?_;rintro e w9 ⟨rfl,rfl⟩)
    | (go_at_call 28;have _t:=tok1;refine (bM k' n' ls B d _ (by omega) (hr'.below g1)).mono ?_;rw [hv2.out];rintro e w2 ⟨rfl,hb2⟩;have hX2:=hX1.keep hb2;have hY2:=hY1.keep hb2;have g2:=g1.trans (hb2.mono g1.size);clear x0 x1 x2 y0 y1 y2;obtain ⟨x0,x1,x2⟩:=hX2.three;obtain ⟨y0,y1,y2⟩:=hY2.three;have tok2:=trivial)
    | (go_at_call 28;refine (bM k n ks A c _ (by omega) ((hr.alloc _).alloc _)).mono ?_;rw [hv1.out];rintro e w1 ⟨rfl,hb1⟩;have hX1:=cV hb1;have hY1:=bH hb1;have g1:Bw w w1:=bQ bw2 hb1;obtain ⟨x0,x1,x2⟩:=hX1.three;obtain ⟨y0,y1,y2⟩:=hY1.three;have tok1:=trivial))
    go_ret
    exact ⟨rfl,g3⟩
  | false=>
    rw [if_neg (by simp)];replace hT:=aD hT;by_cases h1:ca=0
    · by_cases h2:cb=0
      · rw [if_neg (by omega)]
        subst h1 h2;cases hU:iX (.mk xk xn xs) (.mk yk yn ys) with
        | true=>
          rw [if_pos rfl];replace hU:=aD hU;go_enter func10,ntmps10;go_wp2_with (first
    | (go_at_call 30;have _t:=tok5;refine (jG xk xn xs A4 c4 yk yn ys A5 c5 _ hl4 hl5 (r45.alloc _) (r5.alloc _)).mono ?_;rw [hU.out];rintro e w6 ⟨rfl,hb6⟩;have g6:=(g5.alloc g5.size (.cells (Ro yk yn A5 ys.length c5) 25)).trans (hb6.mono (by have:=g5.size;simp;omega)))
    | (go_at_call 19;have _t:=tok4;refine (hN2.out _ ((hr'.below g4).alloc _)).mono ?_;rintro e w5 ⟨A5,c5,rfl,hl5,r5,hb5⟩;have hP5:=(aC w4 25 (Ro xk xn A4 xs.length c4) rfl).keep hb5;have g5:=(g4.alloc g4.size (.cells (Ro xk xn A4 xs.length c4) 25)).trans (hb5.mono (by have:=g4.size;simp;omega));have r45:=(r4.alloc (.cells (Ro xk xn A4 xs.length c4) 25)).below hb5;obtain ⟨p0,p1,p2⟩:=hP5.three;have lp:=hP5.lt;have tok5:=trivial)
    | (go_at_call 19;have _t:=tok3;refine (hN1.out _ (hr.below g3)).mono ?_;rintro e w4 ⟨A4,c4,rfl,hl4,r4,hb4⟩;have hY4:=hY3.keep hb4;have g4:=g3.trans (hb4.mono g3.size);clear x0 x1 x2 y0 y1 y2;obtain ⟨y0,y1,y2⟩:=hY4.three;have ly4:=hY4.lt;have tok4:=trivial)
    | (go_at_call 30;have _t:=tok2;refine (jG k n ks A c k' n' ls B d _ (by omega) (by omega) (hr.below g2) (hr'.below g2)).mono ?_;rw [hT.out];rintro e w3 ⟨rfl,hb3⟩;have hX3:=hX2.keep hb3;have hY3:=hY2.keep hb3;have g3:=g2.trans (hb3.mono g2.size);clear x0 x1 x2 y0 y1 y2;obtain ⟨x0,x1,x2⟩:=hX3.three;obtain ⟨y0,y1,y2⟩:=hY3.three;have tok3:=trivial)
    | (go_at_call 26;refine (cX _ _ _ _).mono ?_;rintro e w9 ⟨rfl,rfl⟩)
    | (go_at_call 28;have _t:=tok1;refine (bM k' n' ls B d _ (by omega) (hr'.below g1)).mono ?_;rw [hv2.out];rintro e w2 ⟨rfl,hb2⟩;have hX2:=hX1.keep hb2;have hY2:=hY1.keep hb2;have g2:=g1.trans (hb2.mono g1.size);clear x0 x1 x2 y0 y1 y2;obtain ⟨x0,x1,x2⟩:=hX2.three;obtain ⟨y0,y1,y2⟩:=hY2.three;have tok2:=trivial)
    | (go_at_call 28;refine (bM k n ks A c _ (by omega) ((hr.alloc _).alloc _)).mono ?_;rw [hv1.out];rintro e w1 ⟨rfl,hb1⟩;have hX1:=cV hb1;have hY1:=bH hb1;have g1:Bw w w1:=bQ bw2 hb1;obtain ⟨x0,x1,x2⟩:=hX1.three;obtain ⟨y0,y1,y2⟩:=hY1.three;have tok1:=trivial))
          go_ret
          exact ⟨rfl,g6⟩
        | false=>
          rw [if_neg (by simp)];replace hU:=aD hU;go_enter func10,ntmps10;go_wp2_with (first
    | (go_at_call 30;have _t:=tok5;refine (jG xk xn xs A4 c4 yk yn ys A5 c5 _ hl4 hl5 (r45.alloc _) (r5.alloc _)).mono ?_;rw [hU.out];rintro e w6 ⟨rfl,hb6⟩;have g6:=(g5.alloc g5.size (.cells (Ro yk yn A5 ys.length c5) 25)).trans (hb6.mono (by have:=g5.size;simp;omega)))
    | (go_at_call 19;have _t:=tok4;refine (hN2.out _ ((hr'.below g4).alloc _)).mono ?_;rintro e w5 ⟨A5,c5,rfl,hl5,r5,hb5⟩;have hP5:=(aC w4 25 (Ro xk xn A4 xs.length c4) rfl).keep hb5;have g5:=(g4.alloc g4.size (.cells (Ro xk xn A4 xs.length c4) 25)).trans (hb5.mono (by have:=g4.size;simp;omega));have r45:=(r4.alloc (.cells (Ro xk xn A4 xs.length c4) 25)).below hb5;obtain ⟨p0,p1,p2⟩:=hP5.three;have lp:=hP5.lt;have tok5:=trivial)
    | (go_at_call 19;have _t:=tok3;refine (hN1.out _ (hr.below g3)).mono ?_;rintro e w4 ⟨A4,c4,rfl,hl4,r4,hb4⟩;have hY4:=hY3.keep hb4;have g4:=g3.trans (hb4.mono g3.size);clear x0 x1 x2 y0 y1 y2;obtain ⟨y0,y1,y2⟩:=hY4.three;have ly4:=hY4.lt;have tok4:=trivial)
    | (go_at_call 30;have _t:=tok2;refine (jG k n ks A c k' n' ls B d _ (by omega) (by omega) (hr.below g2) (hr'.below g2)).mono ?_;rw [hT.out];rintro e w3 ⟨rfl,hb3⟩;have hX3:=hX2.keep hb3;have hY3:=hY2.keep hb3;have g3:=g2.trans (hb3.mono g2.size);clear x0 x1 x2 y0 y1 y2;obtain ⟨x0,x1,x2⟩:=hX3.three;obtain ⟨y0,y1,y2⟩:=hY3.three;have tok3:=trivial)
    | (go_at_call 26;refine (cX _ _ _ _).mono ?_;rintro e w9 ⟨rfl,rfl⟩)
    | (go_at_call 28;have _t:=tok1;refine (bM k' n' ls B d _ (by omega) (hr'.below g1)).mono ?_;rw [hv2.out];rintro e w2 ⟨rfl,hb2⟩;have hX2:=hX1.keep hb2;have hY2:=hY1.keep hb2;have g2:=g1.trans (hb2.mono g1.size);clear x0 x1 x2 y0 y1 y2;obtain ⟨x0,x1,x2⟩:=hX2.three;obtain ⟨y0,y1,y2⟩:=hY2.three;have tok2:=trivial)
    | (go_at_call 28;refine (bM k n ks A c _ (by omega) ((hr.alloc _).alloc _)).mono ?_;rw [hv1.out];rintro e w1 ⟨rfl,hb1⟩;have hX1:=cV hb1;have hY1:=bH hb1;have g1:Bw w w1:=bQ bw2 hb1;obtain ⟨x0,x1,x2⟩:=hX1.three;obtain ⟨y0,y1,y2⟩:=hY1.three;have tok1:=trivial))
          go_ret
          exact ⟨rfl,g6⟩
      · rw [if_pos (.inr h2)]
        subst h1;have q2:(cb != 0)=true:=by simpa using h2
        clear h2;go_enter func10,ntmps10;go_wp2_with (first
    | (go_at_call 19;have _t:=tok4;refine (hN2.out _ ((hr'.below g4).alloc _)).mono ?_;rintro e w5 ⟨A5,c5,rfl,hl5,r5,hb5⟩;have hP5:=(aC w4 25 (Ro xk xn A4 xs.length c4) rfl).keep hb5;have g5:=(g4.alloc g4.size (.cells (Ro xk xn A4 xs.length c4) 25)).trans (hb5.mono (by have:=g4.size;simp;omega));have r45:=(r4.alloc (.cells (Ro xk xn A4 xs.length c4) 25)).below hb5;obtain ⟨p0,p1,p2⟩:=hP5.three;have lp:=hP5.lt;have tok5:=trivial)
    | (go_at_call 19;have _t:=tok3;refine (hN1.out _ (hr.below g3)).mono ?_;rintro e w4 ⟨A4,c4,rfl,hl4,r4,hb4⟩;have hY4:=hY3.keep hb4;have g4:=g3.trans (hb4.mono g3.size);clear x0 x1 x2 y0 y1 y2;obtain ⟨y0,y1,y2⟩:=hY4.three;have ly4:=hY4.lt;have tok4:=trivial)
    | (go_at_call 30;have _t:=tok2;refine (jG k n ks A c k' n' ls B d _ (by omega) (by omega) (hr.below g2) (hr'.below g2)).mono ?_;rw [hT.out];rintro e w3 ⟨rfl,hb3⟩;have hX3:=hX2.keep hb3;have hY3:=hY2.keep hb3;have g3:=g2.trans (hb3.mono g2.size);clear x0 x1 x2 y0 y1 y2;obtain ⟨x0,x1,x2⟩:=hX3.three;obtain ⟨y0,y1,y2⟩:=hY3.three;have tok3:=trivial)
    | (go_at_call 26;refine (cX _ _ _ _).mono ?_;rintro e w9 ⟨rfl,rfl⟩)
    | (go_at_call 28;have _t:=tok1;refine (bM k' n' ls B d _ (by omega) (hr'.below g1)).mono ?_;rw [hv2.out];rintro e w2 ⟨rfl,hb2⟩;have hX2:=hX1.keep hb2;have hY2:=hY1.keep hb2;have g2:=g1.trans (hb2.mono g1.size);clear x0 x1 x2 y0 y1 y2;obtain ⟨x0,x1,x2⟩:=hX2.three;obtain ⟨y0,y1,y2⟩:=hY2.three;have tok2:=trivial)
    | (go_at_call 28;refine (bM k n ks A c _ (by omega) ((hr.alloc _).alloc _)).mono ?_;rw [hv1.out];rintro e w1 ⟨rfl,hb1⟩;have hX1:=cV hb1;have hY1:=bH hb1;have g1:Bw w w1:=bQ bw2 hb1;obtain ⟨x0,x1,x2⟩:=hX1.three;obtain ⟨y0,y1,y2⟩:=hY1.three;have tok1:=trivial))
        go_ret
        exact ⟨rfl,g5.alloc g5.size _⟩
    · rw [if_pos (.inl h1)]
      have q2:(ca != 0)=true:=by simpa using h1
      clear h1;go_enter func10,ntmps10;go_wp2_with (first
    | (go_at_call 19;have _t:=tok4;refine (hN2.out _ ((hr'.below g4).alloc _)).mono ?_;rintro e w5 ⟨A5,c5,rfl,hl5,r5,hb5⟩;have hP5:=(aC w4 25 (Ro xk xn A4 xs.length c4) rfl).keep hb5;have g5:=(g4.alloc g4.size (.cells (Ro xk xn A4 xs.length c4) 25)).trans (hb5.mono (by have:=g4.size;simp;omega));have r45:=(r4.alloc (.cells (Ro xk xn A4 xs.length c4) 25)).below hb5;obtain ⟨p0,p1,p2⟩:=hP5.three;have lp:=hP5.lt;have tok5:=trivial)
    | (go_at_call 19;have _t:=tok3;refine (hN1.out _ (hr.below g3)).mono ?_;rintro e w4 ⟨A4,c4,rfl,hl4,r4,hb4⟩;have hY4:=hY3.keep hb4;have g4:=g3.trans (hb4.mono g3.size);clear x0 x1 x2 y0 y1 y2;obtain ⟨y0,y1,y2⟩:=hY4.three;have ly4:=hY4.lt;have tok4:=trivial)
    | (go_at_call 30;have _t:=tok2;refine (jG k n ks A c k' n' ls B d _ (by omega) (by omega) (hr.below g2) (hr'.below g2)).mono ?_;rw [hT.out];rintro e w3 ⟨rfl,hb3⟩;have hX3:=hX2.keep hb3;have hY3:=hY2.keep hb3;have g3:=g2.trans (hb3.mono g2.size);clear x0 x1 x2 y0 y1 y2;obtain ⟨x0,x1,x2⟩:=hX3.three;obtain ⟨y0,y1,y2⟩:=hY3.three;have tok3:=trivial)
    | (go_at_call 26;refine (cX _ _ _ _).mono ?_;rintro e w9 ⟨rfl,rfl⟩)
    | (go_at_call 28;have _t:=tok1;refine (bM k' n' ls B d _ (by omega) (hr'.below g1)).mono ?_;rw [hv2.out];rintro e w2 ⟨rfl,hb2⟩;have hX2:=hX1.keep hb2;have hY2:=hY1.keep hb2;have g2:=g1.trans (hb2.mono g1.size);clear x0 x1 x2 y0 y1 y2;obtain ⟨x0,x1,x2⟩:=hX2.three;obtain ⟨y0,y1,y2⟩:=hY2.three;have tok2:=trivial)
    | (go_at_call 28;refine (bM k n ks A c _ (by omega) ((hr.alloc _).alloc _)).mono ?_;rw [hv1.out];rintro e w1 ⟨rfl,hb1⟩;have hX1:=cV hb1;have hY1:=bH hb1;have g1:Bw w w1:=bQ bw2 hb1;obtain ⟨x0,x1,x2⟩:=hX1.three;obtain ⟨y0,y1,y2⟩:=hY1.three;have tok1:=trivial))
      go_ret
      exact ⟨rfl,g5.alloc g5.size _⟩
theorem aQf {w:World}{z:Nat}(hZ:Blk w z Zr):(∀t d b off i,shape d t=true→RdC w b off i t→RdPC (·≠z) w b off i t)∧(∀(ks:List Tm) d A i,(∀t,t∈ks→shape d t=true)→Rd w A i ks→RdP (·≠z) w A i ks):=by
 refine bO (fun k n ks ih d b off i hs hr=>?_) (fun d A i _ _=>RdP.nil) (fun t ts h1 h2 d A i hs hr=>?_)
 ·obtain ⟨d,rfl⟩:∃d',d=d'+1:=by cases d with|zero=>simp [shape] at hs|succ d=>exact ⟨d,rfl⟩
  obtain ⟨ha,_,_,hk⟩:=(bA d k n ks).1 hs;obtain ⟨c1,c2,A,c,c3,hl,hr'⟩:=RdC.iff.1 hr;refine RdPC.iff.2 ⟨fun e=>?_,c1,c2,A,c,c3,hl,ih d A 0 hk hr'⟩;subst e;have h0:k≠0:=by rintro rfl;have:aK 0 = -1:=rfl;omega
  rw [hZ.cell] at c1;generalize off+i*3=j at c1
  rcases j with _|_|_|j
  ·simp at c1;exact h0 c1.symm
  ·simp at c1;exact h0 c1.symm
  ·simp at c1
  ·simp at c1
 ·obtain ⟨⟨b,off,e,hc⟩,hr'⟩:=Rd.cons_iff.1 hr;exact RdP.cons_iff.2 ⟨⟨b,off,e,h1 d b off i (hs t (by simp)) hc⟩,h2 d A (i+1) (fun u hu=>hs u (by simp [hu])) hr'⟩
theorem aZ {w:World}{z:Nat}{k n:Int}{ks:List Tm}{A:Option Addr}(hZ:Blk w z Zr)(hv:aE (.mk k n ks)=true)(hr:Rd w A 0 ks)(x y v:Value) :
  Rd (((w.setCell ⟨z,0,none⟩ x).setCell ⟨z,1,none⟩ y).setCell ⟨z,2,none⟩ v) A 0 ks:=by
 have hs:=((bA 29 k n ks).1 (bD hv)).2.2.2;exact (((((aQf hZ).2 ks 29 A 0 hs hr).setCell (a:=⟨z,0,none⟩) (fun h=>h rfl) x).setCell (a:=⟨z,1,none⟩) (fun h=>h rfl) y).setCell (a:=⟨z,2,none⟩) (fun h=>h rfl) v).rd
def fD (w:World)(k n:Int)(ks:List Tm)(e:Ending)(w':World):Prop:=
 ∃A c,e = .returned (.tuple #[.agg (Ro k n A ks.length c),.int .i64 0])∧ks.length≤9223372036854775807∧Rd w' A 0 ks∧Bw w w'
theorem mE (x:Int)(w:World):Calls prog 103 #[.int .i64 x] w fun e w'=>e = .returned (.agg (Ro 2 x none 0 0))∧Bw w w':=by
 go_enter func103,ntmps103;go_wp2_with fail
 refine bodyPost_ret (v:=.agg (Ro 2 x none 0 0)) (by simp [results,results103,go_sem]) rfl ⟨rfl,?_⟩;exact bw1
theorem bC (k1 n1:Int)(s1:List Tm)(A1:Option Addr)(c1:Nat)(w:World)(hv:aE (.mk k1 n1 s1)=true)(hr:Rd w A1 0 s1) :
  Calls prog 101 #[.agg (Ro k1 n1 A1 s1.length c1),.bool true] w fun e w'=>e = .returned (.tuple #[.agg (Ro k1 n1 A1 s1.length c1),.int .i64 0])∧Bw w w':=by
 have hz:=aJ hv;have hv':=aD hv;clear hv;go_enter func101,ntmps101;go_wp2_with (go_at_call 28;refine (bM k1 n1 s1 A1 c1 _ (by omega) ((hr.alloc _).alloc _)).mono ?_;rw [hv'.out];rintro e w1 ⟨rfl,hb1⟩;have hX:=((aC w 25 (Ro k1 n1 A1 s1.length c1) rfl).alloc (.cells Zr 25)).keep hb1;have hZ:=bH hb1;have g1:Bw w w1:=bQ bw2 hb1;obtain ⟨x0,x1,x2⟩:=hX.three;obtain ⟨d0,d1,d2,e0,e1,e2⟩:=bW hZ)
 refine bodyPost_ret (v:=.tuple #[.agg (Ro k1 n1 A1 s1.length c1),.int .i64 0]) (by simp [results,results101,go_sem,d0,d1,d2]) rfl ⟨rfl,?_⟩;exact bT g1
theorem mK {s o:Tm}{kind:Int}(h:oD s kind=some o):aE s=true∧(redI bS 200 s).1=some o∧(redI bS 200 s).2=0∧o.k=kind∧aE o=true:=by
 unfold oD at h
 split at h
 ·rename_i hv
  split at h
  ·rename_i o' c he
   split at h
   ·rename_i hc
    injection h with h;subst h;rw [he];exact ⟨hv,rfl,hc.1,hc.2,vQ _ _ _ _ hv he⟩
   ·cases h
  ·cases h
 ·cases h
theorem gZ (k1 n1:Int)(s1:List Tm)(A1:Option Addr)(c1:Nat)(kind n3:Int)(s3:List Tm)(w:World)(hs:oD (.mk k1 n1 s1) kind=some (.mk kind n3 s3))(hr:Rd w A1 0 s1) :
  Calls prog 80 #[.agg (Ro k1 n1 A1 s1.length c1),.int .i64 kind] w (fD w kind n3 s3):=by
 obtain ⟨hv,h1,h2,h3,h4⟩:=mK hs;have hH:=aD (fun (w:World) (hr:Rd w A1 0 s1)=>(qY k1 n1 s1 A1 c1 200 w hv (by omega) hr).mono fun e w' h=>sJ h (by rw [h1];rfl) h2);have h4':=aD h4;clear hs hv h1 h2 h3 h4;go_enter func80,ntmps80;go_wp2_with (go_at_call 99;refine (hH.out _ ((hr.alloc _).alloc _)).mono ?_;rintro e w1 ⟨A3,c3,rfl,hl3,r3,hb1⟩;have hZ:=bH hb1;have g1:Bw w w1:=bQ bw2 hb1;obtain ⟨d0,d1,d2,e0,e1,e2,lz⟩:=dA hZ;have n1':w.heap.size+1≠w1.heap.size:=(by omega))
 have y:=fun (o:Obj)=>(((((hZ.set_ 0 (.int .i64 kind)).set_ 1 (.int .i64 n3)).set_ 2 (.slice A3 s3.length c3)).alloc o:Blk _ _ (Ro kind n3 A3 s3.length c3))).three
 refine bodyPost_ret (v:=.tuple #[.agg (Ro kind n3 A3 s3.length c3),.int .i64 0]) (by simp [results,results80,go_sem,y]) rfl ⟨A3,c3,rfl,hl3,?_,?_⟩
 ·exact (aZ hZ h4'.out r3 _ _ _).alloc _
 ·exact (bT g1).alloc (by simp [World.setCell];exact g1.size) _
theorem qA (k1 n1:Int)(s1:List Tm)(A1:Option Addr)(c1:Nat)(k2 n2:Int)(s2:List Tm)(A2:Option Addr)(c2:Nat)(w:World)(hs:aEe (.mk k1 n1 s1) (.mk k2 n2 s2)=true)(hr1:Rd w A1 0 s1)(hr2:Rd w A2 0 s2) :
  Calls prog 60 #[.agg (Ro k1 n1 A1 s1.length c1),.agg (Ro k2 n2 A2 s2.length c2)] w fun e w'=>e = .returned (.int .i64 0)∧Bw w w':=by
 rw [aEe,Bool.and_eq_true,Bool.and_eq_true,beq_iff_eq] at hs;obtain ⟨⟨hv1,hv2⟩,hc⟩:=hs;have hC:=aD (fun (w:World) (hr1:Rd w A1 0 s1) (hr2:Rd w A2 0 s2)=>by have:=pL k1 n1 s1 A1 c1 k2 n2 s2 A2 c2 200 w (by omega) hv1 hv2 hr1 hr2;rwa [hc] at this);clear hv1 hv2 hc;go_enter func60,ntmps60;go_wp2_with (go_at_call 10;refine (hC.out _ ((hr1.alloc _).alloc _) ((hr2.alloc _).alloc _)).mono ?_;rintro e w1 ⟨rfl,hb1⟩)
 go_ret
 exact ⟨rfl,bw2.trans (hb1.mono (by simp;omega))⟩
def Clo (fc:Nat)(ev:Array Value):Prop:=∃b2 b3,fc=81∧ev=#[.pointer (some ⟨b2,0,none⟩),.pointer (some ⟨b3,0,none⟩)]
def TyOk (fc:Nat)(ev:Array Value)(w:World)(ty:Nat→Option Tm):Prop:=Clo fc ev∧∀(i:Nat) (k n:Int) (ks:List Tm),i<4→ty i=some (.mk k n ks)→∀w',Bw w w'→∀args,args=#[.int .i64 i]++ev→
 Calls prog fc args w' (fD w' k n ks)
theorem TyOk.below {fc:Nat}{ev:Array Value}{w w':World}{ty:Nat→Option Tm}(h:TyOk fc ev w ty)(hb:Bw w w'):TyOk fc ev w' ty:=⟨h.1,fun i k n ks hi ht w2 hw2=>h.2 i k n ks hi ht w2 (hb.trans (hw2.mono hb.size))⟩
theorem fA (C:Option Addr)(m cc:Nat)(k n:Int)(A:Option Addr)(la c fc:Nat)(ev:Array Value)(i:Nat)(hi:i<4)(kind n3:Int)(s3:List Tm)(ty:Nat→Option Tm)(w:World)(hs:fmS (ty i) kind=some (.mk kind n3 s3))(hT:TyOk fc ev w ty) :
  Calls prog 107 #[.agg #[.slice C m cc,.int .i64 k,.int .i64 n,.slice A la c,.func (.func fc) #[] ev],.int .i64 i,.int .i64 kind] w (fD w kind n3 s3):=by
 obtain ⟨b2,b3,rfl,rfl⟩:=hT.1;all_goals
  obtain ⟨k1,n1,s1,h1,h2⟩:∃k1 n1 s1,ty i=some (.mk k1 n1 s1)∧oD (.mk k1 n1 s1) kind=some (.mk kind n3 s3):=by
   cases h:ty i with
   | none=>rw [h] at hs;cases hs
   | some s=>rw [h] at hs;obtain ⟨a,b,l⟩:=s;exact ⟨a,b,l,rfl,hs⟩
  have hv3:=aD (mK h2).2.2.2.2;have h1':=aD h1;have h2':=aD h2;clear hs h1 h2;go_enter func107,ntmps107;go_wp2_with (first
   | (go_at_call 80;have _t:=tok1;refine (gZ k1 n1 s1 A1 c1 kind n3 s3 _ h2'.out (r1.alloc _)).mono ?_;rintro e w2 ⟨A3,c3,rfl,hl3,r3,hb2⟩;have hZ2:=(hZ.alloc (.cells (Ro k1 n1 A1 s1.length c1) 25)).keep hb2;have g2:=(g1.alloc g1.size (.cells (Ro k1 n1 A1 s1.length c1) 25)).trans (hb2.mono (by have:=g1.size;simp;omega));obtain ⟨d0,d1,d2,e0,e1,e2⟩:=bW hZ2)
   | (go_at_call 81;refine (hT.2 i k1 n1 s1 hi h1'.out _ bw2 _ (by rfl)).mono ?_;rintro e w1 ⟨A1,c1,rfl,hl1,r1,hb1⟩;have hZ:=bH hb1;have g1:Bw w w1:=bQ bw2 hb1;have lz:=hZ.lt;have tok1:=trivial))
  refine bodyPost_ret (v:=.tuple #[.agg (Ro kind n3 A3 s3.length c3),.int .i64 0]) (by simp [results,results107,go_sem,d0,d1,d2]) rfl ⟨A3,c3,rfl,hl3,?_,?_⟩
  ·exact aZ hZ2 hv3.out r3 _ _ _
  ·exact bT g2
theorem fJ {o:Option Tm}{kind:Int}{t:Tm}(h:fmS o kind=some t):∃n3 s3,t = .mk kind n3 s3∧aE (.mk kind n3 s3)=true:=by
 cases o with
 | none=>cases h
 | some s=>
  obtain ⟨h1,h2,h3,h4,h5⟩:=mK h;obtain ⟨a,b,l⟩:=t;obtain rfl:a=kind:=h4;exact ⟨b,l,rfl,h5⟩
theorem aBw {o:Option Tm}{l:Int}(h:wT o=some l):∃s3,fmS o 2=some (.mk 2 l s3):=by
 cases o with
 | none=>cases h
 | some s=>
  rw [wT] at h;cases hh:oD s 2 with
  | none=>rw [hh] at h;cases h
  | some t=>
   rw [hh] at h;obtain ⟨n3,s3,rfl,_⟩:=fJ (o:=some s) hh;injection h with h;obtain rfl:n3=l:=h;exact ⟨s3,hh⟩
theorem fK (C:Option Addr)(m cc:Nat)(k n:Int)(A:Option Addr)(la c fc:Nat)(ev:Array Value)(i:Nat)(hi:i<4)(l:Int)(ty:Nat→Option Tm)(w:World)(hs:wT (ty i)=some l)(hT:TyOk fc ev w ty) :
  Calls prog 132 #[.agg #[.slice C m cc,.int .i64 k,.int .i64 n,.slice A la c,.func (.func fc) #[] ev],.int .i64 i] w fun e w'=>e = .returned (.tuple #[.int .i64 l,.int .i64 0])∧Bw w w':=by
 obtain ⟨s3,h1⟩:=aBw hs;have h1':=aD h1;clear hs h1;go_enter func132,ntmps132;go_wp2_with (go_at_call 107;refine (fA C m cc k n A la c fc ev i hi 2 l s3 ty _ h1'.out (hT.below bw1)).mono ?_;rintro e w1 ⟨A3,c3,rfl,hl3,r3,hb1⟩;have g1:Bw w w1:=bQ bw1 hb1)
 go_ret2
 exact ⟨rfl,g1.alloc g1.size _⟩
theorem aLz {o:Option Tm}{want:Tm}(h:jC o want=true):∃k1 n1 s1,o=some (.mk k1 n1 s1)∧aEe (.mk k1 n1 s1) want=true:=by
 cases o with
 | none=>cases h
 | some s=>obtain ⟨a,b,l⟩:=s;exact ⟨a,b,l,rfl,h⟩
theorem jB (C:Option Addr)(m cc:Nat)(k n:Int)(A:Option Addr)(la c fc:Nat)(ev:Array Value)(i:Nat)(hi:i<4)(k2 n2:Int)(s2:List Tm)(A2:Option Addr)(c2:Nat)(ty:Nat→Option Tm)(w:World)(hs:jC (ty i) (.mk k2 n2 s2)=true)(hT:TyOk fc ev w ty)(hr2:Rd w A2 0 s2) :
  Calls prog 104 #[.agg #[.slice C m cc,.int .i64 k,.int .i64 n,.slice A la c,.func (.func fc) #[] ev],.int .i64 i,.agg (Ro k2 n2 A2 s2.length c2)] w fun e w'=>e = .returned (.int .i64 0)∧Bw w w':=by
 obtain ⟨b2,b3,rfl,rfl⟩:=hT.1;all_goals
  obtain ⟨k1,n1,s1,h1,h2⟩:=aLz hs;have h1':=aD h1;have h2':=aD h2;clear hs h1 h2;go_enter func104,ntmps104;go_wp2_with (first
   | (go_at_call 60;have _t:=tok1;refine (qA k1 n1 s1 A1 c1 k2 n2 s2 A2 c2 _ h2'.out (r1.alloc _) ((hr2.below g1).alloc _)).mono ?_;rintro e w2 ⟨rfl,hb2⟩;have g2:=(g1.alloc g1.size (.cells (Ro k1 n1 A1 s1.length c1) 25)).trans (hb2.mono (by have:=g1.size;simp;omega)))
   | (go_at_call 81;refine (hT.2 i k1 n1 s1 hi h1'.out _ bw2 _ (by rfl)).mono ?_;rintro e w1 ⟨A1,c1,rfl,hl1,r1,hb1⟩;have hZ:=bH hb1;have g1:Bw w w1:=bQ bw2 hb1;have lz:=hZ.lt;obtain ⟨d0,d1,d2⟩:=hZ.three;have tok1:=trivial))
  go_ret
  exact ⟨rfl,g2⟩
theorem fC (C:Option Addr)(m cc:Nat)(k n:Int)(A:Option Addr)(la c fc:Nat)(ev:Array Value)(i:Nat)(hi:i<4)(k2 n2:Int)(s2:List Tm)(A2:Option Addr)(c2:Nat)(ty:Nat→Option Tm)(w:World)(hs:jC (ty i) (.mk k2 n2 s2)=true)(hT:TyOk fc ev w ty)(hr2:Rd w A2 0 s2) :
  Calls prog 108 #[.agg #[.slice C m cc,.int .i64 k,.int .i64 n,.slice A la c,.func (.func fc) #[] ev],.int .i64 i,.agg (Ro k2 n2 A2 s2.length c2),.int .i64 0] w fun e w'=>e = .returned (.int .i64 0)∧Bw w w':=by
 have hs':=aD hs;clear hs;go_enter func108,ntmps108;go_wp2_with (go_at_call 104;refine (jB C m cc k n A la c fc ev i hi k2 n2 s2 A2 c2 ty _ hs'.out (hT.below bw2) ((hr2.alloc _).alloc _)).mono ?_;rintro e w1 ⟨rfl,hb1⟩;have g1:Bw w w1:=bQ bw2 hb1)
 go_ret
 exact ⟨rfl,g1⟩
theorem aLs {o:Option Tm}{t:Tm}(h:wK o t=true):∃n3 ka na sa kb nb sb ne se,fmS o 3=some (.mk 3 n3 [.mk ka na sa,.mk kb nb sb])∧aEe (.mk ka na sa) t=true∧oD (.mk kb nb sb) 2=some (.mk 2 ne se):=by
 unfold wK at h
 split at h
 ·rename_i s hs
  obtain ⟨n3,s3,rfl,hv⟩:=fJ hs;obtain ⟨a,b,rfl⟩:=mS (l:=s3) (by have:=(aX hv).1;have h3:aK 3=2:=rfl;omega);obtain ⟨ka,na,sa⟩:=a;obtain ⟨kb,nb,sb⟩:=b;rw [Bool.and_eq_true] at h;obtain ⟨t2,ht2⟩:=Option.isSome_iff_exists.1 h.2;obtain ⟨ne,se,rfl,_⟩:=fJ (o:=some (.mk kb nb sb)) ht2;exact ⟨n3,ka,na,sa,kb,nb,sb,ne,se,hs,h.1,ht2⟩
 ·cases h
theorem lD (C:Option Addr)(m cc:Nat)(k n:Int)(A:Option Addr)(la c fc:Nat)(ev:Array Value)(i:Nat)(hi:i<4)(k2 n2:Int)(s2:List Tm)(A2:Option Addr)(c2:Nat)(ty:Nat→Option Tm)(w:World)(hs:wK (ty i) (.mk k2 n2 s2)=true)(hT:TyOk fc ev w ty)(hr2:Rd w A2 0 s2) :
  Calls prog 134 #[.agg #[.slice C m cc,.int .i64 k,.int .i64 n,.slice A la c,.func (.func fc) #[] ev],.int .i64 i,.agg (Ro k2 n2 A2 s2.length c2)] w fun e w'=>e = .returned (.int .i64 0)∧Bw w w':=by
 obtain ⟨n3,ka,na,sa,kb,nb,sb,ne,se,h1,h2,h3⟩:=aLs hs;have h1':=aD h1;have h2':=aD h2;have h3':=aD h3;clear hs h1 h2 h3;go_enter func134,ntmps134;go_upto_region 4 with (go_at_call 107;refine (fA C m cc k n A la c fc ev i hi 3 n3 [.mk ka na sa,.mk kb nb sb] ty _ h1'.out (hT.below bw2)).mono ?_;rintro e w1 ⟨A3,c3,rfl,hl3,r3,hb1⟩;have hY:=bH hb1;have g1:Bw w w1:=bQ bw2 hb1;have r2:=hr2.below g1)
 refine aLt (show Blk _ w1.heap.size (Ro 3 n3 A3 2 c3) from (aC _ 25 _ rfl)) (hY.alloc _) (g1.alloc g1.size _) ?_;intro wx hT7x hYx gx hwx;have r3x:Rd wx A3 0 [.mk ka na sa,.mk kb nb sb]:=by rw [hwx];exact r3.alloc _
 have r2x:Rd wx A2 0 s2:=by rw [hwx];exact r2.alloc _
 clear hwx;obtain ⟨ba,oa,Aa,ca,rfl,i1,i2,i3,hla,ra⟩:=kZ r3x;obtain ⟨Ab,cb,j1,j2,j3,hlb,rb⟩:=tI r3x;simp only [Nat.zero_mul,Nat.add_zero,Nat.one_mul,Nat.reduceMul] at i1 i2 i3 j1 j2 j3
 obtain ⟨u0,u1,u2⟩:=iD hT7x;obtain ⟨v0,v1,v2⟩:=iD hYx;obtain ⟨y0,y1,y2⟩:=rN i1 i2 i3;refine dX wx [6] [0,1,2,3,4] 7 2 (lT:=[_,_,_,_,_]) ?_;intro q0 bq0;refine bV (aD ?_);refine bG 5 ?_
 ·go_wp2_with (go_at_call 60;refine (qA ka na sa Aa ca k2 n2 s2 A2 c2 _ h2'.out (ra.below bq0) (r2x.below bq0)).mono ?_;rintro e q1 ⟨rfl,hbq1⟩)
  refine aY bq0 hbq1 ?_;intro bq1 lq1;refine cD [6] (lB:=[_]) ?_;have hT7:=hT7x.keep bq1;have gz:=gx.trans (bq1.mono gx.size);have rbz:=rb.below bq1;obtain ⟨p0,p1,p2⟩:=hT7.three;have lp:=hT7.lt;have z0:=(bU bq1) _ _ j1;have z1:=(bU bq1) _ _ j2;have z2:=(bU bq1) _ _ j3;go_wp2_with (go_at_call 80;refine (gZ kb nb sb Ab cb 2 ne se _ h3'.out rbz).mono ?_;rintro e w9 ⟨A9,c9,rfl,hl9,r9,hb9⟩)
  go_ret
  exact ⟨rfl,gz.trans (hb9.mono gz.size)⟩
def aYq (w:World)(k n:Int)(ks:List Tm)(e:Ending)(w':World):Prop:=
 ∃A c,e = .returned (.agg (Ro k n A ks.length c))∧ks.length≤9223372036854775807∧Rd w' A 0 ks∧Bw w w'
theorem jU (k1 n1:Int)(ka na:Int)(sa:List Tm)(ts:List Tm)(A1:Option Addr)(c1:Nat)(w:World)(hr:Rd w A1 0 (.mk ka na sa::ts))(hl:(Tm.mk ka na sa::ts).length≤9223372036854775807) :
  Calls prog 109 #[.agg (Ro k1 n1 A1 (ts.length+1) c1)] w (aYq w ka na sa):=by
 obtain ⟨ba,oa,Aa,ca,rfl,i1,i2,i3,hla,ra⟩:=kZ hr;simp only [Nat.zero_mul,Nat.add_zero] at i1 i2 i3
 have hb:=kY _ _ i1;have q:(((ts.length:Nat):Int)+1==0)=false:=by simp;omega
 have q2:(0:Int)<((ts.length:Nat):Int)+1:=by omega
 go_enter func109,ntmps109;go_wp2_with fail
 refine bodyPost_ret (v:=.agg (Ro ka na Aa sa.length ca)) (by simp [results,results109,go_sem]) rfl ⟨Aa,ca,rfl,hla,(ra.alloc _).alloc _,?_⟩;exact bw2
inductive NT where
 | var (i:Nat)
 | zero
 | suc (a:NT)
 | app (b a:NT)
 | elim (z s n:NT)
 | part (q:Bool) (a b:NT)
 | mov (x z:NT)
def kN:Tm:=.mk 6 0 []
def NT.tm:NT→Tm
 | .var i=>.mk 1 i []
 | .zero=>.mk 7 0 []
 | .suc a=>.mk 8 0 [a.tm]
 | .app b a=>.mk 5 0 [.mk 4 0 [kN,b.tm],a.tm]
 | .elim z s n=>.mk 9 0 [.mk 4 0 [kN,kN],z.tm,.mk 4 0 [kN,.mk 4 0 [kN,s.tm]],n.tm]
 | .part q a b=>.mk (if q=true then 16 else 15) 0 [.mk 14 0 [.mk 13 0 [kN,kN],a.tm,b.tm]]
 | .mov x z=>.mk 12 0 [.mk 4 0 [kN,kN],.mk 11 0 [x.tm],z.tm]
def NT.ok:Nat→NT→Prop
 | n,.var i=>i<n
 | _,.zero=>True
 | n,.suc a=>a.ok n
 | n,.app b a=>b.ok (n+1)∧a.ok n
 | n,.elim z s m=>z.ok n∧s.ok (n+2)∧m.ok n
 | n,.part _ a b=>a.ok n∧b.ok n
 | n,.mov x z=>x.ok n∧z.ok n
def NT.dp:NT→Nat
 | .var _=>0
 | .zero=>0
 | .suc a=>a.dp
 | .app b a=>max (b.dp+1) a.dp
 | .elim z s n=>max (max z.dp (s.dp+2)) n.dp
 | .part _ a b=>max (max a.dp b.dp) 1
 | .mov x z=>max (max x.dp z.dp) 1
def uZ (n q:Nat)(t:Tm):Prop:=∃x:NT,x.ok n∧x.dp≤q∧x.tm=t
theorem aQg {n:Int}(hn:0≤n){q:Nat}{b a:Tm}(hb:uZ (n+1).toNat q b)(ha:uZ n.toNat q a):uZ n.toNat (q+2) (.mk 5 0 [.mk 4 0 [.mk 6 0 [],b],a]):=by
 obtain ⟨x,hx,hx2,rfl⟩:=hb;obtain ⟨y,hy,hy2,rfl⟩:=ha;rw [show (n+1).toNat=n.toNat+1 by omega] at hx;exact ⟨.app x y,⟨hx,hy⟩,by simp only [NT.dp];omega,rfl⟩
theorem aOp {n:Int}(hn:0≤n){q:Nat}{z s m:Tm}(hz:uZ n.toNat q z)(hs:uZ (n+2).toNat q s)(hm:uZ n.toNat q m):uZ n.toNat (q+2) (.mk 9 0 [.mk 4 0 [.mk 6 0 [],.mk 6 0 []],z,.mk 4 0 [.mk 6 0 [],.mk 4 0 [.mk 6 0 [],s]],m]):=by
 obtain ⟨x,hx,hx2,rfl⟩:=hz;obtain ⟨y,hy,hy2,rfl⟩:=hs;obtain ⟨v,hv,hv2,rfl⟩:=hm;rw [show (n+2).toNat=n.toNat+2 by omega] at hy;exact ⟨.elim x y v,⟨hx,hy,hv⟩,by simp only [NT.dp];omega,rfl⟩
theorem aPl {n:Int}(hn:0≤n){q:Nat}{k:Int}(hk:k∈([15,16]:List Int)){a b:Tm}(ha:uZ n.toNat q a)(hb:uZ n.toNat q b):uZ n.toNat (q+2) (.mk k 0 [.mk 14 0 [.mk 13 0 [.mk 6 0 [],.mk 6 0 []],a,b]]):=by
 obtain ⟨x,hx,hx2,rfl⟩:=ha;obtain ⟨y,hy,hy2,rfl⟩:=hb;simp only [List.mem_cons,List.not_mem_nil,or_false] at hk
 rcases hk with rfl|rfl
 ·exact ⟨.part false x y,⟨hx,hy⟩,by simp only [NT.dp];omega,rfl⟩
 ·exact ⟨.part true x y,⟨hx,hy⟩,by simp only [NT.dp];omega,rfl⟩
theorem aRr {n:Int}(hn:0≤n){q:Nat}{x z:Tm}(hx:uZ n.toNat q x)(hz:uZ n.toNat q z):uZ n.toNat (q+2) (.mk 12 0 [.mk 4 0 [.mk 6 0 [],.mk 6 0 []],.mk 11 0 [x],z]):=by
 obtain ⟨x,hx,hx2,rfl⟩:=hx;obtain ⟨y,hy,hy2,rfl⟩:=hz;exact ⟨.mov x y,⟨hx,hy⟩,by simp only [NT.dp];omega,rfl⟩
theorem aRz {n:Int}(hn:0≤n){q:Nat}{x:Tm}(hx:uZ n.toNat q x):uZ n.toNat (q+2) (.mk 8 0 [x]):=by
 obtain ⟨x,hx,hx2,rfl⟩:=hx;exact ⟨.suc x,hx,by simp only [NT.dp];omega,rfl⟩
theorem aMm {n q:Nat}{t:Tm}(h:uZ n q t){q':Nat}(hq:q≤q'):uZ n q' t:=by
 obtain ⟨x,h1,h2,h3⟩:=h;exact ⟨x,h1,by omega,h3⟩
theorem aRp {n:Int}(hn:0≤n){q:Nat}{m:Nat}(hm:(m:Int)<n):uZ n.toNat q (.mk 1 m []):=⟨.var m,show m<n.toNat by omega,Nat.zero_le _,rfl⟩
theorem aCw (n:Nat){q:Nat}:uZ n q (.mk 7 0 []):=⟨.zero,trivial,Nat.zero_le _,rfl⟩
theorem Part.mono {B B':Nat}{w:World}{v:Value}{ts:List Tm}(h:Part B w v ts)(hB:B'≤B):Part B' w v ts:=by
 obtain ⟨xs,f,h1,h2,h3,h4,h5⟩:=h;refine ⟨xs,f,⟨h1.1,?_⟩,h2,h3,fun b hb=>Nat.le_trans hB (h4 b hb),h5⟩;rcases h1.2 with hn|⟨g,cap,cur,rfl,hb,r⟩
 ·exact .inl hn
 ·exact .inr ⟨g,cap,cur,rfl,by omega,r⟩
def aTa (w:World)(k n:Int)(ks:List Tm)(e:Ending)(w':World):Prop:=
 ∃v,e = .returned (.agg #[.int .i64 k,.int .i64 n,v])∧ks.length≤9223372036854775807∧Part w.heap.size w' v ks∧Bw w w'
theorem aUf {w:World}{k n:Int}{ks:List Tm}:∀(e:Ending) (w':World),aTa w k n ks e w'→uO w k n ks e w':=fun e w' ⟨v,he,hl,hp,hb⟩=>by
 obtain ⟨A,c,rfl,hf⟩:=hp.fresh;exact ⟨A,c,he,hl,hf,hb⟩
theorem aGz (N:Nat):∀(k n:Int) (ks:List Tm) (A:Option Addr) (c:Nat) (w:World),aH ks<N→aH ks≤1000000000→Rd w A 0 ks→
  Calls prog 36 #[.agg (Ro k n A ks.length c)] w (aTa w k n ks):=by
 induction N with
 | zero=>intro k n ks A c w hN;exact absurd hN (Nat.not_lt_zero _)
 | succ N ih=>
 intro k n ks A c w hN hM hr;have hlen:=aQ ks;go_enter func36,ntmps36;go_wp2_with fail
 go_loopw [4] (fun i wr=>∃(j:Nat) (v:Value),j≤ks.length∧i = .int .i64 j∧Part (w.heap.size+3) wr v (ks.take j)∧Blk wr (w.heap.size+1+1) #[.int .i64 k,.int .i64 n,v]∧Blk wr (w.heap.size+1) Zr∧Blk wr w.heap.size (Ro k n A ks.length c)∧Bw w wr)
  (fun i _ => ks.length - (intOf i).toNat)
 case atStart=>exact ⟨0,_,Nat.zero_le _,rfl,Part.nil,aC _ _ _ (by simp),(aC _ _ _ (by simp)).alloc _,((aC _ _ _ rfl).alloc _).alloc _,bw3⟩
 case round=>
  obtain ⟨j,v,hj,rfl,hp,hB3,hB2,hB1,hb⟩:=hrel;have c12:=hB1.at_ (i:=2) rfl;by_cases hlt:j<ks.length
  ·obtain ⟨b,off,k',n',ks',A',c',rfl,hkj,hc1,hc2,hc3,hl',hr'⟩:=(hr.below hb).at_ hlt;have hsz:=cM (iS hlt);rw [hkj] at hsz;simp only [Tm.size] at hsz
   have H3:=aD hkj;clear hkj;have hz:=hB3.lt;go_wp2_with fail
   have x2:=hB3.rule (i:=2) rfl;have b2:=hB1.rule (i:=2) rfl;obtain ⟨y0,y1,y2⟩:=rN hc1 hc2 hc3;refine bK (fun w'=>Bw wr w') [0,1,2,3,4,5,6] [7,8] [9,10,11] [_,_,_,_,_,_,_] [_,_] [_,_,_] (by kernel_rfl) (by kernel_rfl) rfl rfl rfl (fun _ _ d _ _ h=>by cases d<;>exact h) (fG _ _).drew ?_;refine bV (aD ?_);refine bF ?_;go_wp2_with (go_at_call 36;refine ((ih k' n' ks' A' c' _ (by omega) (by omega) hr'.drew).mono aUf).mono ?_;rintro e w1 ⟨A1,c1,rfl,hl1,hf1,hb1⟩)
   have hx1:Bw wr w1:=(fG _ _).drew.trans hb1;refine aP hx1 (bF ?_);go_wp2_with fail
   refine aP (hx1.alloc hx1.size _) (cZ ?_);refine cL (B:=w.heap.size+3) (m:=j) hp.drew hb1 (by simp;omega) hf1 hl1 (by rw [List.length_take];omega) (by omega) rfl (.tmp 18) (.tmp 25) rfl rfl rfl ?_;intro A2 c2 w2 hp2 hb2 hg2;have q3:Blk w2 (w.heap.size+1+1) #[.int .i64 k,.int .i64 n,v]:=(hB3.below hx1 (by omega)).below hb2 (by omega);have q2:Blk w2 (w.heap.size+1) Zr:=(hB2.below hx1 (by omega)).below hb2 (by omega);have q1':Blk w2 w.heap.size (Ro k n (some ⟨b,off,none⟩) ks.length c):=(hB1.below hx1 (by omega)).below hb2 (by omega);have c3:w2.cell? ⟨w.heap.size+1+1,2,none⟩=some v:=q3.at_ rfl;have z3:=q3.frozen 2;have hbf:Bw w w2:=(hb.trans (hx1.mono (by omega))).trans (hb2.mono (by omega));clear x2 y0 y1 y2 b2;go_wp2_with fail
   go_roundw
   case rel=>exact ⟨j+1,_,by omega,by go_num,by rw [uQ hlt,H3.out];exact hp2.setCell (by simp) _,q3.set_ 2 _,q2.far (by simp) _,q1'.far (by simp;omega) _,hbf.setCell (by simp;omega) _⟩
   case measure=>simp [intOf];omega
  ·have hjl:j=ks.length:=by omega
   subst hjl;rw [List.take_length] at hp;have hvl:∃A' c',v = .slice A' ks.length c':=hp.shape;have c0:wr.cell? ⟨w.heap.size+1+1,0,none⟩=some (.int .i64 k):=hB3.at_ rfl;have c1:wr.cell? ⟨w.heap.size+1+1,1,none⟩=some (.int .i64 n):=hB3.at_ rfl;have c2:wr.cell? ⟨w.heap.size+1+1,2,none⟩=some v:=hB3.at_ rfl;have d0:wr.cell? ⟨w.heap.size+1,0,none⟩=some (.int .i64 0):=hB2.at_ rfl;have d1:wr.cell? ⟨w.heap.size+1,1,none⟩=some (.int .i64 0):=hB2.at_ rfl;have d2:wr.cell? ⟨w.heap.size+1,2,none⟩=some (.slice none 0 0):=hB2.at_ rfl;obtain ⟨e0,e1,e2⟩:=lF hB2;obtain ⟨A',c',rfl⟩:=hvl;go_wp2_with fail
   refine bodyPost_ret (v:=.agg (Ro k n A' ks.length c')) (by simp [results,results36,go_sem,d0,d1,d2]) rfl ⟨_,rfl,by omega,?_,?_⟩
   ·exact ((((hp.setCell (by simp) _).setCell (by simp) _).setCell (by simp) _).mono (by omega))
   ·exact (bT hb)
mutual
def dT:Tm→Option Tm
 | .mk k n ks=>if cH k ks=0 then (if dD k<0 then none else (yA (dD k).toNat ks).map (Tm.mk k n)) else some (gG (.mk k n ks))
def yA:Nat→List Tm→Option (List Tm)
 | _,[]=>none
 | 0,t::ts=>(dT t).map (·::ts)
 | i+1,t::ts=>(yA i ts).map (t::·)
end
theorem pD:∀(ks:List Tm) (i:Nat) (h:i<ks.length),yA i ks=(dT ks[i]).map (ks.set i ·)
 | t::ts,0,h=>rfl
 | t::ts,i+1,h=>by
  have hi:i<ts.length:=by simpa using h
  rw [yA,pD ts i hi];simp only [List.getElem_cons_succ]
  cases dT ts[i]<;>rfl
def rI:Nat→Tm→Option Tm × Int
 | fuel,t=>match dT t with
  | none=>(some t,0)
  | some t'=>match fuel with
   | 0=>(none,1)
   | fuel+1=>if aE t'=true then rI fuel t' else (none,2)
theorem aEp:∀(ts:List Tm) (i:Nat) (h:i<ts.length),iO i ts=bS ts[i]
 | t::ts,0,h=>rfl
 | t::ts,i+1,h=>by rw [iO,aEp ts i (by simpa using h)];rfl
theorem jA:∀(ts:List Tm) (i:Nat),ts.length≤i→iO i ts=none∧yA i ts=none
 | [],i,h=>by cases i<;>exact ⟨rfl,rfl⟩
 | t::ts,0,h=>absurd h (by simp)
 | t::ts,i+1,h=>by rw [iO,yA,(jA ts i (by simpa using h)).1,(jA ts i (by simpa using h)).2];exact ⟨rfl,rfl⟩
theorem yV:∀t:Tm,(bS t=none→dT t=none)∧∀p,bS t=some p→∃k n ks,lC t p=some (.mk k n ks)∧cH k ks≠0∧dT t=some (iT t p (gG (.mk k n ks))):=by
 refine Tm.rec (motive_1:=fun t=>(bS t=none→dT t=none)∧∀p,bS t=some p→∃k n ks,lC t p=some (.mk k n ks)∧cH k ks≠0∧dT t=some (iT t p (gG (.mk k n ks))))
  (motive_2 := fun ts => ∀ t, t ∈ ts → (bS t = none → dT t = none) ∧ ∀ p, bS t = some p → ∃ k n ks, lC t p = some (.mk k n ks) ∧ cH k ks ≠ 0 ∧ dT t = some (iT t p (gG (.mk k n ks)))) ?_ ?_ ?_
 ·intro k n ks ih;by_cases hr:cH k ks=0
  ·by_cases hm:dD k<0
   ·rw [bS,dT,if_pos hr,if_pos hm,if_pos hr,if_pos hm];exact ⟨fun _=>rfl,fun p h=>by cases h⟩
   ·rw [bS,dT,if_pos hr,if_neg hm,if_pos hr,if_neg hm];obtain ⟨i,hi⟩:∃i:Nat,dD k=(i:Int):=⟨(dD k).toNat,by omega⟩;rw [hi,Int.toNat_natCast];by_cases hl:i<ks.length
    ·rw [aEp ks i hl,pD ks i hl];have h:=ih _ (iS hl);refine ⟨fun h0=>?_,fun p hp=>?_⟩
     ·cases hh:bS ks[i] with
      | none=>rw [h.1 hh];rfl
      | some q=>rw [hh] at h0;cases h0
     ·cases hh:bS ks[i] with
      | none=>rw [hh] at hp;cases hp
      | some q=>
       rw [hh] at hp;injection hp with hp;subst hp;obtain ⟨k1,n1,ks1,ha,hr1,hs⟩:=h.2 q hh;refine ⟨k1,n1,ks1,?_,hr1,?_⟩
       ·rw [oU hl];exact ha
       ·rw [hs,zX hl];rfl
    ·rw [(jA ks i (by omega)).1,(jA ks i (by omega)).2];exact ⟨fun _=>rfl,fun p h=>by cases h⟩
  ·rw [bS,dT,if_neg hr,if_neg hr];refine ⟨(fun h=>by cases h),fun p hp=>?_⟩;injection hp with hp;subst hp;exact ⟨k,n,ks,rfl,hr,rfl⟩
 ·intro t h;cases h
 ·intro t ts h1 h2 u hu;rcases List.mem_cons.1 hu with rfl|hu
  ·exact h1
  ·exact h2 u hu
theorem aKu {t:Tm}{p:List Int}(hv:aE t=true)(hp:bS t=some p):∃t',dT t=some t'∧lX t p=vO t':=by
 obtain ⟨k,n,ks,ha,hr,hs⟩:=(yV t).2 p hp;refine ⟨_,hs,?_⟩;have hu:=mT ha hv;rw [lX,ha];simp only [zP hu hr]
 by_cases hc:aE (gG (.mk k n ks))=true
 ·rw [aAt hc]
 ·rw [sU hc,sU (fun h=>hc (rF p t _ _ ha h))]
theorem pI:∀(fuel:Nat) (t:Tm),aE t=true→rI fuel t=redI bS fuel t
 | fuel,t,hv=>by
  rw [rI,redI];cases hp:bS t with
  | none=>rw [(yV t).1 hp]
  | some p=>
   obtain ⟨t',hs,hc⟩:=aKu hv hp;rw [hs];cases fuel with
   | zero=>rfl
   | succ fuel=>
    simp only [hc]
    by_cases h:aE t'=true
    ·rw [if_pos h,aAt h];exact pI fuel t' h
    ·rw [if_neg h,sU h]
theorem tC (k:Int)(w:World):Calls prog 145 #[.int .i64 k] w fun e w'=>e = .returned (.int .i64 (dD k))∧Bw w w':=by
 unfold dD
 by_cases h5:k=5
 ·subst h5;go_enter func145,ntmps145;go_wp2_with fail
  go_ret
  exact ⟨rfl,fG _ _⟩
 by_cases h15:k=15
 ·subst h15;go_enter func145,ntmps145;go_wp2_with fail
  go_ret
  exact ⟨rfl,fG _ _⟩
 by_cases h16:k=16
 ·subst h16;go_enter func145,ntmps145;go_wp2_with fail
  go_ret
  exact ⟨rfl,fG _ _⟩
 rw [if_neg (by omega)];have q5:(k==5)=false:=by simpa using h5
 have q15:(k==15)=false:=by simpa using h15
 have q16:(k==16)=false:=by simpa using h16
 by_cases h12:k=12
 ·subst h12;go_enter func145,ntmps145;go_wp2_with fail
  go_ret
  exact ⟨rfl,fG _ _⟩
 have q12:(k==12)=false:=by simpa using h12
 by_cases h9:k=9
 ·subst h9;go_enter func145,ntmps145;go_wp2_with fail
  go_ret
  exact ⟨rfl,fG _ _⟩
 have q9:(k==9)=false:=by simpa using h9
 rw [if_neg h9,if_neg h12];go_enter func145,ntmps145;go_wp2_with fail
 go_ret
 exact ⟨rfl,fG _ _⟩
def aPh (t0:Tm)(m:Nat)(w:World)(e:Ending)(w':World):Prop:=
 ∃(k n:Int) (ks:List Tm) (A:Option Addr) (c:Nat) (b:Bool),.mk k n ks=(dT t0).getD t0∧b=(dT t0).isSome∧e = .returned (.tuple #[.agg (Ro k n A ks.length c),.bool b])∧ks.length≤9223372036854775807∧aH ks+1≤m∧RdP (fun x=>if b=true then w.heap.size≤x else x<w.heap.size) w' A 0 ks∧Bw w w'
theorem jJ (d:Nat):∀(k n:Int) (ks:List Tm) (A:Option Addr) (c:Nat) (w:World),d≤30→aH ks≤400→shape d (.mk k n ks)=true→Rd w A 0 ks→
  Calls prog 136 #[.agg (Ro k n A ks.length c)] w (aPh (.mk k n ks) (190000+401*d) w):=by
 induction d with
 | zero=>intro k n ks A c w _ _ hs;simp [shape] at hs
 | succ d ih=>
 intro k n ks A c w hd hM hs hr;have hlen:=aQ ks;obtain ⟨d',hde,ha,_,_,hk⟩:=bX hs;obtain rfl:d'=d:=by omega
 have hk':=aD hk;have ha':=aD ha;have hs':=aD hs;replace ih:=aD ih;clear hk ha hs hde;by_cases hx:cH k ks=0
 ·have hrd:=aD hx;obtain ⟨mm,hmm⟩:∃mm,dD k=mm:=⟨_,rfl⟩;have hmn:=aD hmm;by_cases hneg:mm<0
  ·have hst0:=aD (show dT (.mk k n ks)=none by rw [dT,if_pos hx,hmm,if_pos hneg]);have qm:decide (mm<0)=true:=decide_eq_true hneg;clear hx hmm;go_enter func136,ntmps136;go_wp2_with (first
    | (go_at_call 145;have _t:=tok;refine (tC k _).mono ?_;rw [hmn.out];rintro e w2 ⟨rfl,hb2⟩;replace hB:=hB.keep hb2;replace hZ:=hZ.keep hb2;clear x0 x1 x2;obtain ⟨x0,x1,x2⟩:=hB.three;have s2:=hZ.lt;have g2:=g1.trans (hb2.mono g1.size);have hr2:=hr.below g2;obtain ⟨d0,d1,d2,e0,e1,e2⟩:=bW hZ;clear tok;have tok2:=trivial)
    | (go_at_call 91;refine (eF k n ks A c _ (by omega) ha'.out ((hr.alloc _).alloc _)).mono ?_;rw [hrd.out];rintro e w1 ⟨rfl,hb1⟩;have hB:=cV hb1;have hZ:=bH hb1;have g1:Bw w w1:=bQ bw2 hb1;have s1:=hZ.lt;have hr1:=hr.below g1;obtain ⟨x0,x1,x2⟩:=hB.three;have tok:=trivial))
   refine bodyPost_ret (v:=.tuple #[.agg (Ro k n A ks.length c),.bool false]) (by simp [results,results136,go_sem,d0,d1,d2]) rfl ⟨k,n,ks,A,c,false,(by rw [hst0.out];rfl),(by rw [hst0.out];rfl),rfl,by omega,by omega,?_,?_⟩
   ·exact ((((hr.rdp.below g2).setCell (by simp) _).setCell (by simp) _).setCell (by simp) _).mono (fun x hx=>by simpa using hx)
   ·exact bT g2
  ·obtain ⟨i,rfl⟩:∃i:Nat,mm=(i:Int):=⟨mm.toNat,by omega⟩;have hil:i<ks.length:=by
    have:=ha'.out;unfold aK at this
    unfold dD at hmm
    repeat' split at hmm
    all_goals (first|omega|(rename_i h;rcases h with rfl|rfl|rfl<;>simp_all<;>omega)|(simp_all;omega))
   have qm:decide ((i:Int)<0)=false:=decide_eq_false (by omega);obtain ⟨b,off,k',n',ks',A',c',rfl,hkj,hc1,hc2,hc3,hl',hr'⟩:=hr.at_ hil;have hlk:(i:Int)<(ks.length:Int):=by omega
   have hsz:=cM (iS hil);have hsk:=hk'.out _ (iS hil);rw [hkj] at hsz hsk;simp only [Tm.size] at hsz
   have hsk':=aD hsk;have hsteq:dT (.mk k n ks)=((dT (.mk k' n' ks')).map (ks.set i ·)).map (Tm.mk k n):=by rw [dT,if_pos hx,hmm,if_neg hneg,Int.toNat_natCast,pD ks i hil,hkj]
   cases hho:dT (.mk k' n' ks') with
   | none=>
    rw [hho] at hsteq;have hst0:=aD (show dT (.mk k n ks)=none from hsteq);have hst:=aD hho;clear hx hmm hsteq hho hsk hkj;go_enter func136,ntmps136;go_wp2_with (first
     | (go_at_call 136;have _t:=tok2;refine (ih.out k' n' ks' A' c' _ (by omega) (by omega) hsk'.out (hr'.below g2)).mono ?_;rintro e w3 ⟨k3,n3,ks3,A3,c3,bb,hv3,hw3,rfl,hl3,hs3,hr3,hb3⟩;obtain rfl:bb=false:=(by rw [hw3,hst.out];rfl);replace hv3:=aD hv3;clear hw3;replace hB:=(hB.keep hb3).alloc (.cells (Ro k3 n3 A3 ks3.length c3) 25);replace hZ:=(hZ.keep hb3).alloc (.cells (Ro k3 n3 A3 ks3.length c3) 25);have g3:=(g2.trans (hb3.mono g2.size)).alloc (by have:=hb3.size;omega) (.cells (Ro k3 n3 A3 ks3.length c3) 25);have hr4:=hr3.alloc (.cells (Ro k3 n3 A3 ks3.length c3) 25);have hr5:=hr.below g3;have s3:=hb3.size;have hK:=aC w3 25 (Ro k3 n3 A3 ks3.length c3) rfl;obtain ⟨y0,y1,y2⟩:=hK.three;clear x0 x1 x2 d0 d1 d2 e0 e1 e2;obtain ⟨x0,x1,x2⟩:=hB.three;obtain ⟨d0,d1,d2,e0,e1,e2⟩:=bW hZ;clear tok2;have tok3:=trivial)
     | (go_at_call 145;have _t:=tok;refine (tC k _).mono ?_;rw [hmn.out];rintro e w2 ⟨rfl,hb2⟩;replace hB:=hB.keep hb2;replace hZ:=hZ.keep hb2;clear x0 x1 x2;obtain ⟨x0,x1,x2⟩:=hB.three;have s2:=hZ.lt;have g2:=g1.trans (hb2.mono g1.size);have hr2:=hr.below g2;obtain ⟨d0,d1,d2,e0,e1,e2⟩:=bW hZ;clear tok;obtain ⟨m1,m2,m3⟩:=xY g2 hc1 hc2 hc3;have tok2:=trivial)
     | (go_at_call 91;refine (eF k n ks _ c _ (by omega) ha'.out ((hr.alloc _).alloc _)).mono ?_;rw [hrd.out];rintro e w1 ⟨rfl,hb1⟩;have hB:=cV hb1;have hZ:=bH hb1;have g1:Bw w w1:=bQ bw2 hb1;have s1:=hZ.lt;have hr1:=hr.below g1;obtain ⟨x0,x1,x2⟩:=hB.three;have tok:=trivial))
    refine bodyPost_ret (v:=.tuple #[.agg (Ro k n (some ⟨b,off,none⟩) ks.length c),.bool false]) (by simp [results,results136,go_sem,d0,d1,d2]) rfl ⟨k,n,ks,some ⟨b,off,none⟩,c,false,(by rw [hst0.out];rfl),(by rw [hst0.out];rfl),rfl,by omega,by omega,?_,?_⟩
    ·exact ((((hr.rdp.below g3).setCell (by simp) _).setCell (by simp) _).setCell (by simp) _).mono (fun x hx=>by simpa using hx)
    ·exact bT g3
   | some u=>
    obtain ⟨ku,nu,us⟩:=u;rw [hho] at hsteq;have hst0:=aD (show dT (.mk k n ks)=some (.mk k n (ks.set i (.mk ku nu us))) from hsteq);have hst:=aD hho;clear hx hmm hsteq hho hsk hkj;go_enter func136,ntmps136;go_wp2_with (first
     | (go_at_call 93;have _t:=tok3;refine (aAd (p:=fun x=>w2.heap.size≤x∧x<w3.heap.size) k n ks _ c i k3 n3 ks3 A3 c3 (ks.set i (.mk k3 n3 ks3)) (by simp) (aPp ks i _) _ (by omega) hl3 hr5 (hrx.alloc _) (fun x hx=>by have:=hx.2;simp;omega)).mono ?_;rintro e w4 ⟨A4,c4,rfl,hl4,hr6,hb4⟩;replace hZ:=hZ.keep hb4;clear d0 d1 d2 e0 e1 e2;obtain ⟨d0,d1,d2,e0,e1,e2⟩:=bW hZ;have g4:=g3.trans (hb4.mono g3.size))
     | (go_at_call 136;have _t:=tok2;refine (ih.out k' n' ks' A' c' _ (by omega) (by omega) hsk'.out (hr'.below g2)).mono ?_;rintro e w3 ⟨k3,n3,ks3,A3,c3,bb,hv3,hw3,rfl,hl3,hs3,hr3,hb3⟩;obtain rfl:bb=true:=(by rw [hw3,hst.out];rfl);replace hv3:=aD hv3;clear hw3;replace hB:=(hB.keep hb3).alloc (.cells (Ro k3 n3 A3 ks3.length c3) 25);replace hZ:=(hZ.keep hb3).alloc (.cells (Ro k3 n3 A3 ks3.length c3) 25);have g3:=(g2.trans (hb3.mono g2.size)).alloc (by have:=hb3.size;omega) (.cells (Ro k3 n3 A3 ks3.length c3) 25);have hr4:=hr3.alloc (.cells (Ro k3 n3 A3 ks3.length c3) 25);have hr5:=hr.below g3;have s3:=hb3.size;have hK:=aC w3 25 (Ro k3 n3 A3 ks3.length c3) rfl;obtain ⟨y0,y1,y2⟩:=hK.three;clear x0 x1 x2 d0 d1 d2 e0 e1 e2;obtain ⟨x0,x1,x2⟩:=hB.three;obtain ⟨d0,d1,d2,e0,e1,e2⟩:=bW hZ;clear tok2;have tok3:=trivial;obtain ⟨rfl,rfl,rfl⟩:k3=ku∧n3=nu∧ks3=us:=(by have h:=hv3.out;rw [hst.out] at h;injection h with q1 q2 q3;exact ⟨q1,q2,q3⟩);have hrx:RdP (fun x=>w2.heap.size≤x∧x<w3.heap.size) w3 A3 0 ks3:=(hr3.lt_).mono (fun x hx=>⟨(by have h1:=hx.1;simpa using h1),hx.2⟩))
     | (go_at_call 145;have _t:=tok;refine (tC k _).mono ?_;rw [hmn.out];rintro e w2 ⟨rfl,hb2⟩;replace hB:=hB.keep hb2;replace hZ:=hZ.keep hb2;clear x0 x1 x2;obtain ⟨x0,x1,x2⟩:=hB.three;have s2:=hZ.lt;have g2:=g1.trans (hb2.mono g1.size);have hr2:=hr.below g2;obtain ⟨d0,d1,d2,e0,e1,e2⟩:=bW hZ;clear tok;obtain ⟨m1,m2,m3⟩:=xY g2 hc1 hc2 hc3;have tok2:=trivial)
     | (go_at_call 91;refine (eF k n ks _ c _ (by omega) ha'.out ((hr.alloc _).alloc _)).mono ?_;rw [hrd.out];rintro e w1 ⟨rfl,hb1⟩;have hB:=cV hb1;have hZ:=bH hb1;have g1:Bw w w1:=bQ bw2 hb1;have s1:=hZ.lt;have hr1:=hr.below g1;obtain ⟨x0,x1,x2⟩:=hB.three;have tok:=trivial))
    have hsz2:=tB ks i (.mk k3 n3 ks3);rw [Tm.size] at hsz2;refine bodyPost_ret (v:=.tuple #[.agg #[.int .i64 k,.int .i64 n,.slice A4 (ks.set i (.mk k3 n3 ks3)).length c4],.bool true]) (by simp [results,results136,go_sem,d0,d1,d2]) rfl ⟨k,n,ks.set i (.mk k3 n3 ks3),A4,c4,true,(by rw [hst0.out];rfl),(by rw [hst0.out];rfl),rfl,by simp;omega,by omega,?_,?_⟩
    ·have hr7:=hr6.mono (q:=fun x=>w.heap.size+2≤x) (fun x hx=>hx.elim (fun h=>by have:=h.1;omega) (fun h=>by simp at h;omega));exact (((hr7.setCell (by simp) _).setCell (by simp) _).setCell (by simp) _).mono (fun x hx=>by simp;omega)
    ·exact bT g4
 ·have hq:(cH k ks==0)=false:=by simpa using hx
  have hc:=aD (fun w A c hr=>qH dS (d'+1) hd k n ks A c w hM hs'.out hx hr);obtain ⟨rr,hrr⟩:∃rr,cH k ks=rr:=⟨_,rfl⟩;rw [hrr] at hq;have hrd:=aD hrr;have hst:=aD (show dT (.mk k n ks)=some (gG (.mk k n ks)) from by rw [dT,if_neg hx]);clear hx hrr;go_enter func136,ntmps136;go_wp2_with (first
   | (go_at_call 92;have _t:=tok;refine (hc.out _ A c hr1).mono ?_;rintro e w2 ⟨k2,n2,ks2,hv2,⟨A2,c2,rfl,hl2,hr2,hb2⟩,hs2⟩;replace hv2:=aD hv2;replace hZ:=hZ.keep hb2;obtain ⟨d0,d1,d2,e0,e1,e2⟩:=bW hZ;have g2:=g1.trans (hb2.mono g1.size))
   | (go_at_call 91;refine (eF k n ks A c _ (by omega) ha'.out ((hr.alloc _).alloc _)).mono ?_;rw [hrd.out];rintro e w1 ⟨rfl,hb1⟩;have hB:=cV hb1;have hZ:=bH hb1;have g1:Bw w w1:=bQ bw2 hb1;have s1:=hZ.lt;have hr1:=hr.below g1;obtain ⟨x0,x1,x2⟩:=hB.three;have tok:=trivial))
  refine bodyPost_ret (v:=.tuple #[.agg (Ro k2 n2 A2 ks2.length c2),.bool true]) (by simp [results,results136,go_sem,d0,d1,d2]) rfl ⟨k2,n2,ks2,A2,c2,true,(by rw [hst.out,hv2.out];rfl),(by rw [hst.out];rfl),rfl,hl2,by omega,?_,?_⟩
  ·exact ((((hr2.mono (q:=fun x=>w.heap.size+2≤x) (fun x hx=>hx.elim (fun h=>h.elim) (fun h=>by omega))).setCell (by simp) _).setCell (by simp) _).setCell (by simp) _).mono (fun x hx=>by simp;omega)
  ·exact bT g2
theorem aPq {t:Tm}{f:Nat}(h:dT t=none):rI f t=(some t,0):=by rw [rI,h]
theorem aLu {t u:Tm}(h:dT t=some u):rI 0 t=(none,1):=by rw [rI,h]
theorem aKo {t u:Tm}{f:Nat}(h:dT t=some u)(hv:aE u=false):rI (f+1) t=(none,2):=by rw [rI,h];simp [hv]
theorem aMb {t u:Tm}{f:Nat}(h:dT t=some u)(hv:aE u=true):rI (f+1) t=rI f u:=by rw [rI,h];simp [hv]
theorem zZ (k n:Int)(ks:List Tm)(A:Option Addr)(c:Nat)(F:Nat)(hF:F≤1000)(w:World)(hv:aE (.mk k n ks)=true)(hl:ks.length≤9223372036854775807)(hr:Rd w A 0 ks) :
  Calls prog 117 #[.agg (Ro k n A ks.length c),.int .i64 F] w (aTg (rI F (.mk k n ks)) w):=by
 obtain ⟨R,hR⟩:∃R,rI F (.mk k n ks)=R:=⟨_,rfl⟩;rw [hR];replace hR:=aD hR;go_enter func117,ntmps117;go_wp2_with fail
 go_loopw [1] (fun fv wr=>∃(f:Nat) (k n:Int) (ks:List Tm) (A:Option Addr) (c:Nat),f≤F∧Hid (rI f (.mk k n ks)=R)∧fv = .int .i64 f∧aE (.mk k n ks)=true∧ks.length≤9223372036854775807∧Blk wr w.heap.size (Ro k n A ks.length c)∧Blk wr (w.heap.size+1) Zr∧RdP (fun b=>b<w.heap.size∨w.heap.size+2≤b) wr A 0 ks∧Bw w wr)
  (fun fv _ => (intOf fv).toNat)
 case atStart=>exact ⟨F,k,n,ks,A,c,pS _,hR,rfl,hv,hl,(aC _ _ _ rfl).alloc _,aC _ _ _ (by simp),((hr.rdp.alloc _).alloc _).mono (fun b hb=>.inl hb),bw2⟩
 case round=>
  clear hv hl hr hR;obtain ⟨f,k,n,ks,A,c,hf,hRf,rfl,hv,hl,hB,hZ,hrd,hb⟩:=hrel;have hsh:=aD (aW hv);have hM:=aJ hv;have hv':=aD hv;clear hv;obtain ⟨x0,x1,x2⟩:=hB.three;have lz0:=hZ.lt;have sb:=hb.size;cases hho:dT (.mk k n ks) with
  | none=>
   obtain rfl:R=(some (.mk k n ks),0):=by rw [← hRf.out,aPq hho]
   have hst:=aD hho;clear hho;go_wp2_with (first
    | (go_at_call 36;have _t:=tok;refine (eM _ k n ks A c _ (qG _) (by omega) hrd1.rd).mono ?_;rintro e w2 ⟨A3,c3,rfl,hl3,hf3,hb3⟩;replace hZ:=hZ.keep hb3;clear d0 d1 d2 e0 e1 e2;obtain ⟨d0,d1,d2,e0,e1,e2⟩:=bW hZ;have g2:=g1.trans (hb3.mono g1.size))
    | (go_at_call 136;refine (jJ 30 k n ks A c _ (pS _) hM hsh.out hrd.rd).mono ?_;rintro e w1 ⟨k3,n3,ks3,A9,c9,bb,hv3,hw3,rfl,hl9,hs3,hr3,hb9⟩;obtain rfl:bb=false:=(by rw [hw3,hst.out];rfl);clear hv3 hw3;replace hB:=(hB.keep hb9).alloc (.cells (Ro k3 n3 A9 ks3.length c9) 25);replace hZ:=(hZ.keep hb9).alloc (.cells (Ro k3 n3 A9 ks3.length c9) 25);have g1:=(hb.trans (hb9.mono hb.size)).alloc (by have:=hb9.size;omega) (.cells (Ro k3 n3 A9 ks3.length c9) 25);have hrd1:=(hrd.below hb9).alloc (.cells (Ro k3 n3 A9 ks3.length c9) 25);clear x0 x1 x2;obtain ⟨x0,x1,x2⟩:=hB.three;obtain ⟨d0,d1,d2,e0,e1,e2⟩:=bW hZ;have s1:=g1.size;have s9:w.heap.size+2≤w1.heap.size:=(by have:=hb9.size;omega);have tok:=trivial))
   refine bodyPost_ret (v:=.tuple #[.agg (Ro k n A3 ks.length c3),.int .i64 0]) (by simp [results,results117,go_sem,d0,d1,d2]) rfl ⟨k,n,ks,A3,c3,rfl,rfl,hl,?_,?_⟩
   ·exact (Fresh.rdp (mU hf3)).mono (fun b hb=>by have:=hb.1;simp at this;omega)
   ·exact bT g2
  | some u=>
   obtain ⟨ku,nu,us⟩:=u;have hst:=aD hho;clear hho;have STEP:True:=trivial;cases f with
   | zero=>
    obtain rfl:R=(none,1):=by rw [← hRf.out,aLu hst.out]
    go_wp2_with (go_at_call 136;refine (jJ 30 k n ks A c _ (pS _) hM hsh.out hrd.rd).mono ?_;rintro e w1 ⟨k3,n3,ks3,A3,c3,bb,hv3,hw3,rfl,hl3,hs3,hr3,hb3⟩;obtain rfl:bb=true:=(by rw [hw3,hst.out];rfl);obtain ⟨rfl,rfl,rfl⟩:k3=ku∧n3=nu∧ks3=us:=(by have h:=hv3;rw [hst.out] at h;injection h with q1 q2 q3;exact ⟨q1,q2,q3⟩);clear hv3 hw3;replace hB:=(hB.keep hb3).alloc (.cells (Ro k3 n3 A3 ks3.length c3) 25);replace hZ:=(hZ.keep hb3).alloc (.cells (Ro k3 n3 A3 ks3.length c3) 25);have s0:=hb3.size;have g1:=(hb.trans (hb3.mono hb.size)).alloc (by omega) (.cells (Ro k3 n3 A3 ks3.length c3) 25);have hr4:=(hr3.alloc (.cells (Ro k3 n3 A3 ks3.length c3) 25)).mono (q:=fun b=>w.heap.size+2≤b) (fun b hb=>by simp at hb;omega);have hK:=aC w1 25 (Ro k3 n3 A3 ks3.length c3) rfl;clear x0 x1 x2;obtain ⟨x0,x1,x2⟩:=hB.three;obtain ⟨y0,y1,y2⟩:=hK.three;obtain ⟨d0,d1,d2,e0,e1,e2⟩:=bW hZ;have s1:=g1.size;have tok:=trivial)
    refine bodyPost_ret (v:=.tuple #[.agg Zr,.int .i64 1]) (by simp [results,results117,go_sem,d0,d1,d2]) rfl ⟨0,0,[],none,0,rfl,rfl,by simp,RdP.nil,?_⟩;exact bT g1
   | succ f=>
    have qf:decide (((f+1:Nat):Int)<1)=false:=decide_eq_false (by omega);have qg:decide ((f:Int)+1<1)=false:=decide_eq_false (by omega);cases hvu:aE (.mk ku nu us) with
    | false=>
     obtain rfl:R=(none,2):=by rw [← hRf.out,aKo hst.out hvu]
     have hvv:=aD hvu;clear hvu;go_wp2_with (first
      | (go_at_call 21;have _t:=tok;refine (aU k3 n3 ks3 A3 c3 _ (by omega) hr4.rd).mono ?_;rw [hvv.out];rintro e w2 ⟨rfl,hb4⟩;replace hB:=hB.keep hb4;replace hZ:=hZ.keep hb4;replace hK:=hK.keep hb4;have g2:=g1.trans (hb4.mono g1.size);have hr5:=hr4.below hb4;clear x0 x1 x2 y0 y1 y2 d0 d1 d2 e0 e1 e2;obtain ⟨x0,x1,x2⟩:=hB.three;obtain ⟨y0,y1,y2⟩:=hK.three;obtain ⟨d0,d1,d2,e0,e1,e2⟩:=bW hZ;obtain ⟨z0,z1,z2⟩:=lF hB;have s2:=g2.size)
      | (go_at_call 136;refine (jJ 30 k n ks A c _ (pS _) hM hsh.out hrd.rd).mono ?_;rintro e w1 ⟨k3,n3,ks3,A3,c3,bb,hv3,hw3,rfl,hl3,hs3,hr3,hb3⟩;obtain rfl:bb=true:=(by rw [hw3,hst.out];rfl);obtain ⟨rfl,rfl,rfl⟩:k3=ku∧n3=nu∧ks3=us:=(by have h:=hv3;rw [hst.out] at h;injection h with q1 q2 q3;exact ⟨q1,q2,q3⟩);clear hv3 hw3;replace hB:=(hB.keep hb3).alloc (.cells (Ro k3 n3 A3 ks3.length c3) 25);replace hZ:=(hZ.keep hb3).alloc (.cells (Ro k3 n3 A3 ks3.length c3) 25);have s0:=hb3.size;have g1:=(hb.trans (hb3.mono hb.size)).alloc (by omega) (.cells (Ro k3 n3 A3 ks3.length c3) 25);have hr4:=(hr3.alloc (.cells (Ro k3 n3 A3 ks3.length c3) 25)).mono (q:=fun b=>w.heap.size+2≤b) (fun b hb=>by simp at hb;omega);have hK:=aC w1 25 (Ro k3 n3 A3 ks3.length c3) rfl;clear x0 x1 x2;obtain ⟨x0,x1,x2⟩:=hB.three;obtain ⟨y0,y1,y2⟩:=hK.three;obtain ⟨d0,d1,d2,e0,e1,e2⟩:=bW hZ;have s1:=g1.size;have tok:=trivial))
     refine bodyPost_ret (v:=.tuple #[.agg Zr,.int .i64 2]) (by simp [results,results117,go_sem,d0,d1,d2]) rfl ⟨0,0,[],none,0,rfl,rfl,by simp,RdP.nil,?_⟩;exact bT g2
    | true=>
     have hRg:=aD (show rI f (.mk ku nu us)=R by rw [← hRf.out,aMb hst.out hvu]);have hvv:=aD hvu;clear hvu;go_wp2_with (first
      | (go_at_call 21;have _t:=tok;refine (aU k3 n3 ks3 A3 c3 _ (by omega) hr4.rd).mono ?_;rw [hvv.out];rintro e w2 ⟨rfl,hb4⟩;replace hB:=hB.keep hb4;replace hZ:=hZ.keep hb4;replace hK:=hK.keep hb4;have g2:=g1.trans (hb4.mono g1.size);have hr5:=hr4.below hb4;clear x0 x1 x2 y0 y1 y2 d0 d1 d2 e0 e1 e2;obtain ⟨x0,x1,x2⟩:=hB.three;obtain ⟨y0,y1,y2⟩:=hK.three;obtain ⟨d0,d1,d2,e0,e1,e2⟩:=bW hZ;obtain ⟨z0,z1,z2⟩:=lF hB;have s2:=g2.size)
      | (go_at_call 136;refine (jJ 30 k n ks A c _ (pS _) hM hsh.out hrd.rd).mono ?_;rintro e w1 ⟨k3,n3,ks3,A3,c3,bb,hv3,hw3,rfl,hl3,hs3,hr3,hb3⟩;obtain rfl:bb=true:=(by rw [hw3,hst.out];rfl);obtain ⟨rfl,rfl,rfl⟩:k3=ku∧n3=nu∧ks3=us:=(by have h:=hv3;rw [hst.out] at h;injection h with q1 q2 q3;exact ⟨q1,q2,q3⟩);clear hv3 hw3;replace hB:=(hB.keep hb3).alloc (.cells (Ro k3 n3 A3 ks3.length c3) 25);replace hZ:=(hZ.keep hb3).alloc (.cells (Ro k3 n3 A3 ks3.length c3) 25);have s0:=hb3.size;have g1:=(hb.trans (hb3.mono hb.size)).alloc (by omega) (.cells (Ro k3 n3 A3 ks3.length c3) 25);have hr4:=(hr3.alloc (.cells (Ro k3 n3 A3 ks3.length c3) 25)).mono (q:=fun b=>w.heap.size+2≤b) (fun b hb=>by simp at hb;omega);have hK:=aC w1 25 (Ro k3 n3 A3 ks3.length c3) rfl;clear x0 x1 x2;obtain ⟨x0,x1,x2⟩:=hB.three;obtain ⟨y0,y1,y2⟩:=hK.three;obtain ⟨d0,d1,d2,e0,e1,e2⟩:=bW hZ;have s1:=g1.size;have tok:=trivial))
     refine ⟨⟨f,k3,n3,ks3,A3,c3,by omega,hRg,by go_num,hvv.out,hl3,((hB.set_ 0 _).set_ 1 _).set_ 2 _,((hZ.far (by simp) _).far (by simp) _).far (by simp) _,(((hr5.setCell (by simp) _).setCell (by simp) _).setCell (by simp) _).mono (fun b hb=>.inr hb),(bT g2)⟩,by first|(simp [intOf];done)|(simp [intOf];omega)⟩
end Go.Proofs.YtajjhldcjikkpaaGreat
