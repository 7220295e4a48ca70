/- Parts of the proof. No condition. -/
import Derived.Test.YtajjhldcjikkpaaGreatK11
import Derived.Test.YtajjhldcjikkpaaGreatK12
open Go.Proofs.Tryz
namespace Go.Proofs.YtajjhldcjikkpaaGreat
open Go.RowKit
set_option maxHeartbeats 8000000
set_option maxRecDepth 100000
set_option linter.unusedSimpArgs false
set_option linter.unusedVariables false
def Le {α:Type}(o1 o2:Option α):Prop:=∀r,o1=some r→o2=some r
theorem Le.refl {α:Type}(o:Option α):Le o o:=fun _ h=>h
theorem bR {α β:Type}{o1 o2:Option (Rs α)}{f1 f2:α→Option (Rs β)}(h:Le o1 o2)(hf:∀a,Le (f1 a) (f2 a)):Le (bd o1 f1) (bd o2 f2):=by
 intro r hr;rcases aO hr with ⟨b,h1,rfl⟩|⟨a,h1,h2⟩
 ·rw [h _ h1];rfl
 ·rw [h _ h1,jW];exact hf a r h2
section
variable {r1 r2:aTf}(hr:∀c t,Le (r1 c t) (r2 c t))(ctx:List Tm)
include hr
theorem pB (t:Tm):Le (iS r1 ctx t) (iS r2 ctx t):=bR (hr _ _) fun _=>Le.refl _
theorem uT (t:Tm)(k:Int):Le (xF r1 ctx t k) (xF r2 ctx t k):=bR (hr _ _) fun _=>Le.refl _
theorem jD (t u:Tm):Le (iI r1 ctx t u) (iI r2 ctx t u):=bR (hr _ _) fun _=>Le.refl _
theorem aAt (a b:Tm):Le (uK r1 ctx a b) (uK r2 ctx a b):=bR (pB hr _ _) fun _=>bR (pB hr _ _) fun _=>Le.refl _
theorem aHi (p f:Tm):Le (aFk r1 ctx p f) (aFk r2 ctx p f):=bR (uT hr _ _ _) fun _=>Le.refl _
theorem aPn (t:Tm):Le (fP r1 ctx t) (fP r2 ctx t):=by
 obtain ⟨k,n,ks⟩:=t;rw [fP,fP];by_cases h3:k=3∨k=13
 ·rw [if_pos h3,if_pos h3];exact aAt hr _ _ _
 rw [if_neg h3,if_neg h3];by_cases h4:k=4
 ·rw [if_pos h4,if_pos h4];exact bR (pB hr _ _) fun _=>bR (hr _ _) fun _=>bR (aAt hr _ _ _) fun _=>Le.refl _
 rw [if_neg h4,if_neg h4];by_cases h5:k=5
 ·rw [if_pos h5,if_pos h5];exact bR (uT hr _ _ _) fun _=>bR (jD hr _ _ _) fun _=>Le.refl _
 rw [if_neg h5,if_neg h5];by_cases h9:k=9
 ·rw [if_pos h9,if_pos h9];exact bR (aHi hr _ _ _) fun _=>bR (jD hr _ _ _) fun _=>bR (jD hr _ _ _) fun _=>bR (jD hr _ _ _) fun _=>Le.refl _
 rw [if_neg h9,if_neg h9];by_cases h10:k=10
 ·rw [if_pos h10,if_pos h10];exact bR (pB hr _ _) fun _=>bR (jD hr _ _ _) fun _=>bR (jD hr _ _ _) fun _=>Le.refl _
 rw [if_neg h10,if_neg h10];by_cases h12:k=12
 ·rw [if_pos h12,if_pos h12];exact bR (uT hr _ _ _) fun _=>bR (aHi hr _ _ _) fun _=>bR (jD hr _ _ _) fun _=>Le.refl _
 rw [if_neg h12,if_neg h12];by_cases h14:k=14
 ·rw [if_pos h14,if_pos h14];exact bR (pB hr _ _) fun _=>bR (Le.refl _) fun _=>bR (Le.refl _) fun _=>bR (jD hr _ _ _) fun _=>bR (jD hr _ _ _) fun _=>Le.refl _
 rw [if_neg h14,if_neg h14];by_cases h1:k=1
 ·rw [if_pos h1,if_pos h1];exact Le.refl _
 rw [if_neg h1,if_neg h1];by_cases h2:k=2
 ·rw [if_pos h2,if_pos h2];exact Le.refl _
 rw [if_neg h2,if_neg h2];by_cases h6:k=6
 ·rw [if_pos h6,if_pos h6];exact Le.refl _
 rw [if_neg h6,if_neg h6];by_cases h7:k=7
 ·rw [if_pos h7,if_pos h7];exact Le.refl _
 rw [if_neg h7,if_neg h7];by_cases h8:k=8
 ·rw [if_pos h8,if_pos h8];exact bR (jD hr _ _ _) fun _=>Le.refl _
 rw [if_neg h8,if_neg h8];by_cases h11:k=11
 ·rw [if_pos h11,if_pos h11];exact bR (hr _ _) fun _=>bR (pB hr _ _) fun _=>Le.refl _
 rw [if_neg h11,if_neg h11];exact bR (uT hr _ _ _) fun _=>Le.refl _
end
theorem aAq:∀(N:Nat) (ctx:List Tm) (t:Tm),Le (bJ N ctx t) (bJ (N+1) ctx t)
 | 0,_,_=>fun _ h=>by cases h
 | N+1,ctx,t=>by
  intro r h;rw [bJ] at h⊢;split at h
  ·rename_i hv
   rw [if_pos hv];exact bR (aPn (aAq N) ctx t) (fun _=>Le.refl _) r h
  ·rename_i hv
   rw [if_neg hv];exact h
theorem aJf {N M:Nat}(h:N≤M)(ctx:List Tm)(t:Tm):Le (bJ N ctx t) (bJ M ctx t):=by
 induction M with
 | zero=>rw [show N=0 by omega];exact Le.refl _
 | succ M ih=>
  by_cases hN:N=M+1
  ·rw [hN];exact Le.refl _
  ·exact fun r hr=>aAq M ctx t r (ih (by omega) r hr)
def Ends (ctx:List Tm)(t:Tm):Prop:=∃N r,bJ N ctx t=some r
def Df {α:Type}(o:Option α):Prop:=∃r,o=some r
section
variable {rc:aTf}{ctx:List Tm}
end
theorem Ends.at_ {ctx:List Tm}{t:Tm}(h:Ends ctx t):∃N,∀M,N≤M→Df (bJ M ctx t):=by
 obtain ⟨N,r,h⟩:=h;exact ⟨N,fun M hM=>⟨r,aJf hM _ _ _ h⟩⟩
theorem sJ {w:World}{r:Option Tm × Int}{e:Ending}{w':World}(h:aQf w r e w'){k n c:Int}{ks:List Tm}(h1:r.1.getD (.mk 0 0 []) = .mk k n ks)(h2:r.2=c) :
  ∃A d,e = .returned (.tuple #[.agg (Ro k n A ks.length d),.int .i64 c])∧ks.length≤9223372036854775807∧Rd w' A 0 ks∧Bw w w':=by
 obtain ⟨k1,n1,ks1,A,d,hk,rfl,hl,hr,hb⟩:=h;rw [h1] at hk;injection hk with a1 a2 a3;subst a1 a2 a3 h2;exact ⟨A,d,rfl,hl,hr.rd,hb⟩
theorem yS (k n:Int)(ks:List Tm)(A:Option Addr)(c:Nat)(k' n':Int)(ls:List Tm)(B:Option Addr)(d:Nat)(fuel:Nat)(w:World)(hf:fuel≤200)(hv:aE (.mk k n ks)=true)(hv':aE (.mk k' n' ls)=true)(hr:Rd w A 0 ks)(hr':Rd w B 0 ls) :
    Calls prog 10 #[.agg (Ro k n A ks.length c),.agg (Ro k' n' B ls.length d),.int .i64 fuel] w fun e w'=>e = .returned (.int .i64 (jM fuel (.mk k n ks) (.mk k' n' ls)))∧Bw w w':=by
  have hz:=aJ hv;have hz':=aJ hv';have hl1:=aQ ks;have hl2:=aQ ls;have q1:decide ((fuel:Int)≤200)=true:=decide_eq_true (by omega);obtain ⟨xk,xn,xs,hx⟩:∃a b l,(redI dG fuel (.mk k n ks)).1.getD (.mk 0 0 []) = .mk a b l:=by cases (redI dG fuel (.mk k n ks)).1.getD (.mk 0 0 []) with|mk a b l=>exact ⟨a,b,l,rfl⟩
  obtain ⟨yk,yn,ys,hy⟩:∃a b l,(redI dG fuel (.mk k' n' ls)).1.getD (.mk 0 0 []) = .mk a b l:=by cases (redI dG fuel (.mk k' n' ls)).1.getD (.mk 0 0 []) with|mk a b l=>exact ⟨a,b,l,rfl⟩
  obtain ⟨ca,hca⟩:∃z,(redI dG fuel (.mk k n ks)).2=z:=⟨_,rfl⟩;obtain ⟨cb,hcb⟩:∃z,(redI dG fuel (.mk k' n' ls)).2=z:=⟨_,rfl⟩;have hN1:=aD (fun (w:World) (hr:Rd w A 0 ks)=>(mD k n ks A c fuel w hv hf hr).mono fun e w' h=>sJ h hx hca);have hN2:=aD (fun (w:World) (hr:Rd w B 0 ls)=>(mD k' n' ls B d fuel w hv' hf hr).mono fun e w' h=>sJ h hy hcb);have hcv:jM fuel (.mk k n ks) (.mk k' n' ls)=if jZ (.mk k n ks) (.mk k' n' ls)=true then 1 else if ca≠0∨cb≠0 then 3 else if jZ (.mk xk xn xs) (.mk yk yn ys)=true then 1 else 2:=by rw [jM,hx,hy,hca,hcb]
  rw [hcv];have hv1:=aD hv;have hv2:=aD hv';clear hcv hx hy hca hcb hv hv';cases hT:jZ (.mk k n ks) (.mk k' n' ls) with
  | true=>
    rw [if_pos rfl];replace hT:=aD hT;go_enter func10,ntmps10;go_wp2_with (first
    | (go_at_call 30;have _t:=tok2;refine (jB k n ks A c k' n' ls B d _ (by omega) (by omega) (hr.below g2) (hr'.below g2)).mono ?_;rw [hT.out];rintro e w3 ⟨rfl,hb3⟩;have hX3:=hX2.keep hb3;have hY3:=hY2.keep hb3;have g3:=g2.trans (hb3.mono g2.size);clear x0 x1 x2 y0 y1 y2;obtain ⟨x0,x1,x2⟩:=hX3.three;obtain ⟨y0,y1,y2⟩:=hY3.three;have tok3:=trivial)
    | (go_at_call 26;refine (dF _ _ _ _).mono ?_;rintro e w9 ⟨rfl,rfl⟩)
    | (go_at_call 28;have _t:=tok1;refine (bN k' n' ls B d _ (by omega) (hr'.below g1)).mono ?_;rw [hv2.out];rintro e w2 ⟨rfl,hb2⟩;have hX2:=hX1.keep hb2;have hY2:=hY1.keep hb2;have g2:=g1.trans (hb2.mono g1.size);clear x0 x1 x2 y0 y1 y2;obtain ⟨x0,x1,x2⟩:=hX2.three;obtain ⟨y0,y1,y2⟩:=hY2.three;have tok2:=trivial)
    | (go_at_call 28;refine (bN k n ks A c _ (by omega) ((hr.alloc _).alloc _)).mono ?_;rw [hv1.out];rintro e w1 ⟨rfl,hb1⟩;have hX1:=cU hb1;have hY1:=bH hb1;have g1:Bw w w1:=bS bw2 hb1;obtain ⟨x0,x1,x2⟩:=hX1.three;obtain ⟨y0,y1,y2⟩:=hY1.three;have tok1:=trivial))
    go_ret
    exact ⟨rfl,g3⟩
  | false=>
    rw [if_neg (by simp)];replace hT:=aD hT;by_cases h1:ca=0
    · by_cases h2:cb=0
      · rw [if_neg (by omega)]
        subst h1 h2;cases hU:jZ (.mk xk xn xs) (.mk yk yn ys) with
        | true=>
          rw [if_pos rfl];replace hU:=aD hU;go_enter func10,ntmps10;go_wp2_with (first
    | (go_at_call 30;have _t:=tok5;refine (jB xk xn xs A4 c4 yk yn ys A5 c5 _ hl4 hl5 (r45.alloc _) (r5.alloc _)).mono ?_;rw [hU.out];rintro e w6 ⟨rfl,hb6⟩;have g6:=(g5.alloc g5.size (.cells (Ro yk yn A5 ys.length c5) 25)).trans (hb6.mono (by have:=g5.size;simp;omega)))
    | (go_at_call 19;have _t:=tok4;refine (hN2.out _ ((hr'.below g4).alloc _)).mono ?_;rintro e w5 ⟨A5,c5,rfl,hl5,r5,hb5⟩;have hP5:=(aC w4 25 (Ro xk xn A4 xs.length c4) rfl).keep hb5;have g5:=(g4.alloc g4.size (.cells (Ro xk xn A4 xs.length c4) 25)).trans (hb5.mono (by have:=g4.size;simp;omega));have r45:=(r4.alloc (.cells (Ro xk xn A4 xs.length c4) 25)).below hb5;obtain ⟨p0,p1,p2⟩:=hP5.three;have lp:=hP5.lt;have tok5:=trivial)
    | (go_at_call 19;have _t:=tok3;refine (hN1.out _ (hr.below g3)).mono ?_;rintro e w4 ⟨A4,c4,rfl,hl4,r4,hb4⟩;have hY4:=hY3.keep hb4;have g4:=g3.trans (hb4.mono g3.size);clear x0 x1 x2 y0 y1 y2;obtain ⟨y0,y1,y2⟩:=hY4.three;have ly4:=hY4.lt;have tok4:=trivial)
    | (go_at_call 30;have _t:=tok2;refine (jB k n ks A c k' n' ls B d _ (by omega) (by omega) (hr.below g2) (hr'.below g2)).mono ?_;rw [hT.out];rintro e w3 ⟨rfl,hb3⟩;have hX3:=hX2.keep hb3;have hY3:=hY2.keep hb3;have g3:=g2.trans (hb3.mono g2.size);clear x0 x1 x2 y0 y1 y2;obtain ⟨x0,x1,x2⟩:=hX3.three;obtain ⟨y0,y1,y2⟩:=hY3.three;have tok3:=trivial)
    | (go_at_call 26;refine (dF _ _ _ _).mono ?_;rintro e w9 ⟨rfl,rfl⟩)
    | (go_at_call 28;have _t:=tok1;refine (bN k' n' ls B d _ (by omega) (hr'.below g1)).mono ?_;rw [hv2.out];rintro e w2 ⟨rfl,hb2⟩;have hX2:=hX1.keep hb2;have hY2:=hY1.keep hb2;have g2:=g1.trans (hb2.mono g1.size);clear x0 x1 x2 y0 y1 y2;obtain ⟨x0,x1,x2⟩:=hX2.three;obtain ⟨y0,y1,y2⟩:=hY2.three;have tok2:=trivial)
    | (go_at_call 28;refine (bN k n ks A c _ (by omega) ((hr.alloc _).alloc _)).mono ?_;rw [hv1.out];rintro e w1 ⟨rfl,hb1⟩;have hX1:=cU hb1;have hY1:=bH hb1;have g1:Bw w w1:=bS bw2 hb1;obtain ⟨x0,x1,x2⟩:=hX1.three;obtain ⟨y0,y1,y2⟩:=hY1.three;have tok1:=trivial))
          go_ret
          exact ⟨rfl,g6⟩
        | false=>
          rw [if_neg (by simp)];replace hU:=aD hU;go_enter func10,ntmps10;go_wp2_with (first
    | (go_at_call 30;have _t:=tok5;refine (jB xk xn xs A4 c4 yk yn ys A5 c5 _ hl4 hl5 (r45.alloc _) (r5.alloc _)).mono ?_;rw [hU.out];rintro e w6 ⟨rfl,hb6⟩;have g6:=(g5.alloc g5.size (.cells (Ro yk yn A5 ys.length c5) 25)).trans (hb6.mono (by have:=g5.size;simp;omega)))
    | (go_at_call 19;have _t:=tok4;refine (hN2.out _ ((hr'.below g4).alloc _)).mono ?_;rintro e w5 ⟨A5,c5,rfl,hl5,r5,hb5⟩;have hP5:=(aC w4 25 (Ro xk xn A4 xs.length c4) rfl).keep hb5;have g5:=(g4.alloc g4.size (.cells (Ro xk xn A4 xs.length c4) 25)).trans (hb5.mono (by have:=g4.size;simp;omega));have r45:=(r4.alloc (.cells (Ro xk xn A4 xs.length c4) 25)).below hb5;obtain ⟨p0,p1,p2⟩:=hP5.three;have lp:=hP5.lt;have tok5:=trivial)
    | (go_at_call 19;have _t:=tok3;refine (hN1.out _ (hr.below g3)).mono ?_;rintro e w4 ⟨A4,c4,rfl,hl4,r4,hb4⟩;have hY4:=hY3.keep hb4;have g4:=g3.trans (hb4.mono g3.size);clear x0 x1 x2 y0 y1 y2;obtain ⟨y0,y1,y2⟩:=hY4.three;have ly4:=hY4.lt;have tok4:=trivial)
    | (go_at_call 30;have _t:=tok2;refine (jB k n ks A c k' n' ls B d _ (by omega) (by omega) (hr.below g2) (hr'.below g2)).mono ?_;rw [hT.out];rintro e w3 ⟨rfl,hb3⟩;have hX3:=hX2.keep hb3;have hY3:=hY2.keep hb3;have g3:=g2.trans (hb3.mono g2.size);clear x0 x1 x2 y0 y1 y2;obtain ⟨x0,x1,x2⟩:=hX3.three;obtain ⟨y0,y1,y2⟩:=hY3.three;have tok3:=trivial)
    | (go_at_call 26;refine (dF _ _ _ _).mono ?_;rintro e w9 ⟨rfl,rfl⟩)
    | (go_at_call 28;have _t:=tok1;refine (bN k' n' ls B d _ (by omega) (hr'.below g1)).mono ?_;rw [hv2.out];rintro e w2 ⟨rfl,hb2⟩;have hX2:=hX1.keep hb2;have hY2:=hY1.keep hb2;have g2:=g1.trans (hb2.mono g1.size);clear x0 x1 x2 y0 y1 y2;obtain ⟨x0,x1,x2⟩:=hX2.three;obtain ⟨y0,y1,y2⟩:=hY2.three;have tok2:=trivial)
    | (go_at_call 28;refine (bN k n ks A c _ (by omega) ((hr.alloc _).alloc _)).mono ?_;rw [hv1.out];rintro e w1 ⟨rfl,hb1⟩;have hX1:=cU hb1;have hY1:=bH hb1;have g1:Bw w w1:=bS bw2 hb1;obtain ⟨x0,x1,x2⟩:=hX1.three;obtain ⟨y0,y1,y2⟩:=hY1.three;have tok1:=trivial))
          go_ret
          exact ⟨rfl,g6⟩
      · rw [if_pos (.inr h2)]
        subst h1;have q2:(cb != 0)=true:=by simpa using h2
        clear h2;go_enter func10,ntmps10;go_wp2_with (first
    | (go_at_call 19;have _t:=tok4;refine (hN2.out _ ((hr'.below g4).alloc _)).mono ?_;rintro e w5 ⟨A5,c5,rfl,hl5,r5,hb5⟩;have hP5:=(aC w4 25 (Ro xk xn A4 xs.length c4) rfl).keep hb5;have g5:=(g4.alloc g4.size (.cells (Ro xk xn A4 xs.length c4) 25)).trans (hb5.mono (by have:=g4.size;simp;omega));have r45:=(r4.alloc (.cells (Ro xk xn A4 xs.length c4) 25)).below hb5;obtain ⟨p0,p1,p2⟩:=hP5.three;have lp:=hP5.lt;have tok5:=trivial)
    | (go_at_call 19;have _t:=tok3;refine (hN1.out _ (hr.below g3)).mono ?_;rintro e w4 ⟨A4,c4,rfl,hl4,r4,hb4⟩;have hY4:=hY3.keep hb4;have g4:=g3.trans (hb4.mono g3.size);clear x0 x1 x2 y0 y1 y2;obtain ⟨y0,y1,y2⟩:=hY4.three;have ly4:=hY4.lt;have tok4:=trivial)
    | (go_at_call 30;have _t:=tok2;refine (jB k n ks A c k' n' ls B d _ (by omega) (by omega) (hr.below g2) (hr'.below g2)).mono ?_;rw [hT.out];rintro e w3 ⟨rfl,hb3⟩;have hX3:=hX2.keep hb3;have hY3:=hY2.keep hb3;have g3:=g2.trans (hb3.mono g2.size);clear x0 x1 x2 y0 y1 y2;obtain ⟨x0,x1,x2⟩:=hX3.three;obtain ⟨y0,y1,y2⟩:=hY3.three;have tok3:=trivial)
    | (go_at_call 26;refine (dF _ _ _ _).mono ?_;rintro e w9 ⟨rfl,rfl⟩)
    | (go_at_call 28;have _t:=tok1;refine (bN k' n' ls B d _ (by omega) (hr'.below g1)).mono ?_;rw [hv2.out];rintro e w2 ⟨rfl,hb2⟩;have hX2:=hX1.keep hb2;have hY2:=hY1.keep hb2;have g2:=g1.trans (hb2.mono g1.size);clear x0 x1 x2 y0 y1 y2;obtain ⟨x0,x1,x2⟩:=hX2.three;obtain ⟨y0,y1,y2⟩:=hY2.three;have tok2:=trivial)
    | (go_at_call 28;refine (bN k n ks A c _ (by omega) ((hr.alloc _).alloc _)).mono ?_;rw [hv1.out];rintro e w1 ⟨rfl,hb1⟩;have hX1:=cU hb1;have hY1:=bH hb1;have g1:Bw w w1:=bS bw2 hb1;obtain ⟨x0,x1,x2⟩:=hX1.three;obtain ⟨y0,y1,y2⟩:=hY1.three;have tok1:=trivial))
        go_ret
        exact ⟨rfl,g5.alloc g5.size _⟩
    · rw [if_pos (.inl h1)]
      have q2:(ca != 0)=true:=by simpa using h1
      clear h1;go_enter func10,ntmps10;go_wp2_with (first
    | (go_at_call 19;have _t:=tok4;refine (hN2.out _ ((hr'.below g4).alloc _)).mono ?_;rintro e w5 ⟨A5,c5,rfl,hl5,r5,hb5⟩;have hP5:=(aC w4 25 (Ro xk xn A4 xs.length c4) rfl).keep hb5;have g5:=(g4.alloc g4.size (.cells (Ro xk xn A4 xs.length c4) 25)).trans (hb5.mono (by have:=g4.size;simp;omega));have r45:=(r4.alloc (.cells (Ro xk xn A4 xs.length c4) 25)).below hb5;obtain ⟨p0,p1,p2⟩:=hP5.three;have lp:=hP5.lt;have tok5:=trivial)
    | (go_at_call 19;have _t:=tok3;refine (hN1.out _ (hr.below g3)).mono ?_;rintro e w4 ⟨A4,c4,rfl,hl4,r4,hb4⟩;have hY4:=hY3.keep hb4;have g4:=g3.trans (hb4.mono g3.size);clear x0 x1 x2 y0 y1 y2;obtain ⟨y0,y1,y2⟩:=hY4.three;have ly4:=hY4.lt;have tok4:=trivial)
    | (go_at_call 30;have _t:=tok2;refine (jB k n ks A c k' n' ls B d _ (by omega) (by omega) (hr.below g2) (hr'.below g2)).mono ?_;rw [hT.out];rintro e w3 ⟨rfl,hb3⟩;have hX3:=hX2.keep hb3;have hY3:=hY2.keep hb3;have g3:=g2.trans (hb3.mono g2.size);clear x0 x1 x2 y0 y1 y2;obtain ⟨x0,x1,x2⟩:=hX3.three;obtain ⟨y0,y1,y2⟩:=hY3.three;have tok3:=trivial)
    | (go_at_call 26;refine (dF _ _ _ _).mono ?_;rintro e w9 ⟨rfl,rfl⟩)
    | (go_at_call 28;have _t:=tok1;refine (bN k' n' ls B d _ (by omega) (hr'.below g1)).mono ?_;rw [hv2.out];rintro e w2 ⟨rfl,hb2⟩;have hX2:=hX1.keep hb2;have hY2:=hY1.keep hb2;have g2:=g1.trans (hb2.mono g1.size);clear x0 x1 x2 y0 y1 y2;obtain ⟨x0,x1,x2⟩:=hX2.three;obtain ⟨y0,y1,y2⟩:=hY2.three;have tok2:=trivial)
    | (go_at_call 28;refine (bN k n ks A c _ (by omega) ((hr.alloc _).alloc _)).mono ?_;rw [hv1.out];rintro e w1 ⟨rfl,hb1⟩;have hX1:=cU hb1;have hY1:=bH hb1;have g1:Bw w w1:=bS bw2 hb1;obtain ⟨x0,x1,x2⟩:=hX1.three;obtain ⟨y0,y1,y2⟩:=hY1.three;have tok1:=trivial))
      go_ret
      exact ⟨rfl,g5.alloc g5.size _⟩
theorem aPu {w:World}{z:Nat}(hZ:Blk w z Zr):(∀t d b off i,shape d t=true→RdC w b off i t→RdPC (·≠z) w b off i t)∧(∀(ks:List Tm) d A i,(∀t,t∈ks→shape d t=true)→Rd w A i ks→RdP (·≠z) w A i ks):=by
 refine bP (fun k n ks ih d b off i hs hr=>?_) (fun d A i _ _=>RdP.nil) (fun t ts h1 h2 d A i hs hr=>?_)
 ·obtain ⟨d,rfl⟩:∃d',d=d'+1:=by cases d with|zero=>simp [shape] at hs|succ d=>exact ⟨d,rfl⟩
  obtain ⟨ha,_,_,hk⟩:=(bA d k n ks).1 hs;obtain ⟨c1,c2,A,c,c3,hl,hr'⟩:=RdC.iff.1 hr;refine RdPC.iff.2 ⟨fun e=>?_,c1,c2,A,c,c3,hl,ih d A 0 hk hr'⟩;subst e;have h0:k≠0:=by rintro rfl;have:aK 0 = -1:=rfl;omega
  rw [hZ.cell] at c1;generalize off+i*3=j at c1
  rcases j with _|_|_|j
  ·simp at c1;exact h0 c1.symm
  ·simp at c1;exact h0 c1.symm
  ·simp at c1
  ·simp at c1
 ·obtain ⟨⟨b,off,e,hc⟩,hr'⟩:=Rd.cons_iff.1 hr;exact RdP.cons_iff.2 ⟨⟨b,off,e,h1 d b off i (hs t (by simp)) hc⟩,h2 d A (i+1) (fun u hu=>hs u (by simp [hu])) hr'⟩
theorem aZ {w:World}{z:Nat}{k n:Int}{ks:List Tm}{A:Option Addr}(hZ:Blk w z Zr)(hv:aE (.mk k n ks)=true)(hr:Rd w A 0 ks)(x y v:Value) :
  Rd (((w.setCell ⟨z,0,none⟩ x).setCell ⟨z,1,none⟩ y).setCell ⟨z,2,none⟩ v) A 0 ks:=by
 have hs:=((bA 29 k n ks).1 (bD hv)).2.2.2;exact (((((aPu hZ).2 ks 29 A 0 hs hr).setCell (a:=⟨z,0,none⟩) (fun h=>h rfl) x).setCell (a:=⟨z,1,none⟩) (fun h=>h rfl) y).setCell (a:=⟨z,2,none⟩) (fun h=>h rfl) v).rd
def fE (w:World)(k n:Int)(ks:List Tm)(e:Ending)(w':World):Prop:=
 ∃A c,e = .returned (.tuple #[.agg (Ro k n A ks.length c),.int .i64 0])∧ks.length≤9223372036854775807∧Rd w' A 0 ks∧Bw w w'
theorem mI (x:Int)(w:World):Calls prog 103 #[.int .i64 x] w fun e w'=>e = .returned (.agg (Ro 2 x none 0 0))∧Bw w w':=by
 go_enter func103,ntmps103;go_wp2_with fail
 refine bodyPost_ret (v:=.agg (Ro 2 x none 0 0)) (by simp [results,results103,go_sem]) rfl ⟨rfl,?_⟩;exact bw1
theorem bC (k1 n1:Int)(s1:List Tm)(A1:Option Addr)(c1:Nat)(w:World)(hv:aE (.mk k1 n1 s1)=true)(hr:Rd w A1 0 s1) :
  Calls prog 101 #[.agg (Ro k1 n1 A1 s1.length c1),.bool true] w fun e w'=>e = .returned (.tuple #[.agg (Ro k1 n1 A1 s1.length c1),.int .i64 0])∧Bw w w':=by
 have hz:=aJ hv;have hv':=aD hv;clear hv;go_enter func101,ntmps101;go_wp2_with (go_at_call 28;refine (bN k1 n1 s1 A1 c1 _ (by omega) ((hr.alloc _).alloc _)).mono ?_;rw [hv'.out];rintro e w1 ⟨rfl,hb1⟩;have hX:=((aC w 25 (Ro k1 n1 A1 s1.length c1) rfl).alloc (.cells Zr 25)).keep hb1;have hZ:=bH hb1;have g1:Bw w w1:=bS bw2 hb1;obtain ⟨x0,x1,x2⟩:=hX.three;obtain ⟨d0,d1,d2,e0,e1,e2⟩:=bW hZ)
 refine bodyPost_ret (v:=.tuple #[.agg (Ro k1 n1 A1 s1.length c1),.int .i64 0]) (by simp [results,results101,go_sem,d0,d1,d2]) rfl ⟨rfl,?_⟩;exact bV g1
theorem mA {s o:Tm}{kind:Int}(h:nX s kind=some o):aE s=true∧(redI bQ 200 s).1=some o∧(redI bQ 200 s).2=0∧o.k=kind∧aE o=true:=by
 unfold nX at h
 split at h
 ·rename_i hv
  split at h
  ·rename_i o' c he
   split at h
   ·rename_i hc
    injection h with h;subst h;rw [he];exact ⟨hv,rfl,hc.1,hc.2,wR _ _ _ _ hv he⟩
   ·cases h
  ·cases h
 ·cases h
theorem gV (k1 n1:Int)(s1:List Tm)(A1:Option Addr)(c1:Nat)(kind n3:Int)(s3:List Tm)(w:World)(hs:nX (.mk k1 n1 s1) kind=some (.mk kind n3 s3))(hr:Rd w A1 0 s1) :
  Calls prog 80 #[.agg (Ro k1 n1 A1 s1.length c1),.int .i64 kind] w (fE w kind n3 s3):=by
 obtain ⟨hv,h1,h2,h3,h4⟩:=mA hs;have hH:=aD (fun (w:World) (hr:Rd w A1 0 s1)=>(qU k1 n1 s1 A1 c1 200 w hv (by omega) hr).mono fun e w' h=>sJ h (by rw [h1];rfl) h2);have h4':=aD h4;clear hs hv h1 h2 h3 h4;go_enter func80,ntmps80;go_wp2_with (go_at_call 99;refine (hH.out _ ((hr.alloc _).alloc _)).mono ?_;rintro e w1 ⟨A3,c3,rfl,hl3,r3,hb1⟩;have hZ:=bH hb1;have g1:Bw w w1:=bS bw2 hb1;obtain ⟨d0,d1,d2,e0,e1,e2,lz⟩:=dA hZ;have n1':w.heap.size+1≠w1.heap.size:=(by omega))
 have y:=fun (o:Obj)=>(((((hZ.set_ 0 (.int .i64 kind)).set_ 1 (.int .i64 n3)).set_ 2 (.slice A3 s3.length c3)).alloc o:Blk _ _ (Ro kind n3 A3 s3.length c3))).three
 refine bodyPost_ret (v:=.tuple #[.agg (Ro kind n3 A3 s3.length c3),.int .i64 0]) (by simp [results,results80,go_sem,y]) rfl ⟨A3,c3,rfl,hl3,?_,?_⟩
 ·exact (aZ hZ h4'.out r3 _ _ _).alloc _
 ·exact (bV g1).alloc (by simp [World.setCell];exact g1.size) _
theorem pU (k1 n1:Int)(s1:List Tm)(A1:Option Addr)(c1:Nat)(k2 n2:Int)(s2:List Tm)(A2:Option Addr)(c2:Nat)(w:World)(hs:aDj (.mk k1 n1 s1) (.mk k2 n2 s2)=true)(hr1:Rd w A1 0 s1)(hr2:Rd w A2 0 s2) :
  Calls prog 60 #[.agg (Ro k1 n1 A1 s1.length c1),.agg (Ro k2 n2 A2 s2.length c2)] w fun e w'=>e = .returned (.int .i64 0)∧Bw w w':=by
 rw [aDj,Bool.and_eq_true,Bool.and_eq_true,beq_iff_eq] at hs;obtain ⟨⟨hv1,hv2⟩,hc⟩:=hs;have hC:=aD (fun (w:World) (hr1:Rd w A1 0 s1) (hr2:Rd w A2 0 s2)=>by have:=yS k1 n1 s1 A1 c1 k2 n2 s2 A2 c2 200 w (by omega) hv1 hv2 hr1 hr2;rwa [hc] at this);clear hv1 hv2 hc;go_enter func60,ntmps60;go_wp2_with (go_at_call 10;refine (hC.out _ ((hr1.alloc _).alloc _) ((hr2.alloc _).alloc _)).mono ?_;rintro e w1 ⟨rfl,hb1⟩)
 go_ret
 exact ⟨rfl,bw2.trans (hb1.mono (by simp;omega))⟩
def Clo (fc:Nat)(ev:Array Value):Prop:=∃b2 b3,fc=81∧ev=#[.pointer (some ⟨b2,0,none⟩),.pointer (some ⟨b3,0,none⟩)]
def TyOk (fc:Nat)(ev:Array Value)(w:World)(ty:Nat→Option Tm):Prop:=Clo fc ev∧∀(i:Nat) (k n:Int) (ks:List Tm),i<4→ty i=some (.mk k n ks)→∀w',Bw w w'→∀args,args=#[.int .i64 i]++ev→
 Calls prog fc args w' (fE w' k n ks)
theorem TyOk.below {fc:Nat}{ev:Array Value}{w w':World}{ty:Nat→Option Tm}(h:TyOk fc ev w ty)(hb:Bw w w'):TyOk fc ev w' ty:=⟨h.1,fun i k n ks hi ht w2 hw2=>h.2 i k n ks hi ht w2 (hb.trans (hw2.mono hb.size))⟩
theorem eY (C:Option Addr)(m cc:Nat)(k n:Int)(A:Option Addr)(la c fc:Nat)(ev:Array Value)(i:Nat)(hi:i<4)(kind n3:Int)(s3:List Tm)(ty:Nat→Option Tm)(w:World)(hs:fmS (ty i) kind=some (.mk kind n3 s3))(hT:TyOk fc ev w ty) :
  Calls prog 107 #[.agg #[.slice C m cc,.int .i64 k,.int .i64 n,.slice A la c,.func (.func fc) #[] ev],.int .i64 i,.int .i64 kind] w (fE w kind n3 s3):=by
 obtain ⟨b2,b3,rfl,rfl⟩:=hT.1;all_goals
  obtain ⟨k1,n1,s1,h1,h2⟩:∃k1 n1 s1,ty i=some (.mk k1 n1 s1)∧nX (.mk k1 n1 s1) kind=some (.mk kind n3 s3):=by
   cases h:ty i with
   | none=>rw [h] at hs;cases hs
   | some s=>rw [h] at hs;obtain ⟨a,b,l⟩:=s;exact ⟨a,b,l,rfl,hs⟩
  have hv3:=aD (mA h2).2.2.2.2;have h1':=aD h1;have h2':=aD h2;clear hs h1 h2;go_enter func107,ntmps107;go_wp2_with (first
   | (go_at_call 80;have _t:=tok1;refine (gV k1 n1 s1 A1 c1 kind n3 s3 _ h2'.out (r1.alloc _)).mono ?_;rintro e w2 ⟨A3,c3,rfl,hl3,r3,hb2⟩;have hZ2:=(hZ.alloc (.cells (Ro k1 n1 A1 s1.length c1) 25)).keep hb2;have g2:=(g1.alloc g1.size (.cells (Ro k1 n1 A1 s1.length c1) 25)).trans (hb2.mono (by have:=g1.size;simp;omega));obtain ⟨d0,d1,d2,e0,e1,e2⟩:=bW hZ2)
   | (go_at_call 81;refine (hT.2 i k1 n1 s1 hi h1'.out _ bw2 _ (by rfl)).mono ?_;rintro e w1 ⟨A1,c1,rfl,hl1,r1,hb1⟩;have hZ:=bH hb1;have g1:Bw w w1:=bS bw2 hb1;have lz:=hZ.lt;have tok1:=trivial))
  refine bodyPost_ret (v:=.tuple #[.agg (Ro kind n3 A3 s3.length c3),.int .i64 0]) (by simp [results,results107,go_sem,d0,d1,d2]) rfl ⟨A3,c3,rfl,hl3,?_,?_⟩
  ·exact aZ hZ2 hv3.out r3 _ _ _
  ·exact bV g2
theorem fG {o:Option Tm}{kind:Int}{t:Tm}(h:fmS o kind=some t):∃n3 s3,t = .mk kind n3 s3∧aE (.mk kind n3 s3)=true:=by
 cases o with
 | none=>cases h
 | some s=>
  obtain ⟨h1,h2,h3,h4,h5⟩:=mA h;obtain ⟨a,b,l⟩:=t;obtain rfl:a=kind:=h4;exact ⟨b,l,rfl,h5⟩
theorem aCc {o:Option Tm}{l:Int}(h:wA o=some l):∃s3,fmS o 2=some (.mk 2 l s3):=by
 cases o with
 | none=>cases h
 | some s=>
  rw [wA] at h;cases hh:nX s 2 with
  | none=>rw [hh] at h;cases h
  | some t=>
   rw [hh] at h;obtain ⟨n3,s3,rfl,_⟩:=fG (o:=some s) hh;injection h with h;obtain rfl:n3=l:=h;exact ⟨s3,hh⟩
theorem fH (C:Option Addr)(m cc:Nat)(k n:Int)(A:Option Addr)(la c fc:Nat)(ev:Array Value)(i:Nat)(hi:i<4)(l:Int)(ty:Nat→Option Tm)(w:World)(hs:wA (ty i)=some l)(hT:TyOk fc ev w ty) :
  Calls prog 132 #[.agg #[.slice C m cc,.int .i64 k,.int .i64 n,.slice A la c,.func (.func fc) #[] ev],.int .i64 i] w fun e w'=>e = .returned (.tuple #[.int .i64 l,.int .i64 0])∧Bw w w':=by
 obtain ⟨s3,h1⟩:=aCc hs;have h1':=aD h1;clear hs h1;go_enter func132,ntmps132;go_wp2_with (go_at_call 107;refine (eY C m cc k n A la c fc ev i hi 2 l s3 ty _ h1'.out (hT.below bw1)).mono ?_;rintro e w1 ⟨A3,c3,rfl,hl3,r3,hb1⟩;have g1:Bw w w1:=bS bw1 hb1)
 go_ret2
 exact ⟨rfl,g1.alloc g1.size _⟩
theorem aOo {o:Option Tm}{want:Tm}(h:iU o want=true):∃k1 n1 s1,o=some (.mk k1 n1 s1)∧aDj (.mk k1 n1 s1) want=true:=by
 cases o with
 | none=>cases h
 | some s=>obtain ⟨a,b,l⟩:=s;exact ⟨a,b,l,rfl,h⟩
theorem iX (C:Option Addr)(m cc:Nat)(k n:Int)(A:Option Addr)(la c fc:Nat)(ev:Array Value)(i:Nat)(hi:i<4)(k2 n2:Int)(s2:List Tm)(A2:Option Addr)(c2:Nat)(ty:Nat→Option Tm)(w:World)(hs:iU (ty i) (.mk k2 n2 s2)=true)(hT:TyOk fc ev w ty)(hr2:Rd w A2 0 s2) :
  Calls prog 104 #[.agg #[.slice C m cc,.int .i64 k,.int .i64 n,.slice A la c,.func (.func fc) #[] ev],.int .i64 i,.agg (Ro k2 n2 A2 s2.length c2)] w fun e w'=>e = .returned (.int .i64 0)∧Bw w w':=by
 obtain ⟨b2,b3,rfl,rfl⟩:=hT.1;all_goals
  obtain ⟨k1,n1,s1,h1,h2⟩:=aOo hs;have h1':=aD h1;have h2':=aD h2;clear hs h1 h2;go_enter func104,ntmps104;go_wp2_with (first
   | (go_at_call 60;have _t:=tok1;refine (pU k1 n1 s1 A1 c1 k2 n2 s2 A2 c2 _ h2'.out (r1.alloc _) ((hr2.below g1).alloc _)).mono ?_;rintro e w2 ⟨rfl,hb2⟩;have g2:=(g1.alloc g1.size (.cells (Ro k1 n1 A1 s1.length c1) 25)).trans (hb2.mono (by have:=g1.size;simp;omega)))
   | (go_at_call 81;refine (hT.2 i k1 n1 s1 hi h1'.out _ bw2 _ (by rfl)).mono ?_;rintro e w1 ⟨A1,c1,rfl,hl1,r1,hb1⟩;have hZ:=bH hb1;have g1:Bw w w1:=bS bw2 hb1;have lz:=hZ.lt;obtain ⟨d0,d1,d2⟩:=hZ.three;have tok1:=trivial))
  go_ret
  exact ⟨rfl,g2⟩
theorem fB (C:Option Addr)(m cc:Nat)(k n:Int)(A:Option Addr)(la c fc:Nat)(ev:Array Value)(i:Nat)(hi:i<4)(k2 n2:Int)(s2:List Tm)(A2:Option Addr)(c2:Nat)(ty:Nat→Option Tm)(w:World)(hs:iU (ty i) (.mk k2 n2 s2)=true)(hT:TyOk fc ev w ty)(hr2:Rd w A2 0 s2) :
  Calls prog 108 #[.agg #[.slice C m cc,.int .i64 k,.int .i64 n,.slice A la c,.func (.func fc) #[] ev],.int .i64 i,.agg (Ro k2 n2 A2 s2.length c2),.int .i64 0] w fun e w'=>e = .returned (.int .i64 0)∧Bw w w':=by
 have hs':=aD hs;clear hs;go_enter func108,ntmps108;go_wp2_with (go_at_call 104;refine (iX C m cc k n A la c fc ev i hi k2 n2 s2 A2 c2 ty _ hs'.out (hT.below bw2) ((hr2.alloc _).alloc _)).mono ?_;rintro e w1 ⟨rfl,hb1⟩;have g1:Bw w w1:=bS bw2 hb1)
 go_ret
 exact ⟨rfl,g1⟩
theorem aMg {o:Option Tm}{t:Tm}(h:wL o t=true):∃n3 ka na sa kb nb sb ne se,fmS o 3=some (.mk 3 n3 [.mk ka na sa,.mk kb nb sb])∧aDj (.mk ka na sa) t=true∧nX (.mk kb nb sb) 2=some (.mk 2 ne se):=by
 unfold wL at h
 split at h
 ·rename_i s hs
  obtain ⟨n3,s3,rfl,hv⟩:=fG hs;obtain ⟨a,b,rfl⟩:=mG (l:=s3) (by have:=(aX hv).1;have h3:aK 3=2:=rfl;omega);obtain ⟨ka,na,sa⟩:=a;obtain ⟨kb,nb,sb⟩:=b;rw [Bool.and_eq_true] at h;obtain ⟨t2,ht2⟩:=Option.isSome_iff_exists.1 h.2;obtain ⟨ne,se,rfl,_⟩:=fG (o:=some (.mk kb nb sb)) ht2;exact ⟨n3,ka,na,sa,kb,nb,sb,ne,se,hs,h.1,ht2⟩
 ·cases h
theorem lF (C:Option Addr)(m cc:Nat)(k n:Int)(A:Option Addr)(la c fc:Nat)(ev:Array Value)(i:Nat)(hi:i<4)(k2 n2:Int)(s2:List Tm)(A2:Option Addr)(c2:Nat)(ty:Nat→Option Tm)(w:World)(hs:wL (ty i) (.mk k2 n2 s2)=true)(hT:TyOk fc ev w ty)(hr2:Rd w A2 0 s2) :
  Calls prog 134 #[.agg #[.slice C m cc,.int .i64 k,.int .i64 n,.slice A la c,.func (.func fc) #[] ev],.int .i64 i,.agg (Ro k2 n2 A2 s2.length c2)] w fun e w'=>e = .returned (.int .i64 0)∧Bw w w':=by
 obtain ⟨n3,ka,na,sa,kb,nb,sb,ne,se,h1,h2,h3⟩:=aMg hs;have h1':=aD h1;have h2':=aD h2;have h3':=aD h3;clear hs h1 h2 h3;go_enter func134,ntmps134;go_upto_region 4 with (go_at_call 107;refine (eY C m cc k n A la c fc ev i hi 3 n3 [.mk ka na sa,.mk kb nb sb] ty _ h1'.out (hT.below bw2)).mono ?_;rintro e w1 ⟨A3,c3,rfl,hl3,r3,hb1⟩;have hY:=bH hb1;have g1:Bw w w1:=bS bw2 hb1;have r2:=hr2.below g1)
 refine aOl (show Blk _ w1.heap.size (Ro 3 n3 A3 2 c3) from (aC _ 25 _ rfl)) (hY.alloc _) (g1.alloc g1.size _) ?_;intro wx hT7x hYx gx hwx;have r3x:Rd wx A3 0 [.mk ka na sa,.mk kb nb sb]:=by rw [hwx];exact r3.alloc _
 have r2x:Rd wx A2 0 s2:=by rw [hwx];exact r2.alloc _
 clear hwx;obtain ⟨ba,oa,Aa,ca,rfl,i1,i2,i3,hla,ra⟩:=kW r3x;obtain ⟨Ab,cb,j1,j2,j3,hlb,rb⟩:=tA r3x;simp only [Nat.zero_mul,Nat.add_zero,Nat.one_mul,Nat.reduceMul] at i1 i2 i3 j1 j2 j3
 obtain ⟨u0,u1,u2⟩:=gQ hT7x;obtain ⟨v0,v1,v2⟩:=gQ hYx;obtain ⟨y0,y1,y2⟩:=rI i1 i2 i3;refine dY wx [6] [0,1,2,3,4] 7 2 (lT:=[_,_,_,_,_]) ?_;intro q0 bq0;refine bU (aD ?_);refine bG 5 ?_
 ·go_wp2_with (go_at_call 60;refine (pU ka na sa Aa ca k2 n2 s2 A2 c2 _ h2'.out (ra.below bq0) (r2x.below bq0)).mono ?_;rintro e q1 ⟨rfl,hbq1⟩)
  refine aY bq0 hbq1 ?_;intro bq1 lq1;refine cD [6] (lB:=[_]) ?_;have hT7:=hT7x.keep bq1;have gz:=gx.trans (bq1.mono gx.size);have rbz:=rb.below bq1;obtain ⟨p0,p1,p2⟩:=hT7.three;have lp:=hT7.lt;have z0:=(bT bq1) _ _ j1;have z1:=(bT bq1) _ _ j2;have z2:=(bT bq1) _ _ j3;go_wp2_with (go_at_call 80;refine (gV kb nb sb Ab cb 2 ne se _ h3'.out rbz).mono ?_;rintro e w9 ⟨A9,c9,rfl,hl9,r9,hb9⟩)
  go_ret
  exact ⟨rfl,gz.trans (hb9.mono gz.size)⟩
def aXr (w:World)(k n:Int)(ks:List Tm)(e:Ending)(w':World):Prop:=
 ∃A c,e = .returned (.agg (Ro k n A ks.length c))∧ks.length≤9223372036854775807∧Rd w' A 0 ks∧Bw w w'
theorem jS (k1 n1:Int)(ka na:Int)(sa:List Tm)(ts:List Tm)(A1:Option Addr)(c1:Nat)(w:World)(hr:Rd w A1 0 (.mk ka na sa::ts))(hl:(Tm.mk ka na sa::ts).length≤9223372036854775807) :
  Calls prog 109 #[.agg (Ro k1 n1 A1 (ts.length+1) c1)] w (aXr w ka na sa):=by
 obtain ⟨ba,oa,Aa,ca,rfl,i1,i2,i3,hla,ra⟩:=kW hr;simp only [Nat.zero_mul,Nat.add_zero] at i1 i2 i3
 have hb:=lL _ _ i1;have q:(((ts.length:Nat):Int)+1==0)=false:=by simp;omega
 have q2:(0:Int)<((ts.length:Nat):Int)+1:=by omega
 go_enter func109,ntmps109;go_wp2_with fail
 refine bodyPost_ret (v:=.agg (Ro ka na Aa sa.length ca)) (by simp [results,results109,go_sem]) rfl ⟨Aa,ca,rfl,hla,(ra.alloc _).alloc _,?_⟩;exact bw2
theorem qD (C:Option Addr)(m cc:Nat)(k n:Int)(A:Option Addr)(c fc:Nat)(ev:Array Value)(la:Nat)(i j:Int)(ty:Nat→Option Tm)(w:World)(h1:wA (ty 0)=some i)(h2:wA (ty 1)=some j)(hT:TyOk fc ev w ty) :
  Calls prog 105 #[.agg #[.slice C m cc,.int .i64 k,.int .i64 n,.slice A la c,.func (.func fc) #[] ev]] w (fE w 2 (if i<j then j else i) []):=by
 obtain ⟨q,hq⟩:∃q,q=(if i<j then j else i):=⟨_,rfl⟩;have hmax:∀w',(Builtin.max_ #[3,3] 3 #[.int .i64 i,.int .i64 j]).run prog w' = .ok (.int .i64 q) w':=fun w'=>by rw [hq];first|(simp [go_sem];done)|(simp [go_sem];split<;>omega)
 rw [← hq];replace h1:=aD h1;replace h2:=aD h2;clear hq;go_enter func105,ntmps105;go_wp2_with (first
  | (go_at_call 103;have _t:=tok2;refine (mI _ _).mono ?_;rintro e w3 ⟨rfl,hb3⟩;have hZ3:=hZ2.keep hb3;have g3:=g2.trans (hb3.mono g2.size);obtain ⟨d0,d1,d2,e0,e1,e2⟩:=bW hZ3)
  | (go_at_call 132;have _t:=tok1;refine (fH C m cc k n A la c fc ev 1 (by omega) j ty _ h2.out (hT.below g1)).mono ?_;rintro e w2 ⟨rfl,hb2⟩;have hZ2:=hZ1.keep hb2;have g2:=g1.trans (hb2.mono g1.size);have tok2:=trivial)
  | (go_at_call 132;refine (fH C m cc k n A la c fc ev 0 (by omega) i ty _ h1.out (hT.below bw2)).mono ?_;rintro e w1 ⟨rfl,hb1⟩;have hZ1:=bH hb1;have hJ1:=((aC w 95 #[.slice C m cc,.int .i64 k,.int .i64 n,.slice A la c,.func (.func fc) #[] ev] rfl).alloc (.cells Zr 25)).keep hb1;have g1:Bw w w1:=bS bw2 hb1;have j0:=hJ1.at_ (i:=0) rfl;have j1:=hJ1.at_ (i:=1) rfl;have j2:=hJ1.at_ (i:=2) rfl;have j3:=hJ1.at_ (i:=3) rfl;have j4:=hJ1.at_ (i:=4) rfl;have tok1:=trivial))
 refine bodyPost_ret (v:=.tuple #[.agg (Ro 2 q none 0 0),.int .i64 0]) (by simp [results,results105,go_sem,d0,d1,d2]) rfl ⟨none,0,rfl,by simp,Rd.nil,?_⟩;exact bV g3
theorem xU (C:Option Addr)(m cc:Nat)(k n:Int)(A:Option Addr)(c fc:Nat)(ev:Array Value)(l ka na:Int)(sa:List Tm)(a1:Tm)(kb nb:Int)(sb:List Tm)(kr nr:Int)(sr:List Tm)(ty:Nat→Option Tm)(w:World)(h1:wA (ty 0)=some l)(h2:ty 1=some (.mk kb nb sb))(hv:aE (.mk 3 0 [.mk ka na sa,.mk kb nb sb])=true)(hT:TyOk fc ev w ty)(hr:Rd w A 0 [.mk ka na sa,a1])
  (hRec : Hid (∀ (Ao : Option Addr) (co : Nat) (w' : World), Bw w w' → Rd w' Ao 0 [.mk ka na sa, .mk kb nb sb] → Calls prog 59 #[.slice C m cc, .agg (Ro 3 0 Ao 2 co)] w' (fE w' kr nr sr))) :
  Calls prog 106 #[.agg #[.slice C m cc,.int .i64 k,.int .i64 n,.slice A 2 c,.func (.func fc) #[] ev]] w (fE w 3 0 [.mk ka na sa,.mk kb nb sb]):=by
 obtain ⟨b2,b3,rfl,rfl⟩:=hT.1;all_goals
  have hv':=aD hv;replace h1:=aD h1;replace h2:=aD h2;clear hv;obtain ⟨ba,oa,Aa,ca,rfl,i1,i2,i3,hla,ra0⟩:=kW hr;simp only [Nat.zero_mul,Nat.add_zero,Nat.one_mul,Nat.reduceMul] at i1 i2 i3
  go_enter func106,ntmps106;go_upto_region 7 with (first
   | (go_at_call 81;have _t:=tok1;refine (hT.2 1 kb nb sb (by omega) h2.out _ g1 _ (by rfl)).mono ?_;rintro e w2 ⟨Ab,cb,rfl,hlb,rb1,hb2⟩;have hZ2:=hZ1.keep hb2;have hJ2:=hJ1.keep hb2;have g2:=g1.trans (hb2.mono g1.size))
   | (go_at_call 132;refine (fH C m cc k n _ 2 c 81 #[.pointer (some ⟨b2,0,none⟩),.pointer (some ⟨b3,0,none⟩)] 0 (by omega) l ty _ h1.out (hT.below bw2)).mono ?_;rintro e w1 ⟨rfl,hb1⟩;have hZ1:=bH hb1;have hJ1:=((aC w 95 #[.slice C m cc,.int .i64 k,.int .i64 n,.slice (some ⟨ba,oa,none⟩) 2 c,.func (.func 81) #[] #[.pointer (some ⟨b2,0,none⟩),.pointer (some ⟨b3,0,none⟩)]] rfl).alloc (.cells Zr 25)).keep hb1;have g1:Bw w w1:=bS bw2 hb1;have j0:=hJ1.at_ (i:=0) rfl;have j1:=hJ1.at_ (i:=1) rfl;have j2:=hJ1.at_ (i:=2) rfl;have j3:=hJ1.at_ (i:=3) rfl;have j4:=hJ1.at_ (i:=4) rfl;have tok1:=trivial))
  refine aN ?_;intro wx hwx;have hT6:Blk wx w2.heap.size (Ro kb nb Ab sb.length cb):=by rw [hwx];exact aC _ 25 _ rfl
  have hZx:=(show Blk wx (w.heap.size+1) _ by rw [hwx];exact hZ2.alloc _);have hJx:=(show Blk wx w.heap.size _ by rw [hwx];exact hJ2.alloc _);have gx:Bw w wx:=by rw [hwx];exact g2.alloc g2.size _
  have rb:Rd wx Ab 0 sb:=by rw [hwx];exact rb1.alloc _
  clear hwx;have ra:=ra0.below gx;have u3:=aF (hJx.at_ (i:=3) rfl);obtain ⟨v0,v1,v2⟩:=gQ hT6;have y0:=aF ((bT gx) _ _ i1);have y1:=aF ((bT gx) _ _ i2);have y2:=aF ((bT gx) _ _ i3);go_cut [7,8] (fun vc vp wy=>∃(gz:Nat) (Az:Option Addr) (cz:Nat),vp = .pointer (some ⟨gz,0,none⟩)∧vc = .int .i64 0∧Blk wy gz (Ro 3 0 Az 2 cz)∧Rd wy Az 0 [.mk ka na sa,.mk kb nb sb]∧Bw wx wy∧wx.heap.size≤gz)
  case first=>
   refine dY wx [9,10,11,13,14] [0,1,2,3,4,5] 15 9 (lT:=[_,_,_,_,_,_]) ?_;intro q0 bq0;refine bU (aD ?_);refine kV 6 12 ?_ ?_
   ·go_wp2_with fail
    refine dM ?_;intro q1 hbq1 zq1 seq1;have rq1:Rd q1 (some ⟨q0.heap.size,0,none⟩) 0 [.mk ka na sa,.mk kb nb sb]:=cR (s0:=sa) (s1:=sb) zq1 hla hlb ((ra.below bq0).below hbq1) ((rb.below bq0).below hbq1);refine aY bq0 hbq1 ?_;intro bq1 lq1;refine kV 7 12 ?_ ?_
    ·go_wp2_with (go_at_call 18;refine (aT 3 _ ⟨_,_,_,rfl⟩ _).mono ?_;rintro e q2 ⟨rfl,hbq2⟩)
     have Pq2:=rq1.below hbq2;refine aY bq1 hbq2 ?_;intro bq2 lq2;refine kV 8 12 ?_ ?_
     ·go_wp2_with (go_at_call 101;refine (bC 3 0 [.mk ka na sa,.mk kb nb sb] _ 2 _ hv'.out Pq2).mono ?_;rintro e q3 ⟨rfl,hbq3⟩)
      have Pq3:=Pq2.below hbq3;refine aY bq2 hbq3 ?_;intro bq3 lq3;refine eV [9,10,11] 3 (lT:=[_,_,_]) ?_;refine bU (aD ?_);refine bG 12 ?_
      ·go_wp2_with fail
       refine dM ?_;intro q4 hbq4 zq4 seq4;have Pq4:=Pq3.below hbq4;refine aY bq3 hbq4 ?_;intro bq4 lq4;refine cD [13,14] (lB:=[_,_]) ?_;obtain ⟨d0,d1,d2,e0,e1,e2⟩:=bW zq4;have szb:wx.heap.size≤q3.heap.size:=by first|exact bq0.size|exact bq3.size
       go_wp2_with fail
       go_meet
       exact ⟨q3.heap.size,some ⟨q0.heap.size,0,none⟩,2,rfl,rfl,((zq4.set_ 0 _).set_ 1 _).set_ 2 _,aZ zq4 hv'.out Pq4 _ _ _,((bq4.setCell szb _).setCell szb _).setCell szb _,szb⟩
     ·go_wp2_with fail
      refine dM ?_;intro q5 hbq5 zq5 seq5;have Pq5:=Pq2.below hbq5;refine aY bq2 hbq5 ?_;intro bq5 lq5;refine bG 8 ?_
      ·go_wp2_with (go_at_call 101;refine (bC 3 0 [.mk ka na sa,.mk kb nb sb] _ 2 _ hv'.out Pq5).mono ?_;rintro e q6 ⟨rfl,hbq6⟩)
       have Pq6:=Pq5.below hbq6;have Zq6:=zq5.keep hbq6;refine aY bq5 hbq6 ?_;intro bq6 lq6;refine eV [9,10,11] 2 (lT:=[_,_,_]) ?_;refine bU (aD ?_);refine cD [13,14] (lB:=[_,_]) ?_;obtain ⟨d0,d1,d2,e0,e1,e2⟩:=bW Zq6;have szb:wx.heap.size≤q2.heap.size:=by first|exact bq0.size|exact bq2.size
       go_wp2_with fail
       go_meet
       exact ⟨q2.heap.size,some ⟨q0.heap.size,0,none⟩,2,rfl,rfl,((Zq6.set_ 0 _).set_ 1 _).set_ 2 _,aZ Zq6 hv'.out Pq6 _ _ _,((bq6.setCell szb _).setCell szb _).setCell szb _,szb⟩
    ·go_wp2_with fail
     refine dM ?_;intro q7 hbq7 zq7 seq7;have Pq7:=rq1.below hbq7;refine aY bq1 hbq7 ?_;intro bq7 lq7;refine bG 7 ?_
     ·go_wp2_with (go_at_call 18;refine (aT 3 _ ⟨_,_,_,rfl⟩ _).mono ?_;rintro e q8 ⟨rfl,hbq8⟩)
      have Pq8:=Pq7.below hbq8;have Zq8:=zq7.keep hbq8;refine aY bq7 hbq8 ?_;intro bq8 lq8;refine bG 8 ?_
      ·go_wp2_with (go_at_call 101;refine (bC 3 0 [.mk ka na sa,.mk kb nb sb] _ 2 _ hv'.out Pq8).mono ?_;rintro e q9 ⟨rfl,hbq9⟩)
       have Pq9:=Pq8.below hbq9;have Zq9:=Zq8.keep hbq9;refine aY bq8 hbq9 ?_;intro bq9 lq9;refine eV [9,10,11] 2 (lT:=[_,_,_]) ?_;refine bU (aD ?_);refine cD [13,14] (lB:=[_,_]) ?_;obtain ⟨d0,d1,d2,e0,e1,e2⟩:=bW Zq9;have szb:wx.heap.size≤q1.heap.size:=by first|exact bq0.size|exact bq1.size
       go_wp2_with fail
       go_meet
       exact ⟨q1.heap.size,some ⟨q0.heap.size,0,none⟩,2,rfl,rfl,((Zq9.set_ 0 _).set_ 1 _).set_ 2 _,aZ Zq9 hv'.out Pq9 _ _ _,((bq9.setCell szb _).setCell szb _).setCell szb _,szb⟩
   ·go_wp2_with fail
    refine dM ?_;intro q10 hbq10 zq10 seq10;refine aY bq0 hbq10 ?_;intro bq10 lq10;refine bG 6 ?_
    ·go_wp2_with fail
     refine dM ?_;intro q11 hbq11 zq11 seq11;have rq11:Rd q11 (some ⟨q10.heap.size,0,none⟩) 0 [.mk ka na sa,.mk kb nb sb]:=cR (s0:=sa) (s1:=sb) zq11 hla hlb ((ra.below bq10).below hbq11) ((rb.below bq10).below hbq11);have Zq11:=zq10.keep hbq11;refine aY bq10 hbq11 ?_;intro bq11 lq11;refine bG 7 ?_
     ·go_wp2_with (go_at_call 18;refine (aT 3 _ ⟨_,_,_,rfl⟩ _).mono ?_;rintro e q12 ⟨rfl,hbq12⟩)
      have Zq12:=Zq11.keep hbq12;have Pq12:=rq11.below hbq12;refine aY bq11 hbq12 ?_;intro bq12 lq12;refine bG 8 ?_
      ·go_wp2_with (go_at_call 101;refine (bC 3 0 [.mk ka na sa,.mk kb nb sb] _ 2 _ hv'.out Pq12).mono ?_;rintro e q13 ⟨rfl,hbq13⟩)
       have Zq13:=Zq12.keep hbq13;have Pq13:=Pq12.below hbq13;refine aY bq12 hbq13 ?_;intro bq13 lq13;refine eV [9,10,11] 2 (lT:=[_,_,_]) ?_;refine bU (aD ?_);refine cD [13,14] (lB:=[_,_]) ?_;obtain ⟨d0,d1,d2,e0,e1,e2⟩:=bW Zq13;have szb:wx.heap.size≤q0.heap.size:=by first|exact bq0.size|exact bq0.size
       go_wp2_with fail
       go_meet
       exact ⟨q0.heap.size,some ⟨q10.heap.size,0,none⟩,2,rfl,rfl,((Zq13.set_ 0 _).set_ 1 _).set_ 2 _,aZ Zq13 hv'.out Pq13 _ _ _,((bq13.setCell szb _).setCell szb _).setCell szb _,szb⟩
  case rest=>
   obtain ⟨gz,Az,cz,rfl,rfl,hTz,rz,hxy,hgz⟩:=hcut;have gy:=gx.trans (hxy.mono gx.size);have hZy:=hZx.keep hxy;have hJy:=hJx.keep hxy;have j0:=hJy.at_ (i:=0) rfl;have j1:=hJy.at_ (i:=1) rfl;have j2:=hJy.at_ (i:=2) rfl;have j3:=hJy.at_ (i:=3) rfl;have j4:=hJy.at_ (i:=4) rfl;obtain ⟨p0,p1,p2⟩:=hTz.three;have lzz:=hTz.lt;go_wp2_with (go_at_call 59;refine (hRec.out Az cz _ gy rz).mono ?_;rintro e w9 ⟨A9,c9,rfl,hl9,r9,hb9⟩;have hZ9:=hZy.keep hb9;have g9:=gy.trans (hb9.mono gy.size);have rz9:=rz.below hb9;have hT9:=hTz.keep hb9;clear p0 p1 p2;obtain ⟨p0,p1,p2⟩:=hT9.three;obtain ⟨d0,d1,d2,e0,e1,e2,lz9⟩:=dA hZ9;have lt9:=hT9.lt)
   have hyy:=fun (o:Obj)=>(((((hZ9.set_ 0 (.int .i64 3)).set_ 1 (.int .i64 0)).set_ 2 (.slice Az 2 cz)).alloc o:Blk _ _ (Ro 3 0 Az 2 cz))).three
   refine bodyPost_ret (v:=.tuple #[.agg (Ro 3 0 Az 2 cz),.int .i64 0]) (by simp [results,results106,go_sem,hyy]) rfl ⟨Az,cz,rfl,by simp,?_,?_⟩
   ·exact (aZ hZ9 hv'.out rz9 _ _ _).alloc _
   ·exact (bV g9).alloc (by simp [World.setCell];exact g9.size) _
def vb {α:Type}(t:Tm)(f:Option (Rs α)):Option (Rs α):=if aE t=true then f else none
theorem gH {α:Type}{t:Tm}{f:Option (Rs α)}{r:Rs α}(h:vb t f=some r):aE t=true∧f=some r:=by
 unfold vb at h
 split at h
 ·exact ⟨‹_›,h⟩
 ·cases h
theorem mL {t:Tm}{r:Rs Tm}(h:eC t=some r):(aE t=true∧r = .ok t)∨(aE t=false∧r = .no false):=by
 unfold eC at h
 split at h
 ·exact .inl ⟨‹_›,(Option.some.inj h).symm⟩
 ·exact .inr ⟨Bool.eq_false_iff.2 ‹_›,(Option.some.inj h).symm⟩
def oC (o:Option (Rs Tm)):Option (Rs Int):=bd o fun s=>bd (some (lR s)) aFq
def nU (o:Option (Rs Tm))(kind:Int):Option (Rs Tm):=bd o fun s=>bd (some (lR s)) (gO kind)
def hE (o:Option (Rs Tm))(want:Tm):Option (Rs Unit):=bd o fun s=>some (wV s want)
def faV (o:Option (Rs Tm))(t:Tm):Option (Rs Unit):=bd (nU o 3) fun f=>bd (some (wV (aI f.ks 0) t)) fun _=>bd (some (lR (aI f.ks 1))) aFo
def mH (rec_:Tm→Option (Rs Tm))(ctx:List Tm)(t:Tm)(ty:Nat→Option (Rs Tm)):Option (Rs Tm):=
 if t.k=1 then (if (ctx.length:Int)≤t.n then some (.no true) else eC (eZ (t.n+1) 0 (ctx.getD (ctx.length - 1 - t.n.toNat) default)))
 else if t.k=2 then (if t.n=3 then some (.no true) else some (.ok (.mk 2 (t.n+1) [])))
 else if t.k=6 then some (.ok (.mk 2 0 []))
 else if t.k=7 then some (.ok nT)
 else if t.k=8 then bd (hE (ty 0) nT) fun _=>some (.ok nT)
 else if t.k=3∨t.k=13 then bd (oC (ty 0)) fun i=>bd (oC (ty 1)) fun j=>some (.ok (.mk 2 (if j<i then i else j) []))
 else if t.k=4 then bd (oC (ty 0)) fun _=>bd (ty 1) fun u=>bd (rec_ (.mk 3 0 [aI t.ks 0,u])) fun _=>eC (.mk 3 0 [aI t.ks 0,u])
 else if t.k=5 then bd (nU (ty 0) 3) fun h=>bd (hE (ty 1) (aI h.ks 0)) fun _=>eC (cZ (aI t.ks 1) 0 0 (aI h.ks 1))
 else if t.k=9 then bd (faV (ty 0) nT) fun _=>vb (jX (aI t.ks 0) (.mk 7 0 [])) (bd (hE (ty 1) (jX (aI t.ks 0) (.mk 7 0 []))) fun _=>vb (kM (aI t.ks 0)) (bd (hE (ty 2) (kM (aI t.ks 0))) fun _=>bd (hE (ty 3) nT) fun _=>eC (jX (aI t.ks 0) (aI t.ks 3))))
 else if t.k=10 then bd (oC (ty 0)) fun i=>bd (hE (ty 1) (aI t.ks 0)) fun _=>bd (hE (ty 2) (aI t.ks 0)) fun _=>some (.ok (.mk 2 i []))
 else if t.k=11 then bd (ty 0) fun s=>bd (oC (rec_ s)) fun _=>eC (.mk 10 0 [s,aI t.ks 0,aI t.ks 0])
 else if t.k=12 then bd (nU (ty 1) 10) fun e=>bd (faV (ty 0) (aI e.ks 0)) fun _=>vb (jX (aI t.ks 0) (aI e.ks 1)) (bd (hE (ty 2) (jX (aI t.ks 0) (aI e.ks 1))) fun _=>eC (jX (aI t.ks 0) (aI e.ks 2)))
 else if t.k=14 then bd (oC (ty 0)) fun _=>bd (some (lR (aI t.ks 0))) fun h=>bd (gO 13 h) fun h=>bd (hE (ty 1) (aI h.ks 0)) fun _=>vb (cZ (aI t.ks 1) 0 0 (aI h.ks 1)) (bd (hE (ty 2) (cZ (aI t.ks 1) 0 0 (aI h.ks 1))) fun _=>some (.ok (aI t.ks 0)))
 else if t.k=15 then bd (nU (ty 0) 13) fun h=>some (.ok (aI h.ks 0))
 else bd (nU (ty 0) 13) fun h=>eC (cZ (.mk 15 0 [aI t.ks 0]) 0 0 (aI h.ks 1))
def gI (rec_:List Tm→Tm→Option (Rs Tm))(ctx:List Tm)(t:Tm)(i:Nat):Option (Rs Tm):=
 if aR t.k i=0 then rec_ ctx (aI t.ks i) else rec_ (ctx++[aI t.ks 0]) (aI t.ks i)
def nof {α:Type}(o:Option (Rs α)):Option (Rs Tm):=match o with|some (.ok _)=>some (.no false)|some (.no false)=>some (.no false)|_=>none
def kO (f:List Tm→Tm→Option (Rs Tm))(ctx:List Tm)(t:Tm):Option (Rs Tm):=
 if aE t=true then f ctx t else nof (oC (f (ctx++[aI t.ks 0]) (aI t.ks 1)))
theorem nL {f:List Tm→Tm→Option (Rs Tm)}{ctx:List Tm}{t:Tm}(h:aE t=true):kO f ctx t=f ctx t:=if_pos h
theorem aBw {α:Type}{o:Option (Rs α)}{r:Rs Tm}(h:nof o=some r):r = .no false∧((∃a,o=some (.ok a))∨o=some (.no false)):=by
 match o,h with
 | some (.ok a),h=>exact ⟨(Option.some.inj h).symm,.inl ⟨a,rfl⟩⟩
 | some (.no false),h=>exact ⟨(Option.some.inj h).symm,.inr rfl⟩
 | some (.no true),h=>cases h
 | none,h=>cases h
theorem xL {f:List Tm→Tm→Option (Rs Tm)}{ctx:List Tm}{t:Tm}{r:Rs Tm}(h:kO f ctx t=some r)(hv:aE t=false):nof (oC (f (ctx++[aI t.ks 0]) (aI t.ks 1)))=some r:=by
 rw [kO,if_neg (by rw [hv];decide)] at h;exact h
theorem sF {f:List Tm→Tm→Option (Rs Tm)}{ctx:List Tm}{t:Tm}{r:Rs Tm}(h:kO f ctx t=some r)(hv:aE t=false):r = .no false:=(aBw (xL h hv)).1
def bK:Nat→List Tm→Tm→Option (Rs Tm)
 | 0,_,_=>none
 | N+1,ctx,t=>if aE t=true∧ctx.length≤20 then mH (kO (bK N) ctx) ctx t (gI (bK N) ctx t) else if aE t=true then some (.no false) else none
inductive NT where
 | var (i:Nat)
 | zero
 | suc (a:NT)
 | app (b a:NT)
 | elim (z s n:NT)
 | part (q:Bool) (a b:NT)
 | mov (x z:NT)
def kN:Tm:=.mk 6 0 []
def NT.tm:NT→Tm
 | .var i=>.mk 1 i []
 | .zero=>.mk 7 0 []
 | .suc a=>.mk 8 0 [a.tm]
 | .app b a=>.mk 5 0 [.mk 4 0 [kN,b.tm],a.tm]
 | .elim z s n=>.mk 9 0 [.mk 4 0 [kN,kN],z.tm,.mk 4 0 [kN,.mk 4 0 [kN,s.tm]],n.tm]
 | .part q a b=>.mk (if q=true then 16 else 15) 0 [.mk 14 0 [.mk 13 0 [kN,kN],a.tm,b.tm]]
 | .mov x z=>.mk 12 0 [.mk 4 0 [kN,kN],.mk 11 0 [x.tm],z.tm]
def NT.ok:Nat→NT→Prop
 | n,.var i=>i<n
 | _,.zero=>True
 | n,.suc a=>a.ok n
 | n,.app b a=>b.ok (n+1)∧a.ok n
 | n,.elim z s m=>z.ok n∧s.ok (n+2)∧m.ok n
 | n,.part _ a b=>a.ok n∧b.ok n
 | n,.mov x z=>x.ok n∧z.ok n
def NT.dp:NT→Nat
 | .var _=>0
 | .zero=>0
 | .suc a=>a.dp
 | .app b a=>max (b.dp+1) a.dp
 | .elim z s n=>max (max z.dp (s.dp+2)) n.dp
 | .part _ a b=>max (max a.dp b.dp) 1
 | .mov x z=>max (max x.dp z.dp) 1
def vA (n q:Nat)(t:Tm):Prop:=∃x:NT,x.ok n∧x.dp≤q∧x.tm=t
theorem aRw {n:Int}(hn:0≤n){q:Nat}{b a:Tm}(hb:vA (n+1).toNat q b)(ha:vA n.toNat q a):vA n.toNat (q+2) (.mk 5 0 [.mk 4 0 [.mk 6 0 [],b],a]):=by
 obtain ⟨x,hx,hx2,rfl⟩:=hb;obtain ⟨y,hy,hy2,rfl⟩:=ha;rw [show (n+1).toNat=n.toNat+1 by omega] at hx;exact ⟨.app x y,⟨hx,hy⟩,by simp only [NT.dp];omega,rfl⟩
theorem aNw {n:Int}(hn:0≤n){q:Nat}{z s m:Tm}(hz:vA n.toNat q z)(hs:vA (n+2).toNat q s)(hm:vA n.toNat q m):vA n.toNat (q+2) (.mk 9 0 [.mk 4 0 [.mk 6 0 [],.mk 6 0 []],z,.mk 4 0 [.mk 6 0 [],.mk 4 0 [.mk 6 0 [],s]],m]):=by
 obtain ⟨x,hx,hx2,rfl⟩:=hz;obtain ⟨y,hy,hy2,rfl⟩:=hs;obtain ⟨v,hv,hv2,rfl⟩:=hm;rw [show (n+2).toNat=n.toNat+2 by omega] at hy;exact ⟨.elim x y v,⟨hx,hy,hv⟩,by simp only [NT.dp];omega,rfl⟩
theorem aMl {n:Int}(hn:0≤n){q:Nat}{k:Int}(hk:k∈([15,16]:List Int)){a b:Tm}(ha:vA n.toNat q a)(hb:vA n.toNat q b):vA n.toNat (q+2) (.mk k 0 [.mk 14 0 [.mk 13 0 [.mk 6 0 [],.mk 6 0 []],a,b]]):=by
 obtain ⟨x,hx,hx2,rfl⟩:=ha;obtain ⟨y,hy,hy2,rfl⟩:=hb;simp only [List.mem_cons,List.not_mem_nil,or_false] at hk
 rcases hk with rfl|rfl
 ·exact ⟨.part false x y,⟨hx,hy⟩,by simp only [NT.dp];omega,rfl⟩
 ·exact ⟨.part true x y,⟨hx,hy⟩,by simp only [NT.dp];omega,rfl⟩
theorem aRv {n:Int}(hn:0≤n){q:Nat}{x z:Tm}(hx:vA n.toNat q x)(hz:vA n.toNat q z):vA n.toNat (q+2) (.mk 12 0 [.mk 4 0 [.mk 6 0 [],.mk 6 0 []],.mk 11 0 [x],z]):=by
 obtain ⟨x,hx,hx2,rfl⟩:=hx;obtain ⟨y,hy,hy2,rfl⟩:=hz;exact ⟨.mov x y,⟨hx,hy⟩,by simp only [NT.dp];omega,rfl⟩
theorem aPo {n:Int}(hn:0≤n){q:Nat}{x:Tm}(hx:vA n.toNat q x):vA n.toNat (q+2) (.mk 8 0 [x]):=by
 obtain ⟨x,hx,hx2,rfl⟩:=hx;exact ⟨.suc x,hx,by simp only [NT.dp];omega,rfl⟩
theorem aOd {n q:Nat}{t:Tm}(h:vA n q t){q':Nat}(hq:q≤q'):vA n q' t:=by
 obtain ⟨x,h1,h2,h3⟩:=h;exact ⟨x,h1,by omega,h3⟩
theorem aRq {n:Int}(hn:0≤n){q:Nat}{m:Nat}(hm:(m:Int)<n):vA n.toNat q (.mk 1 m []):=⟨.var m,show m<n.toNat by omega,Nat.zero_le _,rfl⟩
theorem aCq (n:Nat){q:Nat}:vA n q (.mk 7 0 []):=⟨.zero,trivial,Nat.zero_le _,rfl⟩
theorem uJ {B:Nat}{w0 w1:World}{v:Value}{ts:List Tm}(hp:Part B w0 v ts)(hb:∀b,B≤b→b<w0.heap.size→w1.heap[b]?=w0.heap[b]?)(hs:w0.heap.size≤w1.heap.size)(hB:B≤w0.heap.size)(hlen:ts.length≤1099511627776)(k n:Int)(c:Nat)(ty:TypeId) :
  ∃A' c' w',(Builtin.append_ #[23,23] ty #[v,.slice (some ⟨w1.heap.size,0,none⟩) 1 1]).run prog (w1.alloc (.cells (Ro k n none 0 c) 25)) = .ok (.slice A' (ts.length+1) c') w'∧
   RdP (fun b=>B≤b∧(b<w0.heap.size∨w1.heap.size≤b)∧b<w'.heap.size) w' A' 0 (ts++[.mk k n []])∧w1.grownBy w' v.ownBlock∧(∀g,v.ownBlock=some g→B≤g∧g<w0.heap.size):=by
 obtain ⟨i,hi,hz,hz1,hz2⟩:=info_parts lI;obtain ⟨xs,f,h1,h2,h3,h4,h5⟩:=hp;have hlt:∀g,v.ownBlock=some g→g<w0.heap.size:=fun g hg=>(h1.lt g hg).2
 have hge:∀g,v.ownBlock=some g→B≤g:=fun g hg=>(h1.lt g hg).1
 have hfl:=h2.lt;generalize hW:w1.alloc (.cells (Ro k n none 0 c) 25)=w
 have hbw:∀b,b<w1.heap.size→w.heap[b]?=w1.heap[b]?:=fun b h=>by rw [← hW];exact Below.heap_alloc _ _ b h
 have hsw:w.heap.size=w1.heap.size+1:=by rw [← hW];simp
 have hcell:Blk w w1.heap.size (Ro k n none 0 c):=by rw [← hW];exact aC _ _ _ rfl
 have k1:w.ownsRow B 25 3 v ts.length xs:=by
  refine ⟨h1.1,?_⟩;rcases h1.2 with hn|⟨g,cap,cur,rfl,hb',hg,r⟩
  ·exact .inl hn
  ·exact .inr ⟨g,cap,cur,rfl,hb',(hbw g (by have:=hlt g rfl;omega)).trans ((hb g hb' (hlt g rfl)).trans hg),r⟩
 have k2:OwX w ts xs f:=h2.frame fun b hbf=>(hbw b (by have:=hfl b hbf;omega)).trans (hb b (h4 b hbf) (hfl b hbf))
 have ht:OwX w [.mk k n []] [.int .i64 k,.int .i64 n,.slice none 0 c] []:=kH (OwT.iff.2 ⟨none,c,rfl,by simp,.inl ⟨rfl,rfl⟩⟩);obtain ⟨v',w',hrun,hown,hg,_,hat⟩:=run_append_own_at (P:=prog) w B 23 ty 25 i _ 3 40 Tryz.underlying23 hi hz hz1 hz2 rfl (by omega) v ts.length xs k1 ⟨w1.heap.size,0,none⟩ 1 1 _ ht.length (fun j u hj=>by
   rw [sP];exact hcell.at_ (by simpa using hj)) ht.oneCell
  (by simp only [maxLen]; omega) (by omega) (by omega)
 have e1:∀b,b∈f→w'.heap[b]?=w.heap[b]?:=fun b hbf=>hg.block b (by have:=hfl b hbf;omega) (fun e=>h5 b e.symm hbf)
 have k3:OwX w' (ts++[.mk k n []]) (xs++[.int .i64 k,.int .i64 n,.slice none 0 c]) (f++[]):=(k2.frame e1).append (ht.frame fun b hb=>by cases hb);rw [List.append_nil] at k3;have hgs:=hg.size;have hgr:w1.grownBy w' v.ownBlock:=by
  have:w1.grownBy w v.ownBlock:=by rw [← hW];exact iM (jK _ _) _
  exact jG this hg
 obtain ⟨h6,h7⟩:=hown;rcases h7 with ⟨_,h0⟩|⟨g',cap,cur,rfl,hb',hg',_,_,_,htk⟩
 ·omega
 ·refine ⟨_,_,w',hrun,?_,hgr,fun g hg=>⟨hge g hg,hlt g hg⟩⟩;have hgl':g'<w'.heap.size:=(Array.getElem?_eq_some_iff.1 hg').1;refine own_rdp.2 _ _ _ k3 (fun b hb=>⟨h4 b hb,.inl (hfl b hb),by have:=hfl b hb;omega⟩) g' 0 0 ⟨hb',?_,hgl'⟩ fun j u hu=>?_
  ·rcases hat with e|e
   ·left;exact hlt g' e.symm
   ·right;injection e with e;have e:g'=w.heap.size:=e;omega
  ·have e0:0+0*3+j=j:=by omega
   rw [e0,cell_of_row w' g' j cur 25 (0,0) hg'];rw [← htk,List.getElem?_take] at hu;split at hu
   ·simpa using hu
   ·cases hu
theorem rC {B:Nat}{w0 w1:World}{v:Value}{ts:List Tm}(hp:Part B w0 v ts)(hb:∀b,B≤b→b<w0.heap.size→w1.heap[b]?=w0.heap[b]?)(hs:w0.heap.size≤w1.heap.size)(hB:B≤w0.heap.size){m:Nat}(hm:ts.length=m)(hlen:m≤1099511627776)(k n:Int)(c:Nat)
  {ops:Array Oper} {rest:List Oper} {o:Oper} {a:Act} {Q:Exit→Act→World→Prop} (hgd:o.guard=none) (s x:Operand)
  (ho : o.op = .call { callee := .builtin .append, args := #[s, x], argTypes := #[23, 23] }) (hse : a.eval s = v) (hx : a.eval x = .slice (some ⟨w1.heap.size, 0, none⟩) 1 1)
  (h : ∀ A' c' w', RdP (fun b => B ≤ b ∧ (b < w0.heap.size ∨ w1.heap.size ≤ b) ∧ b < w'.heap.size) w' A' 0 (ts ++ [.mk k n []]) → w1.grownBy w' v.ownBlock → (∀ g, v.ownBlock = some g → B ≤ g ∧ g < w0.heap.size) → wpList prog ops Q rest (a.put o.dst (.slice A' (m + 1) c')) w') :
  wpList prog ops Q (o::rest) a (w1.alloc (.cells (Ro k n none 0 c) 25)):=by
 subst hm;refine wpList_plain hgd fun K hK=>?_
 obtain ⟨A',c',w',hrun,h2,h3,h4⟩:=uJ hp hb hs hB hlen k n c o.type;unfold Oper.wp execOp
 simp only [ho,resolve,invoke,builtin,Sem.run_bind,Sem.run_pure,Result.andThen_ok,List.map_toArray,List.map_cons,List.map_nil,hse,hx,hrun]
 exact hK _ _ (h A' c' w' h2 h3 h4)
theorem oF {w:World}{g j q:Nat}(u:Value)(h:j≠q):(w.setCell ⟨g,q,none⟩ u).cell? ⟨g,j,none⟩=w.cell? ⟨g,j,none⟩:=
 World.cell?_setCell_other w ⟨g,q,none⟩ ⟨g,j,none⟩ u (fun e=>by injection e with _ e;omega)
theorem Part.head_set {B:Nat}{w:World}{v:Value}{t:Tm}{ts:List Tm}(hp:Part B w v (t::ts)):∃g cap,v = .slice (some ⟨g,0,none⟩) (ts.length+1) cap∧B≤g∧g<w.heap.size∧
  ∀W:World,(∀b,B≤b→b<w.heap.size→W.heap[b]?=w.heap[b]?)→(∃u0 u1 u2,W.cell? ⟨g,0,none⟩=some u0∧W.cell? ⟨g,1,none⟩=some u1∧W.cell? ⟨g,2,none⟩=some u2)∧(∀j,W.frozen? ⟨g,j,none⟩=false)∧
   ∀(k n:Int) (c:Nat),RdP (fun b=>B≤b∧b<w.heap.size) (((W.setCell ⟨g,0,none⟩ (.int .i64 k)).setCell ⟨g,1,none⟩ (.int .i64 n)).setCell ⟨g,2,none⟩ (.slice none 0 c)) (some ⟨g,0,none⟩) 0 (.mk k n []::ts):=by
 obtain ⟨xs,f,h1,h2,h3,h4,h5⟩:=hp;have hfl:=h2.lt;rcases h1.2 with ⟨_,h0⟩|⟨g,cap,cur,rfl,hb,hg,hn,_,hsz,htk⟩
 ·simp at h0
 have hgl:g<w.heap.size:=(Array.getElem?_eq_some_iff.1 hg).1;have hxl:=h2.length;refine ⟨g,cap,by simp,hb,hgl,fun W hW=>?_⟩;have hgW:W.heap[g]?=some (.cells cur 25 (0,0)):=(hW g hb hgl).trans hg;have hcells:∀j u,xs[j]?=some u→W.cell? ⟨g,j,none⟩=some u:=fun j u hu=>by
  rw [cell_of_row W g j cur 25 (0,0) hgW];rw [← htk,List.getElem?_take] at hu;split at hu
  ·simpa using hu
  ·cases hu
 simp only [List.length_cons] at hxl
 have g3:∀j,j<3→∃u,W.cell? ⟨g,j,none⟩=some u:=fun j hj=>⟨xs[j]'(by omega),hcells j _ (nY (by omega))⟩
 obtain ⟨u0,c0⟩:=g3 0 (by omega);obtain ⟨u1,c1⟩:=g3 1 (by omega);obtain ⟨u2,c2⟩:=g3 2 (by omega);refine ⟨⟨u0,u1,u2,c0,c1,c2⟩,fun j=>by simp [World.frozen?,hgW],fun k n c=>?_⟩;obtain ⟨x1,x2,f1,f2,rfl,rfl,ht,hx⟩:=OwX.cons_iff.1 h2;have hgf:g ∉ f1++f2:=h5 g rfl;have hx1:=ht.length;have far:∀b,b≠g→(((W.setCell ⟨g,0,none⟩ (.int .i64 k)).setCell ⟨g,1,none⟩ (.int .i64 n)).setCell ⟨g,2,none⟩ (.slice none 0 c)).heap[b]?=W.heap[b]?:=fun b hbg=>by
  rw [oB _ _ _ _ hbg,oB _ _ _ _ hbg,oB _ _ _ _ hbg]
 have hx':OwX (((W.setCell ⟨g,0,none⟩ (.int .i64 k)).setCell ⟨g,1,none⟩ (.int .i64 n)).setCell ⟨g,2,none⟩ (.slice none 0 c)) (.mk k n []::ts) ([.int .i64 k,.int .i64 n,.slice none 0 c]++x2) ([]++f2):=
  OwX.cons_iff.2 ⟨_,_,_,_,rfl,rfl,OwT.iff.2 ⟨none,c,rfl,by simp,.inl ⟨rfl,rfl⟩⟩,hx.frame fun b hbf=>(far b (fun e=>hgf (by subst e;simp [hbf]))).trans (hW b (h4 b (by simp [hbf])) (hfl b (by simp [hbf])))⟩
 refine own_rdp.2 _ _ _ hx' (fun b hbf=>⟨h4 b (by simp at hbf;simp [hbf]),hfl b (by simp at hbf;simp [hbf])⟩) g 0 0 ⟨hb,hgl⟩ fun j u hu=>?_
 have e0:0+0*3+j=j:=by omega
 rw [e0];have hBk:Blk W g cur:=⟨25,hgW⟩;have hc3:3≤cur.size:=by rw [hsz];simp only [List.length_cons] at hn;omega
 have hB3:=((hBk.set_ 0 (.int .i64 k)).set_ 1 (.int .i64 n)).set_ 2 (.slice none 0 c);match j,hu with
 | 0,hu=>
  simp only [List.cons_append,List.getElem?_cons_zero] at hu
  rw [hB3.cell 0,← hu];simp [Array.getElem?_setIfInBounds];intro h0;subst h0;simp at hc3
 | 1,hu=>
  simp only [List.cons_append,List.getElem?_cons_succ,List.getElem?_cons_zero] at hu
  rw [hB3.cell 1,← hu];simp [Array.getElem?_setIfInBounds];omega
 | 2,hu=>
  simp only [List.cons_append,List.getElem?_cons_succ,List.getElem?_cons_zero] at hu
  rw [hB3.cell 2,← hu];simp [Array.getElem?_setIfInBounds];omega
 | j+3,hu=>
  rw [oF _ (by omega),oF _ (by omega),oF _ (by omega)];refine hcells (j+3) u ?_;rw [List.getElem?_append_right (by omega),hx1];simpa using hu
def KE (W:World)(z:Nat)(w':World):Prop:=W.heap.size≤w'.heap.size∧∀b,b<W.heap.size→b≠z→w'.heap[b]?=W.heap[b]?
theorem KE.of {W w':World}(z:Nat)(h:Below W.heap.size W w'):KE W z w':=⟨h.size,fun b hb _=>h.block b hb⟩
theorem KE.set {W w':World}{z:Nat}(h:KE W z w')(o:Nat)(v:Value):KE W z (w'.setCell ⟨z,o,none⟩ v):=⟨by simp;exact h.1,fun b hb hz=>(oB _ ⟨z,o,none⟩ _ b hz).trans (h.2 b hb hz)⟩
theorem dV {W:World}{z b o:Nat}{v:Value}(hc:W.cell? ⟨b,o,none⟩=some v)(hz:b≠z):∀w',KE W z w'→w'.cell? ⟨b,o,none⟩=some v:=fun w' h=>by
 have hb:=lL _ _ hc;rw [← hc];simp only [World.cell?,h.2 b hb hz]
theorem rk3 {v w:World}{z b p q r:Nat}{x y u:Value}(k:Below v.heap.size v w)(e:b≠z)(h1:v.cell? ⟨b,p,none⟩=some x)(h2:v.cell? ⟨b,q,none⟩=some y)(h3:v.cell? ⟨b,r,none⟩=some u):(∀t,KE w z t→t.cell? ⟨b,p,none⟩=some x)∧(∀t,KE w z t→t.cell? ⟨b,q,none⟩=some y)∧(∀t,KE w z t→t.cell? ⟨b,r,none⟩=some u):=by
 obtain ⟨a1,a2,a3⟩:=yB k h1 h2 h3;exact ⟨dV a1 e,dV a2 e,dV a3 e⟩
theorem rkB {w:World}{z b:Nat}{x y u:Value}(h:Blk w b #[x,y,u])(e:b≠z):(∀t,KE w z t→t.cell? ⟨b,0,none⟩=some x)∧(∀t,KE w z t→t.cell? ⟨b,1,none⟩=some y)∧(∀t,KE w z t→t.cell? ⟨b,2,none⟩=some u):=⟨dV h.three.1 e,dV h.three.2.1 e,dV h.three.2.2 e⟩
section
variable {P:Program}{ops:Array Oper}{Q:Exit→Act→World→Prop}
theorem gBk {id:Nat}{a:Act}(W:World)(z:Nat)(B T:List Nat)(n f:Nat){lT:List Oper}
  (h : ∀ q0, Below W.heap.size W q0 → KE W z q0 → cN P ops (KE W z) (fun a' => gC P ops Q (KE W z) B f (stp T (Array.replicate n false)) a' q0) lT a)
  (hm : P.follows .mixedOrders = true := by kernel_rfl) (hs : ops.size = n := by rfl) (hF : n = T.length + f := by rfl) (hsel : Region.noSelect ops = true := by kernel_rfl)
  (hl : nW ops T (Array.replicate n false) = some (stp T (Array.replicate n false)) := by kernel_rfl) (hpre : (B.all fun j => T.all fun i => pre ops ops.size j i) = true := by kernel_rfl) (hT : sM ops T = lT := by exact rfl)
  (hQ : ∀ c (a : Act) d v w, Q (.panic c) (a.put d v) w → Q (.panic c) a w := by exact fun _ _ d _ _ h => by cases d <;> exact h) : (Code.region id ops true).wp P Q a W :=
 aCm _ B n hm hs (aBn T (KE.of z (fJ _ _).drew) hF hsel hl hpre hT hQ (h W.drew (fJ _ _).drew (KE.of z (fJ _ _).drew)))
theorem xQ {K:Act→World→Prop}{W q0 q1:World}{a:Act}{z:Nat}(b:Below W.heap.size W q0)(hb:Below q0.heap.size q0 q1)(h:Below W.heap.size W q1→q0.heap.size≤q1.heap.size→KE W z q1→K a q1):qL (KE W z) K Q .normal a q1:=
 aP (KE.of z (b.trans (hb.mono b.size))) (h (b.trans (hb.mono b.size)) hb.size (KE.of z (b.trans (hb.mono b.size))))
end
mutual
def dP:Tm→Option Tm
 | .mk k n ks=>if cH k ks=0 then (if dB k<0 then none else (yD (dB k).toNat ks).map (Tm.mk k n)) else some (gD (.mk k n ks))
def yD:Nat→List Tm→Option (List Tm)
 | _,[]=>none
 | 0,t::ts=>(dP t).map (·::ts)
 | i+1,t::ts=>(yD i ts).map (t::·)
end
theorem oU:∀(ks:List Tm) (i:Nat) (h:i<ks.length),yD i ks=(dP ks[i]).map (ks.set i ·)
 | t::ts,0,h=>rfl
 | t::ts,i+1,h=>by
  have hi:i<ts.length:=by simpa using h
  rw [yD,oU ts i hi];simp only [List.getElem_cons_succ]
  cases dP ts[i]<;>rfl
def qP:Nat→Tm→Option Tm × Int
 | fuel,t=>match dP t with
  | none=>(some t,0)
  | some t'=>match fuel with
   | 0=>(none,1)
   | fuel+1=>if aE t'=true then qP fuel t' else (none,2)
theorem aDo:∀(ts:List Tm) (i:Nat) (h:i<ts.length),iE i ts=bQ ts[i]
 | t::ts,0,h=>rfl
 | t::ts,i+1,h=>by rw [iE,aDo ts i (by simpa using h)];rfl
theorem iV:∀(ts:List Tm) (i:Nat),ts.length≤i→iE i ts=none∧yD i ts=none
 | [],i,h=>by cases i<;>exact ⟨rfl,rfl⟩
 | t::ts,0,h=>absurd h (by simp)
 | t::ts,i+1,h=>by rw [iE,yD,(iV ts i (by simpa using h)).1,(iV ts i (by simpa using h)).2];exact ⟨rfl,rfl⟩
theorem zH:∀t:Tm,(bQ t=none→dP t=none)∧∀p,bQ t=some p→∃k n ks,lD t p=some (.mk k n ks)∧cH k ks≠0∧dP t=some (iO t p (gD (.mk k n ks))):=by
 refine Tm.rec (motive_1:=fun t=>(bQ t=none→dP t=none)∧∀p,bQ t=some p→∃k n ks,lD t p=some (.mk k n ks)∧cH k ks≠0∧dP t=some (iO t p (gD (.mk k n ks))))
  (motive_2 := fun ts => ∀ t, t ∈ ts → (bQ t = none → dP t = none) ∧ ∀ p, bQ t = some p → ∃ k n ks, lD t p = some (.mk k n ks) ∧ cH k ks ≠ 0 ∧ dP t = some (iO t p (gD (.mk k n ks)))) ?_ ?_ ?_
 ·intro k n ks ih;by_cases hr:cH k ks=0
  ·by_cases hm:dB k<0
   ·rw [bQ,dP,if_pos hr,if_pos hm,if_pos hr,if_pos hm];exact ⟨fun _=>rfl,fun p h=>by cases h⟩
   ·rw [bQ,dP,if_pos hr,if_neg hm,if_pos hr,if_neg hm];obtain ⟨i,hi⟩:∃i:Nat,dB k=(i:Int):=⟨(dB k).toNat,by omega⟩;rw [hi,Int.toNat_natCast];by_cases hl:i<ks.length
    ·rw [aDo ks i hl,oU ks i hl];have h:=ih _ (iP hl);refine ⟨fun h0=>?_,fun p hp=>?_⟩
     ·cases hh:bQ ks[i] with
      | none=>rw [h.1 hh];rfl
      | some q=>rw [hh] at h0;cases h0
     ·cases hh:bQ ks[i] with
      | none=>rw [hh] at hp;cases hp
      | some q=>
       rw [hh] at hp;injection hp with hp;subst hp;obtain ⟨k1,n1,ks1,ha,hr1,hs⟩:=h.2 q hh;refine ⟨k1,n1,ks1,?_,hr1,?_⟩
       ·rw [oS hl];exact ha
       ·rw [hs,zF hl];rfl
    ·rw [(iV ks i (by omega)).1,(iV ks i (by omega)).2];exact ⟨fun _=>rfl,fun p h=>by cases h⟩
  ·rw [bQ,dP,if_neg hr,if_neg hr];refine ⟨(fun h=>by cases h),fun p hp=>?_⟩;injection hp with hp;subst hp;exact ⟨k,n,ks,rfl,hr,rfl⟩
 ·intro t h;cases h
 ·intro t ts h1 h2 u hu;rcases List.mem_cons.1 hu with rfl|hu
  ·exact h1
  ·exact h2 u hu
theorem aKb {t:Tm}{p:List Int}(hv:aE t=true)(hp:bQ t=some p):∃t',dP t=some t'∧lX t p=vO t':=by
 obtain ⟨k,n,ks,ha,hr,hs⟩:=(zH t).2 p hp;refine ⟨_,hs,?_⟩;have hu:=mK ha hv;rw [lX,ha];simp only [zM hu hr]
 by_cases hc:aE (gD (.mk k n ks))=true
 ·rw [aCi hc]
 ·rw [tG hc,tG (fun h=>hc (qC p t _ _ ha h))]
theorem oV:∀(fuel:Nat) (t:Tm),aE t=true→qP fuel t=redI bQ fuel t
 | fuel,t,hv=>by
  rw [qP,redI];cases hp:bQ t with
  | none=>rw [(zH t).1 hp]
  | some p=>
   obtain ⟨t',hs,hc⟩:=aKb hv hp;rw [hs];cases fuel with
   | zero=>rfl
   | succ fuel=>
    simp only [hc]
    by_cases h:aE t'=true
    ·rw [if_pos h,aCi h];exact oV fuel t' h
    ·rw [if_neg h,tG h]
theorem tI (k:Int)(w:World):Calls prog 145 #[.int .i64 k] w fun e w'=>e = .returned (.int .i64 (dB k))∧Bw w w':=by
 unfold dB
 by_cases h5:k=5
 ·subst h5;go_enter func145,ntmps145;go_wp2_with fail
  go_ret
  exact ⟨rfl,fJ _ _⟩
 by_cases h15:k=15
 ·subst h15;go_enter func145,ntmps145;go_wp2_with fail
  go_ret
  exact ⟨rfl,fJ _ _⟩
 by_cases h16:k=16
 ·subst h16;go_enter func145,ntmps145;go_wp2_with fail
  go_ret
  exact ⟨rfl,fJ _ _⟩
 rw [if_neg (by omega)];have q5:(k==5)=false:=by simpa using h5
 have q15:(k==15)=false:=by simpa using h15
 have q16:(k==16)=false:=by simpa using h16
 by_cases h12:k=12
 ·subst h12;go_enter func145,ntmps145;go_wp2_with fail
  go_ret
  exact ⟨rfl,fJ _ _⟩
 have q12:(k==12)=false:=by simpa using h12
 by_cases h9:k=9
 ·subst h9;go_enter func145,ntmps145;go_wp2_with fail
  go_ret
  exact ⟨rfl,fJ _ _⟩
 have q9:(k==9)=false:=by simpa using h9
 rw [if_neg h9,if_neg h12];go_enter func145,ntmps145;go_wp2_with fail
 go_ret
 exact ⟨rfl,fJ _ _⟩
def aLh (t0:Tm)(m:Nat)(w:World)(e:Ending)(w':World):Prop:=
 ∃(k n:Int) (ks:List Tm) (A:Option Addr) (c:Nat) (b:Bool),.mk k n ks=(dP t0).getD t0∧b=(dP t0).isSome∧e = .returned (.tuple #[.agg (Ro k n A ks.length c),.bool b])∧ks.length≤9223372036854775807∧aH ks+1≤m∧RdP (fun x=>if b=true then w.heap.size≤x else x<w.heap.size) w' A 0 ks∧Bw w w'
theorem jI (d:Nat):∀(k n:Int) (ks:List Tm) (A:Option Addr) (c:Nat) (w:World),d≤30→aH ks≤400→shape d (.mk k n ks)=true→Rd w A 0 ks→
  Calls prog 136 #[.agg (Ro k n A ks.length c)] w (aLh (.mk k n ks) (190000+401*d) w):=by
 induction d with
 | zero=>intro k n ks A c w _ _ hs;simp [shape] at hs
 | succ d ih=>
 intro k n ks A c w hd hM hs hr;have hlen:=aQ ks;obtain ⟨d',hde,ha,_,_,hk⟩:=bX hs;obtain rfl:d'=d:=by omega
 have hk':=aD hk;have ha':=aD ha;have hs':=aD hs;replace ih:=aD ih;clear hk ha hs hde;by_cases hx:cH k ks=0
 ·have hrd:=aD hx;obtain ⟨mm,hmm⟩:∃mm,dB k=mm:=⟨_,rfl⟩;have hmn:=aD hmm;by_cases hneg:mm<0
  ·have hst0:=aD (show dP (.mk k n ks)=none by rw [dP,if_pos hx,hmm,if_pos hneg]);have qm:decide (mm<0)=true:=decide_eq_true hneg;clear hx hmm;go_enter func136,ntmps136;go_wp2_with (first
    | (go_at_call 145;have _t:=tok;refine (tI k _).mono ?_;rw [hmn.out];rintro e w2 ⟨rfl,hb2⟩;replace hB:=hB.keep hb2;replace hZ:=hZ.keep hb2;clear x0 x1 x2;obtain ⟨x0,x1,x2⟩:=hB.three;have s2:=hZ.lt;have g2:=g1.trans (hb2.mono g1.size);have hr2:=hr.below g2;obtain ⟨d0,d1,d2,e0,e1,e2⟩:=bW hZ;clear tok;have tok2:=trivial)
    | (go_at_call 91;refine (eD k n ks A c _ (by omega) ha'.out ((hr.alloc _).alloc _)).mono ?_;rw [hrd.out];rintro e w1 ⟨rfl,hb1⟩;have hB:=cU hb1;have hZ:=bH hb1;have g1:Bw w w1:=bS bw2 hb1;have s1:=hZ.lt;have hr1:=hr.below g1;obtain ⟨x0,x1,x2⟩:=hB.three;have tok:=trivial))
   refine bodyPost_ret (v:=.tuple #[.agg (Ro k n A ks.length c),.bool false]) (by simp [results,results136,go_sem,d0,d1,d2]) rfl ⟨k,n,ks,A,c,false,(by rw [hst0.out];rfl),(by rw [hst0.out];rfl),rfl,by omega,by omega,?_,?_⟩
   ·exact ((((hr.rdp.below g2).setCell (by simp) _).setCell (by simp) _).setCell (by simp) _).mono (fun x hx=>by simpa using hx)
   ·exact bV g2
  ·obtain ⟨i,rfl⟩:∃i:Nat,mm=(i:Int):=⟨mm.toNat,by omega⟩;have hil:i<ks.length:=by
    have:=ha'.out;unfold aK at this
    unfold dB at hmm
    repeat' split at hmm
    all_goals (first|omega|(rename_i h;rcases h with rfl|rfl|rfl<;>simp_all<;>omega)|(simp_all;omega))
   have qm:decide ((i:Int)<0)=false:=decide_eq_false (by omega);obtain ⟨b,off,k',n',ks',A',c',rfl,hkj,hc1,hc2,hc3,hl',hr'⟩:=hr.at_ hil;have hlk:(i:Int)<(ks.length:Int):=by omega
   have hsz:=cQ (iP hil);have hsk:=hk'.out _ (iP hil);rw [hkj] at hsz hsk;simp only [Tm.size] at hsz
   have hsk':=aD hsk;have hsteq:dP (.mk k n ks)=((dP (.mk k' n' ks')).map (ks.set i ·)).map (Tm.mk k n):=by rw [dP,if_pos hx,hmm,if_neg hneg,Int.toNat_natCast,oU ks i hil,hkj]
   cases hho:dP (.mk k' n' ks') with
   | none=>
    rw [hho] at hsteq;have hst0:=aD (show dP (.mk k n ks)=none from hsteq);have hst:=aD hho;clear hx hmm hsteq hho hsk hkj;go_enter func136,ntmps136;go_wp2_with (first
     | (go_at_call 136;have _t:=tok2;refine (ih.out k' n' ks' A' c' _ (by omega) (by omega) hsk'.out (hr'.below g2)).mono ?_;rintro e w3 ⟨k3,n3,ks3,A3,c3,bb,hv3,hw3,rfl,hl3,hs3,hr3,hb3⟩;obtain rfl:bb=false:=(by rw [hw3,hst.out];rfl);replace hv3:=aD hv3;clear hw3;replace hB:=(hB.keep hb3).alloc (.cells (Ro k3 n3 A3 ks3.length c3) 25);replace hZ:=(hZ.keep hb3).alloc (.cells (Ro k3 n3 A3 ks3.length c3) 25);have g3:=(g2.trans (hb3.mono g2.size)).alloc (by have:=hb3.size;omega) (.cells (Ro k3 n3 A3 ks3.length c3) 25);have hr4:=hr3.alloc (.cells (Ro k3 n3 A3 ks3.length c3) 25);have hr5:=hr.below g3;have s3:=hb3.size;have hK:=aC w3 25 (Ro k3 n3 A3 ks3.length c3) rfl;obtain ⟨y0,y1,y2⟩:=hK.three;clear x0 x1 x2 d0 d1 d2 e0 e1 e2;obtain ⟨x0,x1,x2⟩:=hB.three;obtain ⟨d0,d1,d2,e0,e1,e2⟩:=bW hZ;clear tok2;have tok3:=trivial)
     | (go_at_call 145;have _t:=tok;refine (tI k _).mono ?_;rw [hmn.out];rintro e w2 ⟨rfl,hb2⟩;replace hB:=hB.keep hb2;replace hZ:=hZ.keep hb2;clear x0 x1 x2;obtain ⟨x0,x1,x2⟩:=hB.three;have s2:=hZ.lt;have g2:=g1.trans (hb2.mono g1.size);have hr2:=hr.below g2;obtain ⟨d0,d1,d2,e0,e1,e2⟩:=bW hZ;clear tok;obtain ⟨m1,m2,m3⟩:=yB g2 hc1 hc2 hc3;have tok2:=trivial)
     | (go_at_call 91;refine (eD k n ks _ c _ (by omega) ha'.out ((hr.alloc _).alloc _)).mono ?_;rw [hrd.out];rintro e w1 ⟨rfl,hb1⟩;have hB:=cU hb1;have hZ:=bH hb1;have g1:Bw w w1:=bS bw2 hb1;have s1:=hZ.lt;have hr1:=hr.below g1;obtain ⟨x0,x1,x2⟩:=hB.three;have tok:=trivial))
    refine bodyPost_ret (v:=.tuple #[.agg (Ro k n (some ⟨b,off,none⟩) ks.length c),.bool false]) (by simp [results,results136,go_sem,d0,d1,d2]) rfl ⟨k,n,ks,some ⟨b,off,none⟩,c,false,(by rw [hst0.out];rfl),(by rw [hst0.out];rfl),rfl,by omega,by omega,?_,?_⟩
    ·exact ((((hr.rdp.below g3).setCell (by simp) _).setCell (by simp) _).setCell (by simp) _).mono (fun x hx=>by simpa using hx)
    ·exact bV g3
   | some u=>
    obtain ⟨ku,nu,us⟩:=u;rw [hho] at hsteq;have hst0:=aD (show dP (.mk k n ks)=some (.mk k n (ks.set i (.mk ku nu us))) from hsteq);have hst:=aD hho;clear hx hmm hsteq hho hsk hkj;go_enter func136,ntmps136;go_wp2_with (first
     | (go_at_call 93;have _t:=tok3;refine (zX (p:=fun x=>w2.heap.size≤x∧x<w3.heap.size) k n ks _ c i k3 n3 ks3 A3 c3 (ks.set i (.mk k3 n3 ks3)) (by simp) (aMk ks i _) _ (by omega) hl3 hr5 (hrx.alloc _) (fun x hx=>by have:=hx.2;simp;omega)).mono ?_;rintro e w4 ⟨A4,c4,rfl,hl4,hr6,hb4⟩;replace hZ:=hZ.keep hb4;clear d0 d1 d2 e0 e1 e2;obtain ⟨d0,d1,d2,e0,e1,e2⟩:=bW hZ;have g4:=g3.trans (hb4.mono g3.size))
     | (go_at_call 136;have _t:=tok2;refine (ih.out k' n' ks' A' c' _ (by omega) (by omega) hsk'.out (hr'.below g2)).mono ?_;rintro e w3 ⟨k3,n3,ks3,A3,c3,bb,hv3,hw3,rfl,hl3,hs3,hr3,hb3⟩;obtain rfl:bb=true:=(by rw [hw3,hst.out];rfl);replace hv3:=aD hv3;clear hw3;replace hB:=(hB.keep hb3).alloc (.cells (Ro k3 n3 A3 ks3.length c3) 25);replace hZ:=(hZ.keep hb3).alloc (.cells (Ro k3 n3 A3 ks3.length c3) 25);have g3:=(g2.trans (hb3.mono g2.size)).alloc (by have:=hb3.size;omega) (.cells (Ro k3 n3 A3 ks3.length c3) 25);have hr4:=hr3.alloc (.cells (Ro k3 n3 A3 ks3.length c3) 25);have hr5:=hr.below g3;have s3:=hb3.size;have hK:=aC w3 25 (Ro k3 n3 A3 ks3.length c3) rfl;obtain ⟨y0,y1,y2⟩:=hK.three;clear x0 x1 x2 d0 d1 d2 e0 e1 e2;obtain ⟨x0,x1,x2⟩:=hB.three;obtain ⟨d0,d1,d2,e0,e1,e2⟩:=bW hZ;clear tok2;have tok3:=trivial;obtain ⟨rfl,rfl,rfl⟩:k3=ku∧n3=nu∧ks3=us:=(by have h:=hv3.out;rw [hst.out] at h;injection h with q1 q2 q3;exact ⟨q1,q2,q3⟩);have hrx:RdP (fun x=>w2.heap.size≤x∧x<w3.heap.size) w3 A3 0 ks3:=(hr3.lt_).mono (fun x hx=>⟨(by have h1:=hx.1;simpa using h1),hx.2⟩))
     | (go_at_call 145;have _t:=tok;refine (tI k _).mono ?_;rw [hmn.out];rintro e w2 ⟨rfl,hb2⟩;replace hB:=hB.keep hb2;replace hZ:=hZ.keep hb2;clear x0 x1 x2;obtain ⟨x0,x1,x2⟩:=hB.three;have s2:=hZ.lt;have g2:=g1.trans (hb2.mono g1.size);have hr2:=hr.below g2;obtain ⟨d0,d1,d2,e0,e1,e2⟩:=bW hZ;clear tok;obtain ⟨m1,m2,m3⟩:=yB g2 hc1 hc2 hc3;have tok2:=trivial)
     | (go_at_call 91;refine (eD k n ks _ c _ (by omega) ha'.out ((hr.alloc _).alloc _)).mono ?_;rw [hrd.out];rintro e w1 ⟨rfl,hb1⟩;have hB:=cU hb1;have hZ:=bH hb1;have g1:Bw w w1:=bS bw2 hb1;have s1:=hZ.lt;have hr1:=hr.below g1;obtain ⟨x0,x1,x2⟩:=hB.three;have tok:=trivial))
    have hsz2:=tB ks i (.mk k3 n3 ks3);rw [Tm.size] at hsz2;refine bodyPost_ret (v:=.tuple #[.agg #[.int .i64 k,.int .i64 n,.slice A4 (ks.set i (.mk k3 n3 ks3)).length c4],.bool true]) (by simp [results,results136,go_sem,d0,d1,d2]) rfl ⟨k,n,ks.set i (.mk k3 n3 ks3),A4,c4,true,(by rw [hst0.out];rfl),(by rw [hst0.out];rfl),rfl,by simp;omega,by omega,?_,?_⟩
    ·have hr7:=hr6.mono (q:=fun x=>w.heap.size+2≤x) (fun x hx=>hx.elim (fun h=>by have:=h.1;omega) (fun h=>by simp at h;omega));exact (((hr7.setCell (by simp) _).setCell (by simp) _).setCell (by simp) _).mono (fun x hx=>by simp;omega)
    ·exact bV g4
 ·have hq:(cH k ks==0)=false:=by simpa using hx
  have hc:=aD (fun w A c hr=>qA dN (d'+1) hd k n ks A c w hM hs'.out hx hr);obtain ⟨rr,hrr⟩:∃rr,cH k ks=rr:=⟨_,rfl⟩;rw [hrr] at hq;have hrd:=aD hrr;have hst:=aD (show dP (.mk k n ks)=some (gD (.mk k n ks)) from by rw [dP,if_neg hx]);clear hx hrr;go_enter func136,ntmps136;go_wp2_with (first
   | (go_at_call 92;have _t:=tok;refine (hc.out _ A c hr1).mono ?_;rintro e w2 ⟨k2,n2,ks2,hv2,⟨A2,c2,rfl,hl2,hr2,hb2⟩,hs2⟩;replace hv2:=aD hv2;replace hZ:=hZ.keep hb2;obtain ⟨d0,d1,d2,e0,e1,e2⟩:=bW hZ;have g2:=g1.trans (hb2.mono g1.size))
   | (go_at_call 91;refine (eD k n ks A c _ (by omega) ha'.out ((hr.alloc _).alloc _)).mono ?_;rw [hrd.out];rintro e w1 ⟨rfl,hb1⟩;have hB:=cU hb1;have hZ:=bH hb1;have g1:Bw w w1:=bS bw2 hb1;have s1:=hZ.lt;have hr1:=hr.below g1;obtain ⟨x0,x1,x2⟩:=hB.three;have tok:=trivial))
  refine bodyPost_ret (v:=.tuple #[.agg (Ro k2 n2 A2 ks2.length c2),.bool true]) (by simp [results,results136,go_sem,d0,d1,d2]) rfl ⟨k2,n2,ks2,A2,c2,true,(by rw [hst.out,hv2.out];rfl),(by rw [hst.out];rfl),rfl,hl2,by omega,?_,?_⟩
  ·exact ((((hr2.mono (q:=fun x=>w.heap.size+2≤x) (fun x hx=>hx.elim (fun h=>h.elim) (fun h=>by omega))).setCell (by simp) _).setCell (by simp) _).setCell (by simp) _).mono (fun x hx=>by simp;omega)
  ·exact bV g2
theorem aNt {t:Tm}{f:Nat}(h:dP t=none):qP f t=(some t,0):=by rw [qP,h]
theorem aMj {t u:Tm}(h:dP t=some u):qP 0 t=(none,1):=by rw [qP,h]
theorem aJn {t u:Tm}{f:Nat}(h:dP t=some u)(hv:aE u=false):qP (f+1) t=(none,2):=by rw [qP,h];simp [hv]
theorem aLg {t u:Tm}{f:Nat}(h:dP t=some u)(hv:aE u=true):qP (f+1) t=qP f u:=by rw [qP,h];simp [hv]
theorem zR (k n:Int)(ks:List Tm)(A:Option Addr)(c:Nat)(F:Nat)(hF:F≤1000)(w:World)(hv:aE (.mk k n ks)=true)(hl:ks.length≤9223372036854775807)(hr:Rd w A 0 ks) :
  Calls prog 117 #[.agg (Ro k n A ks.length c),.int .i64 F] w (aSb (qP F (.mk k n ks)) w):=by
 obtain ⟨R,hR⟩:∃R,qP F (.mk k n ks)=R:=⟨_,rfl⟩;rw [hR];replace hR:=aD hR;go_enter func117,ntmps117;go_wp2_with fail
 go_loopw [1] (fun fv wr=>∃(f:Nat) (k n:Int) (ks:List Tm) (A:Option Addr) (c:Nat),f≤F∧Hid (qP f (.mk k n ks)=R)∧fv = .int .i64 f∧aE (.mk k n ks)=true∧ks.length≤9223372036854775807∧Blk wr w.heap.size (Ro k n A ks.length c)∧Blk wr (w.heap.size+1) Zr∧RdP (fun b=>b<w.heap.size∨w.heap.size+2≤b) wr A 0 ks∧Bw w wr)
  (fun fv _ => (intOf fv).toNat)
 case atStart=>exact ⟨F,k,n,ks,A,c,pF _,hR,rfl,hv,hl,(aC _ _ _ rfl).alloc _,aC _ _ _ (by simp),((hr.rdp.alloc _).alloc _).mono (fun b hb=>.inl hb),bw2⟩
 case round=>
  clear hv hl hr hR;obtain ⟨f,k,n,ks,A,c,hf,hRf,rfl,hv,hl,hB,hZ,hrd,hb⟩:=hrel;have hsh:=aD (aW hv);have hM:=aJ hv;have hv':=aD hv;clear hv;obtain ⟨x0,x1,x2⟩:=hB.three;have lz0:=hZ.lt;have sb:=hb.size;cases hho:dP (.mk k n ks) with
  | none=>
   obtain rfl:R=(some (.mk k n ks),0):=by rw [← hRf.out,aNt hho]
   have hst:=aD hho;clear hho;go_wp2_with (first
    | (go_at_call 36;have _t:=tok;refine (eK _ k n ks A c _ (qN _) (by omega) hrd1.rd).mono ?_;rintro e w2 ⟨A3,c3,rfl,hl3,hf3,hb3⟩;replace hZ:=hZ.keep hb3;clear d0 d1 d2 e0 e1 e2;obtain ⟨d0,d1,d2,e0,e1,e2⟩:=bW hZ;have g2:=g1.trans (hb3.mono g1.size))
    | (go_at_call 136;refine (jI 30 k n ks A c _ (pF _) hM hsh.out hrd.rd).mono ?_;rintro e w1 ⟨k3,n3,ks3,A9,c9,bb,hv3,hw3,rfl,hl9,hs3,hr3,hb9⟩;obtain rfl:bb=false:=(by rw [hw3,hst.out];rfl);clear hv3 hw3;replace hB:=(hB.keep hb9).alloc (.cells (Ro k3 n3 A9 ks3.length c9) 25);replace hZ:=(hZ.keep hb9).alloc (.cells (Ro k3 n3 A9 ks3.length c9) 25);have g1:=(hb.trans (hb9.mono hb.size)).alloc (by have:=hb9.size;omega) (.cells (Ro k3 n3 A9 ks3.length c9) 25);have hrd1:=(hrd.below hb9).alloc (.cells (Ro k3 n3 A9 ks3.length c9) 25);clear x0 x1 x2;obtain ⟨x0,x1,x2⟩:=hB.three;obtain ⟨d0,d1,d2,e0,e1,e2⟩:=bW hZ;have s1:=g1.size;have s9:w.heap.size+2≤w1.heap.size:=(by have:=hb9.size;omega);have tok:=trivial))
   refine bodyPost_ret (v:=.tuple #[.agg (Ro k n A3 ks.length c3),.int .i64 0]) (by simp [results,results117,go_sem,d0,d1,d2]) rfl ⟨k,n,ks,A3,c3,rfl,rfl,hl,?_,?_⟩
   ·exact (Fresh.rdp (nM hf3)).mono (fun b hb=>by have:=hb.1;simp at this;omega)
   ·exact bV g2
  | some u=>
   obtain ⟨ku,nu,us⟩:=u;have hst:=aD hho;clear hho;have STEP:True:=trivial;cases f with
   | zero=>
    obtain rfl:R=(none,1):=by rw [← hRf.out,aMj hst.out]
    go_wp2_with (go_at_call 136;refine (jI 30 k n ks A c _ (pF _) hM hsh.out hrd.rd).mono ?_;rintro e w1 ⟨k3,n3,ks3,A3,c3,bb,hv3,hw3,rfl,hl3,hs3,hr3,hb3⟩;obtain rfl:bb=true:=(by rw [hw3,hst.out];rfl);obtain ⟨rfl,rfl,rfl⟩:k3=ku∧n3=nu∧ks3=us:=(by have h:=hv3;rw [hst.out] at h;injection h with q1 q2 q3;exact ⟨q1,q2,q3⟩);clear hv3 hw3;replace hB:=(hB.keep hb3).alloc (.cells (Ro k3 n3 A3 ks3.length c3) 25);replace hZ:=(hZ.keep hb3).alloc (.cells (Ro k3 n3 A3 ks3.length c3) 25);have s0:=hb3.size;have g1:=(hb.trans (hb3.mono hb.size)).alloc (by omega) (.cells (Ro k3 n3 A3 ks3.length c3) 25);have hr4:=(hr3.alloc (.cells (Ro k3 n3 A3 ks3.length c3) 25)).mono (q:=fun b=>w.heap.size+2≤b) (fun b hb=>by simp at hb;omega);have hK:=aC w1 25 (Ro k3 n3 A3 ks3.length c3) rfl;clear x0 x1 x2;obtain ⟨x0,x1,x2⟩:=hB.three;obtain ⟨y0,y1,y2⟩:=hK.three;obtain ⟨d0,d1,d2,e0,e1,e2⟩:=bW hZ;have s1:=g1.size;have tok:=trivial)
    refine bodyPost_ret (v:=.tuple #[.agg Zr,.int .i64 1]) (by simp [results,results117,go_sem,d0,d1,d2]) rfl ⟨0,0,[],none,0,rfl,rfl,by simp,RdP.nil,?_⟩;exact bV g1
   | succ f=>
    have qf:decide (((f+1:Nat):Int)<1)=false:=decide_eq_false (by omega);have qg:decide ((f:Int)+1<1)=false:=decide_eq_false (by omega);cases hvu:aE (.mk ku nu us) with
    | false=>
     obtain rfl:R=(none,2):=by rw [← hRf.out,aJn hst.out hvu]
     have hvv:=aD hvu;clear hvu;go_wp2_with (first
      | (go_at_call 21;have _t:=tok;refine (aU k3 n3 ks3 A3 c3 _ (by omega) hr4.rd).mono ?_;rw [hvv.out];rintro e w2 ⟨rfl,hb4⟩;replace hB:=hB.keep hb4;replace hZ:=hZ.keep hb4;replace hK:=hK.keep hb4;have g2:=g1.trans (hb4.mono g1.size);have hr5:=hr4.below hb4;clear x0 x1 x2 y0 y1 y2 d0 d1 d2 e0 e1 e2;obtain ⟨x0,x1,x2⟩:=hB.three;obtain ⟨y0,y1,y2⟩:=hK.three;obtain ⟨d0,d1,d2,e0,e1,e2⟩:=bW hZ;obtain ⟨z0,z1,z2⟩:=lO hB;have s2:=g2.size)
      | (go_at_call 136;refine (jI 30 k n ks A c _ (pF _) hM hsh.out hrd.rd).mono ?_;rintro e w1 ⟨k3,n3,ks3,A3,c3,bb,hv3,hw3,rfl,hl3,hs3,hr3,hb3⟩;obtain rfl:bb=true:=(by rw [hw3,hst.out];rfl);obtain ⟨rfl,rfl,rfl⟩:k3=ku∧n3=nu∧ks3=us:=(by have h:=hv3;rw [hst.out] at h;injection h with q1 q2 q3;exact ⟨q1,q2,q3⟩);clear hv3 hw3;replace hB:=(hB.keep hb3).alloc (.cells (Ro k3 n3 A3 ks3.length c3) 25);replace hZ:=(hZ.keep hb3).alloc (.cells (Ro k3 n3 A3 ks3.length c3) 25);have s0:=hb3.size;have g1:=(hb.trans (hb3.mono hb.size)).alloc (by omega) (.cells (Ro k3 n3 A3 ks3.length c3) 25);have hr4:=(hr3.alloc (.cells (Ro k3 n3 A3 ks3.length c3) 25)).mono (q:=fun b=>w.heap.size+2≤b) (fun b hb=>by simp at hb;omega);have hK:=aC w1 25 (Ro k3 n3 A3 ks3.length c3) rfl;clear x0 x1 x2;obtain ⟨x0,x1,x2⟩:=hB.three;obtain ⟨y0,y1,y2⟩:=hK.three;obtain ⟨d0,d1,d2,e0,e1,e2⟩:=bW hZ;have s1:=g1.size;have tok:=trivial))
     refine bodyPost_ret (v:=.tuple #[.agg Zr,.int .i64 2]) (by simp [results,results117,go_sem,d0,d1,d2]) rfl ⟨0,0,[],none,0,rfl,rfl,by simp,RdP.nil,?_⟩;exact bV g2
    | true=>
     have hRg:=aD (show qP f (.mk ku nu us)=R by rw [← hRf.out,aLg hst.out hvu]);have hvv:=aD hvu;clear hvu;go_wp2_with (first
      | (go_at_call 21;have _t:=tok;refine (aU k3 n3 ks3 A3 c3 _ (by omega) hr4.rd).mono ?_;rw [hvv.out];rintro e w2 ⟨rfl,hb4⟩;replace hB:=hB.keep hb4;replace hZ:=hZ.keep hb4;replace hK:=hK.keep hb4;have g2:=g1.trans (hb4.mono g1.size);have hr5:=hr4.below hb4;clear x0 x1 x2 y0 y1 y2 d0 d1 d2 e0 e1 e2;obtain ⟨x0,x1,x2⟩:=hB.three;obtain ⟨y0,y1,y2⟩:=hK.three;obtain ⟨d0,d1,d2,e0,e1,e2⟩:=bW hZ;obtain ⟨z0,z1,z2⟩:=lO hB;have s2:=g2.size)
      | (go_at_call 136;refine (jI 30 k n ks A c _ (pF _) hM hsh.out hrd.rd).mono ?_;rintro e w1 ⟨k3,n3,ks3,A3,c3,bb,hv3,hw3,rfl,hl3,hs3,hr3,hb3⟩;obtain rfl:bb=true:=(by rw [hw3,hst.out];rfl);obtain ⟨rfl,rfl,rfl⟩:k3=ku∧n3=nu∧ks3=us:=(by have h:=hv3;rw [hst.out] at h;injection h with q1 q2 q3;exact ⟨q1,q2,q3⟩);clear hv3 hw3;replace hB:=(hB.keep hb3).alloc (.cells (Ro k3 n3 A3 ks3.length c3) 25);replace hZ:=(hZ.keep hb3).alloc (.cells (Ro k3 n3 A3 ks3.length c3) 25);have s0:=hb3.size;have g1:=(hb.trans (hb3.mono hb.size)).alloc (by omega) (.cells (Ro k3 n3 A3 ks3.length c3) 25);have hr4:=(hr3.alloc (.cells (Ro k3 n3 A3 ks3.length c3) 25)).mono (q:=fun b=>w.heap.size+2≤b) (fun b hb=>by simp at hb;omega);have hK:=aC w1 25 (Ro k3 n3 A3 ks3.length c3) rfl;clear x0 x1 x2;obtain ⟨x0,x1,x2⟩:=hB.three;obtain ⟨y0,y1,y2⟩:=hK.three;obtain ⟨d0,d1,d2,e0,e1,e2⟩:=bW hZ;have s1:=g1.size;have tok:=trivial))
     refine ⟨⟨f,k3,n3,ks3,A3,c3,by omega,hRg,by go_num,hvv.out,hl3,((hB.set_ 0 _).set_ 1 _).set_ 2 _,((hZ.far (by simp) _).far (by simp) _).far (by simp) _,(((hr5.setCell (by simp) _).setCell (by simp) _).setCell (by simp) _).mono (fun b hb=>.inr hb),(bV g2)⟩,by first|(simp [intOf];done)|(simp [intOf];omega)⟩
theorem pY {B n:Nat}{w w':World}{v:Value}{xs:List Value}(h:w.ownsRow B 25 3 v n xs)(hk:∀g,v.ownBlock=some g→w'.heap[g]?=w.heap[g]?):w'.ownsRow B 25 3 v n xs:=by
 refine ⟨h.1,?_⟩;rcases h.2 with hn|⟨g,cap,cur,rfl,hb,hg,r⟩
 ·exact .inl hn
 ·exact .inr ⟨g,cap,cur,rfl,hb,(hk g rfl).trans hg,r⟩
def P2 (B:Nat)(E:Nat→Prop)(w:World)(v1 v2:Value)(b:Nat):Prop:=B≤b∧b<w.heap.size∧v1.ownBlock≠some b∧v2.ownBlock≠some b∧¬E b
structure Rows2 (B:Nat) (E:Nat→Prop) (w:World) (v1 v2:Value) (l r:List Tm):Prop where
 body:∃xs ys,w.ownsRow B 25 3 v1 l.length xs∧w.ownsRow B 25 3 v2 r.length ys∧RdX (P2 B E w v1 v2) w l xs∧RdX (P2 B E w v1 v2) w r ys
 apart:∀g,v1.ownBlock=some g→v2.ownBlock≠some g
 e1:∀g,v1.ownBlock=some g→¬E g
 e2:∀g,v2.ownBlock=some g→¬E g
section
variable {B:Nat}{E E':Nat→Prop}{w w':World}{v1 v2:Value}{l r:List Tm}
theorem Rows2.symm (h:Rows2 B E w v1 v2 l r):Rows2 B E w v2 v1 r l:=by
 obtain ⟨⟨xs,ys,h1,h2,h3,h4⟩,h5,h6,h7⟩:=h;have hp:∀b,P2 B E w v1 v2 b→P2 B E w v2 v1 b:=fun b hb=>⟨hb.1,hb.2.1,hb.2.2.2.1,hb.2.2.1,hb.2.2.2.2⟩
 exact ⟨⟨ys,xs,h2,h1,h4.keep hp fun _ _ _=>rfl,h3.keep hp fun _ _ _=>rfl⟩,fun g hg hg'=>h5 g hg' hg,h7,h6⟩
theorem Rows2.nil:Rows2 B E w (.slice none 0 0) (.slice none 0 0) [] []:=⟨⟨[],[],World.ownsRow_nil _ _ _ _,World.ownsRow_nil _ _ _ _,rfl,rfl⟩,fun g hg=>(by cases hg),fun g hg=>(by cases hg),fun g hg=>(by cases hg)⟩
theorem Rows2.own (h:Rows2 B E w v1 v2 l r):(∀g,v1.ownBlock=some g→B≤g∧g<w.heap.size)∧(∀g,v2.ownBlock=some g→B≤g∧g<w.heap.size):=by
 obtain ⟨⟨xs,ys,h1,h2,_⟩,_⟩:=h;exact ⟨fun g hg=>h1.lt g hg,fun g hg=>h2.lt g hg⟩
theorem Rows2.mono (h:Rows2 B E w v1 v2 l r)(he:∀b,b<w.heap.size→E' b→E b):Rows2 B E' w v1 v2 l r:=by
 have ho:=h.own;obtain ⟨⟨xs,ys,h1,h2,h3,h4⟩,h5,h6,h7⟩:=h;have hp:∀b,P2 B E w v1 v2 b→P2 B E' w v1 v2 b:=fun b hb=>⟨hb.1,hb.2.1,hb.2.2.1,hb.2.2.2.1,fun e=>hb.2.2.2.2 (he b hb.2.1 e)⟩
 exact ⟨⟨xs,ys,h1,h2,h3.keep hp fun _ _ _=>rfl,h4.keep hp fun _ _ _=>rfl⟩,h5,fun g hg e=>h6 g hg (he g (ho.1 g hg).2 e),fun g hg e=>h7 g hg (he g (ho.2 g hg).2 e)⟩
theorem Rows2.frame (h:Rows2 B E w v1 v2 l r)(hs:w.heap.size≤w'.heap.size)(hk:∀b,B≤b→b<w.heap.size→¬E b→w'.heap[b]?=w.heap[b]?):Rows2 B E w' v1 v2 l r:=by
 have ho:=h.own;obtain ⟨⟨xs,ys,h1,h2,h3,h4⟩,h5,h6,h7⟩:=h;have hp:∀b,P2 B E w v1 v2 b→P2 B E w' v1 v2 b:=fun b hb=>⟨hb.1,rH hb.2.1 hs,hb.2.2⟩
 exact ⟨⟨xs,ys,pY h1 fun g hg=>hk g (ho.1 g hg).1 (ho.1 g hg).2 (h6 g hg),pY h2 fun g hg=>hk g (ho.2 g hg).1 (ho.2 g hg).2 (h7 g hg),h3.keep hp fun b hb hl=>hk b hb.1 hl hb.2.2.2.2,h4.keep hp fun b hb hl=>hk b hb.1 hl hb.2.2.2.2⟩,h5,h6,h7⟩
theorem Rows2.below (h:Rows2 B E w v1 v2 l r)(hb:Bw w w'):Rows2 B E w' v1 v2 l r:=h.frame hb.size fun b _ hl _=>hb.block b hl
theorem Rows2.alloc (h:Rows2 B E w v1 v2 l r)(o:Obj):Rows2 B E (w.alloc o) v1 v2 l r:=h.below (bw1)
theorem Rows2.drew (h:Rows2 B E w v1 v2 l r):Rows2 B E w.drew v1 v2 l r:=h.below (fJ _ _).drew
theorem Rows2.setCell (h:Rows2 B E w v1 v2 l r){a:Addr}(ha:a.block<B∨E a.block∨w.heap.size≤a.block)(u:Value):Rows2 B E (w.setCell a u) v1 v2 l r:=h.frame (by simp) fun b hb hl he=>oB w a u b (by
 rcases ha with ha|ha|ha
 ·omega
 ·exact fun e=>he (e▸ha)
 ·omega)
theorem Rows2.grown {row:Option Nat}(h:Rows2 B E w v1 v2 l r)(hg:w.grownBy w' row)(hr:∀g,row=some g→g<B∨E g):Rows2 B E w' v1 v2 l r:=h.frame hg.size fun b hb hl he=>hg.block b hl (fun e=>by
 rcases hr b e.symm with h1|h1
 ·omega
 ·exact he h1)
theorem uE {p:Nat→Prop}{B n:Nat}{w:World}{v:Value}{ts:List Tm}{xs:List Value}(h1:w.ownsRow B 25 3 v ts.length xs)(h2:RdX p w ts xs)(hp:∀b,p b→B≤b):∃A c,v = .slice A ts.length c∧RdP (fun b=>B≤b) w A 0 ts:=by
 rcases h1.2 with ⟨rfl,h0⟩|⟨g,cap,cur,rfl,hb,hg,_,_,_,htk⟩
 ·have:ts=[]:=lEn h0;subst this;exact ⟨none,0,rfl,RdP.nil⟩
 ·refine ⟨_,_,rfl,RdX.rdp hb (h2.keep hp fun _ _ _=>rfl) fun j u hu=>?_⟩;rw [show 0+0*3+j=j by omega,cell_of_row w g j cur 25 (0,0) hg];rw [← htk,List.getElem?_take] at hu;split at hu
  ·simpa using hu
  ·cases hu
theorem Rows2.rd (h:Rows2 B E w v1 v2 l r):∃A1 c1 A2 c2,v1 = .slice A1 l.length c1∧v2 = .slice A2 r.length c2∧RdP (fun b=>B≤b) w A1 0 l∧RdP (fun b=>B≤b) w A2 0 r:=by
 obtain ⟨⟨xs,ys,h1,h2,h3,h4⟩,h5,_⟩:=h;obtain ⟨A1,c1,e1,r1⟩:=uE (n:=0) h1 h3 fun b hb=>hb.1
 obtain ⟨A2,c2,e2,r2⟩:=uE (n:=0) h2 h4 fun b hb=>hb.1
 exact ⟨A1,c1,A2,c2,e1,e2,r1,r2⟩
theorem RdX.take {p:Nat→Prop}{w:World}{us:List Tm}:∀{ts:List Tm} {xs:List Value},RdX p w (ts++us) xs→RdX p w ts (xs.take (ts.length*3))
 | [],xs,h=>by simp [RdX]
 | .mk k n ks::ts,xs,h=>by
  obtain ⟨A,c,ys,rfl,hl,hr,hx⟩:=h;refine ⟨A,c,ys.take (ts.length*3),?_,hl,hr,hx.take⟩;rw [List.length_cons,Nat.succ_mul];simp [List.take]
theorem sL {n m c:Nat}{A:Option Addr}{xs:List Value}(h:w.ownsRow B 25 3 (.slice A n c) n xs)(hm:m≤n):w.ownsRow B 25 3 (.slice A m c) m (xs.take (m*3)):=by
 refine ⟨by rw [List.length_take,h.1];omega,?_⟩;rcases h.2 with ⟨e,h0⟩|⟨g,cap,cur,e,hb,hg,h1,h2,h3,h4⟩
 ·injection e with e1 e2 e3;subst e1 e3;obtain rfl:m=0:=by omega
  exact .inl ⟨rfl,rfl⟩
 ·injection e with e1 e2 e3;subst e1 e3;exact .inr ⟨g,c,cur,rfl,hb,hg,by omega,h2,h3,by rw [← h4,List.take_take,Nat.min_eq_left (by omega)]⟩
theorem Rows2.take {A1 A2:Option Addr}{c1 c2:Nat}{m1 m2:List Tm}(h:Rows2 B E w (.slice A1 (l++m1).length c1) (.slice A2 (r++m2).length c2) (l++m1) (r++m2)):Rows2 B E w (.slice A1 l.length c1) (.slice A2 r.length c2) l r:=by
 obtain ⟨⟨xs,ys,h1,h2,h3,h4⟩,h5,h6,h7⟩:=h;have e1:∀n m,(Value.slice A1 n c1).ownBlock=(Value.slice A1 m c1).ownBlock:=fun n m=>by cases A1<;>rfl
 have e2:∀n m,(Value.slice A2 n c2).ownBlock=(Value.slice A2 m c2).ownBlock:=fun n m=>by cases A2<;>rfl
 have hp:∀b,P2 B E w (.slice A1 (l++m1).length c1) (.slice A2 (r++m2).length c2) b→P2 B E w (.slice A1 l.length c1) (.slice A2 r.length c2) b:=fun b hb=>⟨hb.1,hb.2.1,by rw [e1 _ (l++m1).length];exact hb.2.2.1,by rw [e2 _ (r++m2).length];exact hb.2.2.2.1,hb.2.2.2.2⟩
 refine ⟨⟨_,_,sL h1 (by simp),sL h2 (by simp),(h3.take).keep hp fun _ _ _=>rfl,(h4.take).keep hp fun _ _ _=>rfl⟩,fun g hg hg'=>h5 g ?_ ?_,fun g hg=>h6 g ?_,fun g hg=>h7 g ?_⟩
 ·rw [e1 _ l.length];exact hg
 ·rw [e2 _ r.length];exact hg'
 ·rw [e1 _ l.length];exact hg
 ·rw [e2 _ r.length];exact hg
end
end Go.Proofs.YtajjhldcjikkpaaGreat
