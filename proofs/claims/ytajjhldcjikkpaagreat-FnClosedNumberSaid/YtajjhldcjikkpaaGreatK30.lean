/- Parts of the proof. No condition. -/
import Derived.Test.YtajjhldcjikkpaaGreatK28
import Derived.Test.YtajjhldcjikkpaaGreatK29
open Go.Proofs.Tryz
namespace Go.Proofs.YtajjhldcjikkpaaGreat
open Go.RowKit
set_option maxHeartbeats 16000000
set_option maxRecDepth 100000
set_option linter.all false
theorem pX (bs:List Int)(A:Option Addr)(c:Nat)(ms:List Int)(M:Option Addr)(cm:Nat)(w:World)(hl:bs.length<=9223372036854775807)(hc:bs.length<=c)(hr:RdY w A bs)(hlm:ms.length<=9223372036854775807)(hcm:ms.length<=cm)(hrm:RdY w M ms) :
  Calls prog 4 #[.slice A bs.length c,.slice M ms.length cm] w λ e w'=>e = .returned (.bool true)/\Bw w w':=by
 by_cases hbig:1048576<bs.length
 ·go_enter func4,ntmps4;go_wp2_with fail
  go_ret
  exact ⟨rfl,fG _ _⟩
 ·by_cases hbig2:1048576<ms.length
  ·go_enter func4,ntmps4;go_wp2_with fail
   go_ret
   exact ⟨rfl,fG _ _⟩
  ·go_enter func4,ntmps4;go_wp2_with (go_at_call 5;refine (aFn bs A c _ hl hc hr).mono ?_;rintro e w1 ⟨k,n,ks,A1,c1,rfl,hlk,hsk,hT,hrk,hb1⟩)
   refine gY ?_;intro w2 hw2;have hX:Blk w2 w1.heap.size (Ro k n A1 ks.length c1):=by rw [hw2];exact aC _ _ _ rfl
   have rk:Rd w2 A1 0 ks:=by rw [hw2];exact hrk.alloc _
   have gg:Bw w w2:=by rw [hw2];exact hb1.alloc hb1.size _
   clear hw2;obtain ⟨x0,x1,x2⟩:=hX.three;obtain ⟨N,co,hco⟩:=hT.code;have hI:=aD (λ (w:World) (hra:Rd w A1 0 ks)=>aCx N co k n ks A1 c1 w hco (by omega) hlk hra);have hS:=aD (λ (w:World) (hra:Rd w A1 0 ks)=>aEd N co k n ks A1 c1 w hco (by omega) hlk hra);replace hT:=aD hT;have hvv:=aD (λ h:co=0=>pB (t:=.mk k n ks) (N:=N+1) (by rw [<- h];exact hco));obtain ⟨⟨x,cc⟩,hxc⟩:∃y,cnC co (.mk k n ks)=y:=⟨_,rfl⟩;rw [hxc] at hI hS;have hco':=aD hco;clear hco;by_cases hcc:cc=0
   ·subst hcc;obtain ⟨hc0,j,hj,rfl,hn,hvj⟩:=aRc hvv.out hxc;subst hc0;obtain ⟨y,hy,hyv⟩:∃y:Nat,y<=20/\y=(j+1+ms.length % 5) % 21:=⟨_,by omega,rfl⟩;have hyn:y≠j:=by omega
    obtain ⟨hmf,hv1,hcv1,hcv2⟩:=aPi hco'.out hn hj hy hyn;have hH:=aD (And.intro hmf (And.intro hv1 (And.intro hcv1 hcv2)));replace hyv:=aD hyv;clear hmf hv1 hcv1 hcv2 hxc hn hvj hyn;go_wp2_with (first
     | (go_at_call 8;have _t:=tok4;refine (rV j hj _).mono ?_;rintro e w5 ⟨A5,c5,rfl,hl5,hr5,hb5⟩;rename_i wz;replace hX:=hX.keep hb5;clear x0 x1 x2 tok4;obtain ⟨x0,x1,x2⟩:=hX.three;replace gg:=gg.trans (hb5.mono gg.size);replace rk:=rk.below hb5;have tok5:=trivial)
     | (go_at_call 7;have _t:=tok3;refine (hS.out _ rk).mono ?_;rintro e w4 ⟨rfl,hb4⟩;replace hX:=hX.keep hb4;clear x0 x1 x2 tok3;obtain ⟨x0,x1,x2⟩:=hX.three;replace gg:=gg.trans (hb4.mono gg.size);replace rk:=rk.below hb4;have tok4:=trivial)
     | (go_at_call 6;refine (hI.out _ rk).mono ?_;rintro e w3 ⟨rfl,hb3⟩;replace hX:=hX.keep hb3;clear x0 x1 x2;obtain ⟨x0,x1,x2⟩:=hX.three;replace gg:=gg.trans (hb3.mono gg.size);replace rk:=rk.below hb3;have tok3:=trivial))
    have hq:((j:Int)+1+(ms.length:Int) % 5) % 21=(y:Int):=by rw [hyv.out];omega
    rw [hq];refine (rV y hy _).mono ?_;rintro e w6 ⟨A6,c6,rfl,hl6,hr6,hb6⟩;go_upto_region 10 with fail
    refine aN ?_;intro w7 hw7;have RJ:Blk w7 w5.heap.size #[.int .i64 (cR j).k,.int .i64 0,.slice A5 (cR j).ks.length c5]:=by rw [hw7];exact ((aC w5 25 #[.int .i64 (cR j).k,.int .i64 0,.slice A5 (cR j).ks.length c5] rfl).keep hb6).alloc _
    have RY:Blk w7 w6.heap.size #[.int .i64 (cR y).k,.int .i64 0,.slice A6 (cR y).ks.length c6]:=by rw [hw7];exact aC w6 25 _ rfl
    have b56:Bw w5 w6:=bQ bw1 hb6;have b57:Bw w5 w7:=by rw [hw7];exact b56.alloc b56.size _
    have rz:Rd w7 A6 0 (cR y).ks:=by rw [hw7];exact hr6.alloc _
    clear hw7;have rj:=hr5.below b57;replace rk:=rk.below b57;have RX:=hX.keep b57;replace gg:=gg.trans (b57.mono gg.size);clear hX x0 x1 x2 hl5 hl6 hr5 hr6 hb6 hb5 b56 b57 hb3 hb4 hq;obtain ⟨x0,x1,x2⟩:=RX.three;obtain ⟨u0,u1,u2⟩:=RJ.three;obtain ⟨v0,v1,v2⟩:=RY.three;have hej:=aD (show cR j = .mk (cR j).k 0 (cR j).ks by have:=aCu (cR j);rw [aLj] at this;exact this);have hey:=aD (show cR y = .mk (cR y).k 0 (cR y).ks by have:=aCu (cR y);rw [aLj] at this;exact this);have M9:=aD (λ (w:World) (hra:Rd w A1 0 ks)=>show Calls prog 9 #[.agg (Ro k n A1 ks.length c1)] w λ e w'=>e = .returned (.int .i64 0)/\Bw w w' by have:=aBe k n ks A1 c1 w (by omega) hra;rw [if_pos hH.out.2.1,hH.out.1] at this;exact this);have MJ:=aD (λ (w:World) (hra:Rd w A1 0 ks) (hrb:Rd w A5 0 (cR j).ks)=>show Calls prog 10 #[.agg (Ro k n A1 ks.length c1),.agg #[.int .i64 (cR j).k,.int .i64 0,.slice A5 (cR j).ks.length c5],.int .i64 200] w λ e w'=>e = .returned (.int .i64 1)/\Bw w w' by have:=pL k n ks A1 c1 (cR j).k 0 (cR j).ks A5 c5 200 w (by omega) hH.out.2.1 (by rw [<- hej.out];exact nB hj) hra hrb;rw [<- hej.out,hH.out.2.2.1] at this;exact this)
    have MY:=aD (λ (w:World) (hra:Rd w A1 0 ks) (hrb:Rd w A6 0 (cR y).ks)=>show Calls prog 10 #[.agg (Ro k n A1 ks.length c1),.agg #[.int .i64 (cR y).k,.int .i64 0,.slice A6 (cR y).ks.length c6],.int .i64 200] w λ e w'=>e = .returned (.int .i64 2)/\Bw w w' by have:=pL k n ks A1 c1 (cR y).k 0 (cR y).ks A6 c6 200 w (by omega) hH.out.2.1 (by rw [<- hey.out];exact nB hy) hra hrb;rw [<- hey.out,hH.out.2.2.2] at this;exact this);have tok7:=trivial;go_wp2_with (first
     | (go_at_call 10;have _t:=tok9;refine (MY.out _ rk rz).mono ?_;rintro e wc ⟨rfl,hbc⟩;replace gg:=gg.trans (hbc.mono gg.size);clear tok9)
     | (go_at_call 10;have _t:=tok8;refine (MJ.out _ rk rj).mono ?_;rintro e wb ⟨rfl,hbb⟩;replace gg:=gg.trans (hbb.mono gg.size);replace rk:=rk.below hbb;replace rz:=rz.below hbb;replace RX:=RX.keep hbb;replace RY:=RY.keep hbb;clear x0 x1 x2 u0 u1 u2 v0 v1 v2 tok8;obtain ⟨x0,x1,x2⟩:=RX.three;obtain ⟨v0,v1,v2⟩:=RY.three;have tok9:=trivial)
     | (go_at_call 9;have _t:=tok7;refine (M9.out _ rk).mono ?_;rintro e wa ⟨rfl,hba⟩;replace gg:=gg.trans (hba.mono gg.size);replace rk:=rk.below hba;replace rz:=rz.below hba;replace rj:=rj.below hba;replace RX:=RX.keep hba;replace RY:=RY.keep hba;replace RJ:=RJ.keep hba;clear x0 x1 x2 u0 u1 u2 v0 v1 v2 tok7;obtain ⟨x0,x1,x2⟩:=RX.three;obtain ⟨u0,u1,u2⟩:=RJ.three;obtain ⟨v0,v1,v2⟩:=RY.three;have tok8:=trivial))
    go_ret
    exact ⟨rfl,gg⟩
   ·have hcq:(cc != 0)=true:=bne_iff_ne.2 hcc;clear hcc hxc;go_wp2_with (first
     | (go_at_call 7;have _t:=tok3;refine (hS.out _ rk).mono ?_;rintro e w4 ⟨rfl,hb4⟩;replace hX:=hX.keep hb4;clear x0 x1 x2 tok3;obtain ⟨x0,x1,x2⟩:=hX.three;replace gg:=gg.trans (hb4.mono gg.size);replace rk:=rk.below hb4;have tok4:=trivial)
     | (go_at_call 6;refine (hI.out _ rk).mono ?_;rintro e w3 ⟨rfl,hb3⟩;replace hX:=hX.keep hb3;clear x0 x1 x2;obtain ⟨x0,x1,x2⟩:=hX.three;replace gg:=gg.trans (hb3.mono gg.size);replace rk:=rk.below hb3;have tok3:=trivial))
    go_ret
    exact ⟨rfl,gg⟩
end Go.Proofs.YtajjhldcjikkpaaGreat
