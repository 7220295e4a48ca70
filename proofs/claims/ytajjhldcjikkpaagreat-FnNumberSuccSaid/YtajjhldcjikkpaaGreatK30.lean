/- Parts of the proof. No condition. -/
import Derived.Test.YtajjhldcjikkpaaGreatK28
import Derived.Test.YtajjhldcjikkpaaGreatK29
open Go.Proofs.Tryz
namespace Go.Proofs.YtajjhldcjikkpaaGreat
open Go.RowKit
set_option maxHeartbeats 16000000
set_option maxRecDepth 100000
set_option linter.unusedSimpArgs false
set_option linter.unusedVariables false
theorem rZ (bs:List Int)(A:Option Addr)(c:Nat)(w:World)(hl:bs.length≤9223372036854775807)(hc:bs.length≤c)(hr:RdY w A bs) :
  Calls prog 3 #[.slice A bs.length c] w fun e w'=>e = .returned (.bool true)∧Bw w w':=by
 by_cases hbig:1048576<bs.length
 ·go_enter func3,ntmps3;go_wp2_with fail
  go_ret
  exact ⟨rfl,fJ _ _⟩
 ·go_enter func3,ntmps3;go_wp2_with (go_at_call 5;refine (aGm bs A c _ hl hc hr).mono ?_;rintro e w1 ⟨k,n,ks,A1,c1,rfl,hlk,hsk,hT,hrk,hb1⟩)
  refine gX ?_;intro w2 hw2;have hX:Blk w2 w1.heap.size (Ro k n A1 ks.length c1):=by rw [hw2];exact aC _ _ _ rfl
  have rk:Rd w2 A1 0 ks:=by rw [hw2];exact hrk.alloc _
  have gg:Bw w w2:=by rw [hw2];exact hb1.alloc hb1.size _
  clear hw2;obtain ⟨x0,x1,x2⟩:=hX.three;obtain ⟨N,co,hco⟩:=hT.code;have hI:=aD (fun (w:World) (hra:Rd w A1 0 ks)=>tQ N co k n ks A1 c1 w hco (by omega) hlk hra);have hS:=aD (fun (w:World) (hra:Rd w A1 0 ks)=>aCo N co k n ks A1 c1 w hco (by omega) hlk hra);replace hT:=aD hT;have hvv:=aD (fun h:co=0=>sO (t:=.mk k n ks) (N:=N+1) (by rw [← h];exact hco));obtain ⟨⟨x,cc⟩,hxc⟩:∃y,cnC co (.mk k n ks)=y:=⟨_,rfl⟩;rw [hxc] at hI hS;have hco':=aD hco;clear hco;by_cases hcc:cc=0
  ·subst hcc;obtain ⟨hc0,j,hj,rfl,hn,hvj⟩:=aQw hvv.out hxc;subst hc0;by_cases hj20:j<20
   ·obtain ⟨co2,hco2,h2⟩:=aUr hco'.out hn hj20;have jq:decide ((20:Int)≤(j:Int))=false:=decide_eq_false (by omega);have jq':decide (20≤j)=false:=decide_eq_false (by omega);have hI2:=aD (fun (g:Option Addr) (w:World) (hra:Rd w g 0 [.mk k n ks])=>tQ (N+1) co2 8 0 [.mk k n ks] g 1 w hco2 (by simp only [aH,Tm.size];omega) (by simp) hra);clear hxc hn hvj;rcases h2 with h2|h2|h2
    ·skip
     rw [h2] at hI2;clear h2 hco2;go_wp2_with (first
      | (go_at_call 6;have _t:=tok4;refine (hI2.out _ _ (rO (aC _ 25 (Ro k n A1 ks.length c1) rfl) hlk (rk.alloc _))).mono ?_;rintro e w5 ⟨rfl,hb5⟩;replace gg:=(gg.alloc gg.size (.cells (Ro k n A1 ks.length c1) 25)).trans (hb5.mono (by have:=gg.size;simp;omega));clear tok4)
      | (go_at_call 7;have _t:=tok3;refine (hS.out _ rk).mono ?_;rintro e w4 ⟨rfl,hb4⟩;replace hX:=hX.keep hb4;clear x0 x1 x2 tok3;obtain ⟨x0,x1,x2⟩:=hX.three;replace gg:=gg.trans (hb4.mono gg.size);replace rk:=rk.below hb4;have tok4:=trivial)
      | (go_at_call 6;refine (hI.out _ rk).mono ?_;rintro e w3 ⟨rfl,hb3⟩;replace hX:=hX.keep hb3;clear x0 x1 x2;obtain ⟨x0,x1,x2⟩:=hX.three;replace gg:=gg.trans (hb3.mono gg.size);replace rk:=rk.below hb3;have tok3:=trivial))
     go_ret
     exact ⟨rfl,gg⟩
    ·skip
     rw [h2] at hI2;clear h2 hco2;go_wp2_with (first
      | (go_at_call 6;have _t:=tok4;refine (hI2.out _ _ (rO (aC _ 25 (Ro k n A1 ks.length c1) rfl) hlk (rk.alloc _))).mono ?_;rintro e w5 ⟨rfl,hb5⟩;replace gg:=(gg.alloc gg.size (.cells (Ro k n A1 ks.length c1) 25)).trans (hb5.mono (by have:=gg.size;simp;omega));clear tok4)
      | (go_at_call 7;have _t:=tok3;refine (hS.out _ rk).mono ?_;rintro e w4 ⟨rfl,hb4⟩;replace hX:=hX.keep hb4;clear x0 x1 x2 tok3;obtain ⟨x0,x1,x2⟩:=hX.three;replace gg:=gg.trans (hb4.mono gg.size);replace rk:=rk.below hb4;have tok4:=trivial)
      | (go_at_call 6;refine (hI.out _ rk).mono ?_;rintro e w3 ⟨rfl,hb3⟩;replace hX:=hX.keep hb3;clear x0 x1 x2;obtain ⟨x0,x1,x2⟩:=hX.three;replace gg:=gg.trans (hb3.mono gg.size);replace rk:=rk.below hb3;have tok3:=trivial))
     go_ret
     exact ⟨rfl,gg⟩
    ·skip
     rw [h2] at hI2;clear h2 hco2;go_wp2_with (first
      | (go_at_call 6;have _t:=tok4;refine (hI2.out _ _ (rO (aC _ 25 (Ro k n A1 ks.length c1) rfl) hlk (rk.alloc _))).mono ?_;rintro e w5 ⟨rfl,hb5⟩;replace gg:=(gg.alloc gg.size (.cells (Ro k n A1 ks.length c1) 25)).trans (hb5.mono (by have:=gg.size;simp;omega));clear tok4)
      | (go_at_call 7;have _t:=tok3;refine (hS.out _ rk).mono ?_;rintro e w4 ⟨rfl,hb4⟩;replace hX:=hX.keep hb4;clear x0 x1 x2 tok3;obtain ⟨x0,x1,x2⟩:=hX.three;replace gg:=gg.trans (hb4.mono gg.size);replace rk:=rk.below hb4;have tok4:=trivial)
      | (go_at_call 6;refine (hI.out _ rk).mono ?_;rintro e w3 ⟨rfl,hb3⟩;replace hX:=hX.keep hb3;clear x0 x1 x2;obtain ⟨x0,x1,x2⟩:=hX.three;replace gg:=gg.trans (hb3.mono gg.size);replace rk:=rk.below hb3;have tok3:=trivial))
     go_ret
     exact ⟨rfl,gg⟩
   ·have jq:decide ((20:Int)≤(j:Int))=true:=decide_eq_true (by omega);have jq':decide (20≤j)=true:=decide_eq_true (by omega);clear hxc hn hvj hj20;go_wp2_with (first
     | (go_at_call 7;have _t:=tok3;refine (hS.out _ rk).mono ?_;rintro e w4 ⟨rfl,hb4⟩;replace hX:=hX.keep hb4;clear x0 x1 x2 tok3;obtain ⟨x0,x1,x2⟩:=hX.three;replace gg:=gg.trans (hb4.mono gg.size);replace rk:=rk.below hb4;have tok4:=trivial)
     | (go_at_call 6;refine (hI.out _ rk).mono ?_;rintro e w3 ⟨rfl,hb3⟩;replace hX:=hX.keep hb3;clear x0 x1 x2;obtain ⟨x0,x1,x2⟩:=hX.three;replace gg:=gg.trans (hb3.mono gg.size);replace rk:=rk.below hb3;have tok3:=trivial))
    go_ret
    exact ⟨rfl,gg⟩
  ·have hcq:(cc != 0)=true:=bne_iff_ne.2 hcc;clear hcc hxc;go_wp2_with (first
    | (go_at_call 7;have _t:=tok3;refine (hS.out _ rk).mono ?_;rintro e w4 ⟨rfl,hb4⟩;replace hX:=hX.keep hb4;clear x0 x1 x2 tok3;obtain ⟨x0,x1,x2⟩:=hX.three;replace gg:=gg.trans (hb4.mono gg.size);replace rk:=rk.below hb4;have tok4:=trivial)
    | (go_at_call 6;refine (hI.out _ rk).mono ?_;rintro e w3 ⟨rfl,hb3⟩;replace hX:=hX.keep hb3;clear x0 x1 x2;obtain ⟨x0,x1,x2⟩:=hX.three;replace gg:=gg.trans (hb3.mono gg.size);replace rk:=rk.below hb3;have tok3:=trivial))
   go_ret
   exact ⟨rfl,gg⟩
end Go.Proofs.YtajjhldcjikkpaaGreat
