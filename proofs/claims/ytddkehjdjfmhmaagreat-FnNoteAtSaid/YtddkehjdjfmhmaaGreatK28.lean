/- Parts of the proof. No condition. -/
import Derived.Test.YtddkehjdjfmhmaaGreatK26
import Derived.Test.YtddkehjdjfmhmaaGreatK27
open Go.Proofs.Tryz
namespace Go.Proofs.YtddkehjdjfmhmaaGreat
open Go.RowKit
set_option maxHeartbeats 16000000
set_option maxRecDepth 100000
set_option linter.unusedSimpArgs false
set_option linter.unusedVariables false
def aGy (w:World)(e:Ending)(w':World):Prop:=
 ∃(k n:Int) (ks:List Tm) (A:Option Addr) (c:Nat) (ns:List Tm) (D:Option Addr) (dc:Nat) (xs:List Int) (P:Option Addr) (cp:Nat),e = .returned (.tuple #[.agg (Ro k n A ks.length c),.slice D ns.length dc,.slice P xs.length cp])∧
  aE (.mk k n ks)=true∧Hid (∀u,u∈ns→aE u=true)∧ns.length≤401∧xs.length≤401∧RdI w' P xs∧Rd w' A 0 ks∧Rd w' D 0 ns∧Bw w w'∧ns.length≤dc∧Hid (∃(ctx:List Tm) (N:Nat) (R:Int × List Tm),mQ ctx (.mk k n ks)∧anR N ctx (.mk k n ks)=some R∧(ns=R.2∨ns=R.2.tail))
theorem aLx {N:Nat}{ctx:List Tm}{t:Tm}{R:Int × List Tm}(h:anR N ctx t=some R)(hv:aE t=true):(∀u,u∈R.2→aE u=true)∧R.2.length≤401:=by
 unfold anR at h
 have hz:=cF hv;have nil:∀c:Int,(∀u,u∈(Prod.mk c ([]:List Tm)).2→aE u=true)∧(Prod.mk c ([]:List Tm)).2.length≤401:=fun c=>And.intro (fun u (hu:u∈[])=>absurd hu (List.not_mem_nil)) (Nat.zero_le _)
 split at h
 ·cases h
 ·injection h with h;subst h;exact nil _
 ·split at h
  ·cases h
  ·injection h with h;subst h;exact nil _
  ·rename_i ns hn
   injection h with h;subst h;have:=(fK N).1 _ _ _ hn;exact ⟨this.2,by have:=this.1;simp only;omega⟩
theorem aGw {cx:List Tm}{t:Tm}(h:mQ cx t):aG cx≤1000:=by
 rcases h with ⟨m,hm,rfl,-⟩|⟨us,h,-⟩
 ·rcases m with _|_|_|m
  ·decide
  ·decide
  ·decide
  ·omega
 ·rcases h with ⟨rfl,-⟩|⟨rfl,-⟩|⟨rfl,-⟩|⟨rfl,-⟩<;>decide
theorem jU {w w1 w2:World}{r:Nat}(h:Bw w w1)(g:w1.grownBy w2 (some r))(hr:w.heap.size≤r):Bw w w2:=
 ⟨g.os.trans h.os,g.tape.trans h.tape,g.output.trans h.output,Nat.le_trans h.size g.size,fun i hi=>(g.block i (kT hi h.size) (fun e=>by injection e;omega)).trans (h.block i hi)⟩
theorem RdI.set3 {w:World}{A:Option Addr}{xs:List Int}(h:RdI w A xs){g:Nat}(hn:∀a,A=some a→a.block≠g)(o:Nat)(u:Value):RdI (w.setCell ⟨g,o,none⟩ u) A xs:=fun j hj=>by
 obtain ⟨b,off,hA,hc⟩:=h j hj;exact ⟨b,off,hA,(World.cell?_of_block (w:=w) (a:=⟨b,off+j,none⟩) (lR w ⟨g,o,none⟩ u b (hn _ hA))).trans hc⟩
def K2 (W:World)(y z:Nat)(w':World):Prop:=W.heap.size≤w'.heap.size∧∀b,b<W.heap.size→b≠y→b≠z→w'.heap[b]?=W.heap[b]?
theorem K2.of {W w':World}{y z:Nat}(h:W.grownBy w' (some y)):K2 W y z w':=⟨h.size,fun b hb hy _=>h.block b hb (fun e=>hy (by injection e))⟩
theorem K2.set {W w':World}{y z:Nat}(h:K2 W y z w')(o:Nat)(v:Value):K2 W y z (w'.setCell ⟨z,o,none⟩ v):=⟨by simp;exact h.1,fun b hb hy hz=>(lR _ ⟨z,o,none⟩ _ b hz).trans (h.2 b hb hy hz)⟩
theorem K2.cell {W w':World}{y z b o:Nat}{v:Value}(h:K2 W y z w')(hc:W.cell? ⟨b,o,none⟩=some v)(hy:b≠y)(hz:b≠z):w'.cell? ⟨b,o,none⟩=some v:=by
 have hb:=jN _ _ hc;rw [← hc];simp only [World.cell?,h.2 b hb hy hz]
theorem rdp_shift {p:Nat→Prop}{w:World}{b off:Nat}:(∀t i,RdPC p w b off (i+1) t→RdPC p w b (off+3) i t)∧(∀ts i,RdP p w (some ⟨b,off,none⟩) (i+1) ts→RdP p w (some ⟨b,off+3,none⟩) i ts):=by
 have h1:∀t i,RdPC p w b off (i+1) t→RdPC p w b (off+3) i t:=fun t i h=>by
  obtain ⟨k,n,ks⟩:=t;rw [RdPC.iff] at h⊢;rw [show off+3+i*3=off+(i+1)*3 from by omega];exact h
 refine ⟨h1,fun ts=>?_⟩;induction ts with
 | nil=>intro i h;exact RdP.nil
 | cons t ts ih=>
  intro i h;rw [RdP.cons_iff] at h⊢;obtain ⟨⟨b1,o1,hA,hc⟩,h2⟩:=h;injection hA with hA;injection hA with e1 e2;subst e1 e2;exact ⟨⟨b,off+3,rfl,h1 _ _ hc⟩,ih _ h2⟩
theorem RdP.tail3 {p:Nat→Prop}{w:World}{A:Option Addr}{t:Tm}{ts:List Tm}(h:RdP p w A 0 (t::ts)):∃b off,A=some ⟨b,off,none⟩∧RdP p w (some ⟨b,off+3,none⟩) 0 ts:=by
 obtain ⟨⟨b,off,hA,hc⟩,h2⟩:=RdP.cons_iff.1 h;subst hA;exact ⟨b,off,rfl,rdp_shift.2 _ _ h2⟩
theorem PartR.capR {lo:Nat→Prop}{B:Nat}{w:World}{A:Option Addr}{n c:Nat}{ts:List Tm}(h:PartR lo B w (.slice A n c) ts):ts.length≤c:=by
 obtain ⟨xs,h1,_⟩:=h;rcases h1.2 with ⟨e,h0⟩|⟨g,cap,cur,e,hb,hg,hn,_⟩
 ·omega
 ·injection e with e1 e2 e3;omega
theorem yN (bs:List Int)(A:Option Addr)(c:Nat)(w:World)(hl:bs.length≤9223372036854775807)(hc:bs.length≤c)(hr:RdY w A bs):Calls prog 4 #[.slice A bs.length c] w (aGy w):=by
 have tok1:=trivial;go_enter func4,ntmps4;go_wp2_with (first
  | (go_at_call 16;have _t:=tok3;obtain ⟨N,⟨code,ns⟩,hAn⟩:=aLh hD2;have hor:=aD (show ∃(ctx:List Tm) (N:Nat) (R:Int × List Tm),mQ ctx (.mk k n ks)∧anR N ctx (.mk k n ks)=some R∧R.2=ns from ⟨_,_,_,hD2,hAn,rfl⟩);have hnv:=aLx hAn hv2;simp only at hnv;have hcs:=aGw hD2;refine (wL N cx D dc k n ks A2 c2 (code,ns) _ hAn hdc (by omega) (by have:=aI hv2;omega) (rc2.alloc _).rd (ra2.alloc _).rd).mono ?_;rintro e w3 ⟨A3,c3,rfl,hP3,hb3⟩;simp only at hP3;have hX3:=(aC w2 25 (Ro k n A2 ks.length c2) rfl).keep hb3;have hZ3:=(hZ2.alloc (.cells (Ro k n A2 ks.length c2) 25)).keep hb3;have hcap:=hP3.capR;obtain ⟨A3',c3',e3,rn3⟩:=hP3.rd;injection e3 with e3a e3b e3c;subst e3a;clear e3b e3c;replace rn3:RdP (fun b=>w2.heap.size≤b) w3 A3 0 ns:=rn3.mono (fun b hb=>by rcases hb with hb|hb;exact hb.elim;simp at hb;omega);have b3:Bw w2 w3:=(bE (cW _) _).trans (hb3.mono (by simp));have ra3:=ra2.below b3;have hR3:=hR2.below b3 s12;have g3:=aR g2 b3;have s3:=b3.size;have lX3:=hX3.lt;have hnv1:=aD hnv.1;have hnl:=hnv.2;have hv2':=aD hv2;clear hnv hAn hv2 hD2 tok3 _t)
  | (go_at_call 15;have _t:=tok2;refine (aDh aTt w1.heap.size r 0 _ (by omega) (iD _) hr1).mono ?_;rintro e w2 ⟨cx,D,dc,k,n,ks,A2,c2,p2,rfl,hdc,rc2,hD2,hl2,hv2,hp2,ra2,hR2,g2⟩;have s12:=g2.size;have hZ2:=hZ1.grown g2 (by simp;omega);clear tok2 _t;have tok3:=trivial)
  | (go_at_call 14;have _t:=tok1;refine (aLk bs A c _ hl hc (hr.keeps (.alloc _ _))).mono ?_;rintro e w1 ⟨r,rfl,hr0,hrlt,hr1,hb1⟩;have hZ1:=nJ hb1;have g1:Bw w w1:=(bE (cW _) _).trans (hb1.mono (by simp));have s1:=g1.size;have lz:=hZ1.lt;have hrw:w.heap.size<r:=(by simp at hr0;omega);clear tok1 _t;have tok2:=trivial))
 refine (eB w1.heap.size r p2 12 _ (by omega) (by omega) (by omega) hR3).mono ?_;rintro e w4 ⟨m,rfl,hm,-,hR4,hg4⟩;clear hm;have g4:=aU g3 hg4;have hX4:=hX3.grown hg4 (by intro e;injection e;omega);have hZ4:=hZ3.grown hg4 (by intro e;injection e;omega);have ra4:RdP (fun b=>w1.heap.size≤b) w4 A2 0 ks:=ra3.grown hg4 (fun b hb e=>by injection e;omega);have rn4:=rn3.grown hg4 (fun b hb e=>by injection e;omega);have s4:=hg4.size;by_cases hq:m=0∧ns≠[]
 ·obtain ⟨rfl,hne⟩:=hq;obtain ⟨n0,ns',rfl⟩:∃n0 ns',ns=n0::ns':=by
   rcases ns with _|⟨a,b⟩
   ·exact absurd rfl hne
   ·exact ⟨a,b,rfl⟩
  clear hne;obtain ⟨gb,go,rfl,rt4⟩:=rn4.tail3;have hnv2:=aD (fun u (hu:u∈ns')=>hnv1.out u (List.mem_cons_of_mem _ hu));rw [List.length_cons] at hcap hnl;have hq1:(0:Int)<((ns'.length+1:Nat):Int):=by omega
  rw [List.length_cons];go_wp2_with fail
  ·have hn0:ns'=[]:=lEn (by omega);subst hn0;have rt5:RdP (fun b=>w2.heap.size≤b) w4 (some ⟨gb,go,none⟩) 0 []:=RdP.nil;have za:w2.heap.size≠r:=by omega
   have zb:w2.heap.size≠w.heap.size:=by omega
   have zz:w.heap.size≠r:=by omega
   have t0:∀w',K2 w4 r w.heap.size w'→w'.cell? ⟨w2.heap.size,0,none⟩=some (.int .i64 k):=fun w' h=>h.cell hX4.three.1 za zb
   have t1:∀w',K2 w4 r w.heap.size w'→w'.cell? ⟨w2.heap.size,1,none⟩=some (.int .i64 n):=fun w' h=>h.cell hX4.three.2.1 za zb
   have t2:∀w',K2 w4 r w.heap.size w'→w'.cell? ⟨w2.heap.size,2,none⟩=some (.slice A2 ks.length c2):=fun w' h=>h.cell hX4.three.2.2 za zb
   obtain ⟨q0,hq0⟩:∃q0,q0=w4.drew:=⟨_,rfl⟩;have bq0:w4.grownBy q0 (some r):=by rw [hq0];exact cQ (gG _ _)
   have hRq0:Rdr w1.heap.size q0 r (p2+1):=by rw [hq0];exact hR4.drew
   refine gA (K2 w4 r w.heap.size) [7] 8 (by kernel_rfl) rfl ?_;refine iH [0,1,2,3] (f:=4) (l':=#[true,true,true,true,false,false,false,false]) (lT:=[_,_,_,_]) (by rw [← hq0];exact K2.of bq0) rfl (by kernel_rfl) (by kernel_rfl) (by kernel_rfl) rfl (fun _ _ d _ _ h=>by cases d<;>exact h) ?_;refine cL (aD ?_);rw [← hq0];clear hq0 t0 t1 t2;have s4q:=bq0.size;have raq:RdP (fun b=>w1.heap.size≤b) q0 A2 0 ks:=ra4.grown bq0 (fun b hb e=>by injection e;omega);refine bG 4 ?_;go_wp2_with (go_at_call 18;refine (qN w1.heap.size r (p2+1) k n ks A2 c2 _ (by omega) (by omega) hRq0 hv2'.out raq.rd).mono ?_;rintro e q1 ⟨P,xs,cp,p5,rfl,hcp,hxl,hpi,hpw0,hp5,hR5,hg5⟩)
   have bq1:=aU bq0 hg5;refine aH (K2.of bq1) ?_;have hZ5:=hZ4.grown bq1 (by intro e;injection e;omega);have g5:=aU g4 bq1;have hpb:∀a,P=some a→a.block≠w.heap.size:=fun a ha=>by have:=hpw0 a ha;omega
   have rdq:=rt5.grown bq1 (fun b hb e=>by injection e;omega);have raq5:=ra4.grown bq1 (fun b hb e=>by injection e;omega);have s5:=bq1.size;refine bG 5 ?_;obtain ⟨d0,d1,d2,e0,e1,e2⟩:=cA hZ5;go_wp2_with fail
   refine bI ?_;intro q2 hn;have hZ6:Blk q2 w.heap.size (Ro k n A2 ks.length c2):=by rw [hn];exact ((hZ5.set_ 0 _).set_ 1 _).set_ 2 _
   have k6:K2 w4 r w.heap.size q2:=by rw [hn];exact (((K2.of bq1).set _ _).set _ _).set _ _
   have i6:RdI q2 P xs:=by rw [hn];exact ((hpi.set3 hpb _ _).set3 hpb _ _).set3 hpb _ _
   have ra6:Rd q2 A2 0 ks:=by rw [hn];exact (((raq5.setCell (by simp;omega) _).setCell (by simp;omega) _).setCell (by simp;omega) _).rd
   have rn6:Rd q2 (some ⟨gb,go,none⟩) 0 ([]:List Tm):=by rw [hn];exact (((rdq.setCell (by simp;omega) _).setCell (by simp;omega) _).setCell (by simp;omega) _).rd
   have b6:Bw w q2:=by rw [hn];exact (bV (jU g1 g5 (Nat.le_of_lt hrw)))
   clear hn d0 d1 d2 e0 e1 e2;refine aH k6 ?_;refine bG 6 ?_;go_wp2_with fail
   refine aH k6 ?_;refine cY [7] (lB:=[_]) ?_;obtain ⟨d0,d1,d2⟩:=hZ6.three;go_wp2_with fail
   refine bodyPost_ret (v:=.tuple #[.agg (Ro k n A2 ks.length c2),.slice (some ⟨gb,go,none⟩) (([]:List Tm)).length 0,.slice P xs.length cp]) (by simp [results,results4,go_sem,d0,d1,d2]) rfl ?_;exact ⟨k,n,ks,A2,c2,([]:List Tm),(some ⟨gb,go,none⟩),0,xs,P,cp,rfl,hv2'.out,hnv2,(by omega),hxl,i6,ra6,rn6,b6,(by first|omega|(simp;done)|(simp at hcap⊢;omega)),aD (by obtain ⟨a,b,R,h1,h2,h3⟩:=hor.out;exact ⟨a,b,R,h1,h2,by first|exact .inl h3.symm|exact .inr (by rw [h3];rfl)⟩)⟩
  ·have za:w2.heap.size≠r:=by omega
   have zb:w2.heap.size≠w.heap.size:=by omega
   have zz:w.heap.size≠r:=by omega
   have t0:∀w',K2 w4 r w.heap.size w'→w'.cell? ⟨w2.heap.size,0,none⟩=some (.int .i64 k):=fun w' h=>h.cell hX4.three.1 za zb
   have t1:∀w',K2 w4 r w.heap.size w'→w'.cell? ⟨w2.heap.size,1,none⟩=some (.int .i64 n):=fun w' h=>h.cell hX4.three.2.1 za zb
   have t2:∀w',K2 w4 r w.heap.size w'→w'.cell? ⟨w2.heap.size,2,none⟩=some (.slice A2 ks.length c2):=fun w' h=>h.cell hX4.three.2.2 za zb
   obtain ⟨q0,hq0⟩:∃q0,q0=w4.drew:=⟨_,rfl⟩;have bq0:w4.grownBy q0 (some r):=by rw [hq0];exact cQ (gG _ _)
   have hRq0:Rdr w1.heap.size q0 r (p2+1):=by rw [hq0];exact hR4.drew
   refine gA (K2 w4 r w.heap.size) [7] 8 (by kernel_rfl) rfl ?_;refine iH [0,1,2,3] (f:=4) (l':=#[true,true,true,true,false,false,false,false]) (lT:=[_,_,_,_]) (by rw [← hq0];exact K2.of bq0) rfl (by kernel_rfl) (by kernel_rfl) (by kernel_rfl) rfl (fun _ _ d _ _ h=>by cases d<;>exact h) ?_;refine cL (aD ?_);rw [← hq0];clear hq0 t0 t1 t2;have s4q:=bq0.size;have raq:RdP (fun b=>w1.heap.size≤b) q0 A2 0 ks:=ra4.grown bq0 (fun b hb e=>by injection e;omega);refine bG 4 ?_;go_wp2_with (go_at_call 18;refine (qN w1.heap.size r (p2+1) k n ks A2 c2 _ (by omega) (by omega) hRq0 hv2'.out raq.rd).mono ?_;rintro e q1 ⟨P,xs,cp,p5,rfl,hcp,hxl,hpi,hpw0,hp5,hR5,hg5⟩)
   have bq1:=aU bq0 hg5;refine aH (K2.of bq1) ?_;have hZ5:=hZ4.grown bq1 (by intro e;injection e;omega);have g5:=aU g4 bq1;have hpb:∀a,P=some a→a.block≠w.heap.size:=fun a ha=>by have:=hpw0 a ha;omega
   have rdq:=rt4.grown bq1 (fun b hb e=>by injection e;omega);have raq5:=ra4.grown bq1 (fun b hb e=>by injection e;omega);have s5:=bq1.size;refine bG 5 ?_;obtain ⟨d0,d1,d2,e0,e1,e2⟩:=cA hZ5;go_wp2_with fail
   refine bI ?_;intro q2 hn;have hZ6:Blk q2 w.heap.size (Ro k n A2 ks.length c2):=by rw [hn];exact ((hZ5.set_ 0 _).set_ 1 _).set_ 2 _
   have k6:K2 w4 r w.heap.size q2:=by rw [hn];exact (((K2.of bq1).set _ _).set _ _).set _ _
   have i6:RdI q2 P xs:=by rw [hn];exact ((hpi.set3 hpb _ _).set3 hpb _ _).set3 hpb _ _
   have ra6:Rd q2 A2 0 ks:=by rw [hn];exact (((raq5.setCell (by simp;omega) _).setCell (by simp;omega) _).setCell (by simp;omega) _).rd
   have rn6:Rd q2 (some ⟨gb,go+3,none⟩) 0 ns':=by rw [hn];exact (((rdq.setCell (by simp;omega) _).setCell (by simp;omega) _).setCell (by simp;omega) _).rd
   have b6:Bw w q2:=by rw [hn];exact (bV (jU g1 g5 (Nat.le_of_lt hrw)))
   clear hn d0 d1 d2 e0 e1 e2;refine aH k6 ?_;refine bG 6 ?_;go_wp2_with fail
   refine aH k6 ?_;refine cY [7] (lB:=[_]) ?_;obtain ⟨d0,d1,d2⟩:=hZ6.three;go_wp2_with fail
   refine bodyPost_ret (v:=.tuple #[.agg (Ro k n A2 ks.length c2),.slice (some ⟨gb,go+3,none⟩) (ns').length (c3 - 1),.slice P xs.length cp]) (by simp [results,results4,go_sem,d0,d1,d2]) rfl ?_;exact ⟨k,n,ks,A2,c2,ns',(some ⟨gb,go+3,none⟩),(c3 - 1),xs,P,cp,rfl,hv2'.out,hnv2,(by omega),hxl,i6,ra6,rn6,b6,(by first|omega|(simp;done)|(simp at hcap⊢;omega)),aD (by obtain ⟨a,b,R,h1,h2,h3⟩:=hor.out;exact ⟨a,b,R,h1,h2,by first|exact .inl h3.symm|exact .inr (by rw [h3];rfl)⟩)⟩
 ·have hq1:((m:Int)==0 && decide ((0:Int)<(ns.length:Int)))=false:=by
   rcases Nat.eq_zero_or_pos m with h|h
   ·rcases ns with _|⟨a,b⟩
    ·simp
    ·exact absurd ⟨h,by simp⟩ hq
   ·simp;omega
  by_cases hm0:m=0
  ·subst hm0;have hn0:ns=[]:=Classical.byContradiction fun h=>hq ⟨rfl,h⟩
   subst hn0;clear hq hq1;go_wp2_with fail
   have za:w2.heap.size≠r:=by omega
   have zb:w2.heap.size≠w.heap.size:=by omega
   have zz:w.heap.size≠r:=by omega
   have t0:∀w',K2 w4 r w.heap.size w'→w'.cell? ⟨w2.heap.size,0,none⟩=some (.int .i64 k):=fun w' h=>h.cell hX4.three.1 za zb
   have t1:∀w',K2 w4 r w.heap.size w'→w'.cell? ⟨w2.heap.size,1,none⟩=some (.int .i64 n):=fun w' h=>h.cell hX4.three.2.1 za zb
   have t2:∀w',K2 w4 r w.heap.size w'→w'.cell? ⟨w2.heap.size,2,none⟩=some (.slice A2 ks.length c2):=fun w' h=>h.cell hX4.three.2.2 za zb
   obtain ⟨q0,hq0⟩:∃q0,q0=w4.drew:=⟨_,rfl⟩;have bq0:w4.grownBy q0 (some r):=by rw [hq0];exact cQ (gG _ _)
   have hRq0:Rdr w1.heap.size q0 r (p2+1):=by rw [hq0];exact hR4.drew
   refine gA (K2 w4 r w.heap.size) [7] 8 (by kernel_rfl) rfl ?_;refine iH [0,1,2,3] (f:=4) (l':=#[true,true,true,true,false,false,false,false]) (lT:=[_,_,_,_]) (by rw [← hq0];exact K2.of bq0) rfl (by kernel_rfl) (by kernel_rfl) (by kernel_rfl) rfl (fun _ _ d _ _ h=>by cases d<;>exact h) ?_;refine cL (aD ?_);rw [← hq0];clear hq0 t0 t1 t2;have s4q:=bq0.size;have raq:RdP (fun b=>w1.heap.size≤b) q0 A2 0 ks:=ra4.grown bq0 (fun b hb e=>by injection e;omega);refine bG 4 ?_;go_wp2_with (go_at_call 18;refine (qN w1.heap.size r (p2+1) k n ks A2 c2 _ (by omega) (by omega) hRq0 hv2'.out raq.rd).mono ?_;rintro e q1 ⟨P,xs,cp,p5,rfl,hcp,hxl,hpi,hpw0,hp5,hR5,hg5⟩)
   have bq1:=aU bq0 hg5;refine aH (K2.of bq1) ?_;have hZ5:=hZ4.grown bq1 (by intro e;injection e;omega);have g5:=aU g4 bq1;have hpb:∀a,P=some a→a.block≠w.heap.size:=fun a ha=>by have:=hpw0 a ha;omega
   have rdq:=rn4.grown bq1 (fun b hb e=>by injection e;omega);have raq5:=ra4.grown bq1 (fun b hb e=>by injection e;omega);have s5:=bq1.size;refine bG 5 ?_;obtain ⟨d0,d1,d2,e0,e1,e2⟩:=cA hZ5;go_wp2_with fail
   refine bI ?_;intro q2 hn;have hZ6:Blk q2 w.heap.size (Ro k n A2 ks.length c2):=by rw [hn];exact ((hZ5.set_ 0 _).set_ 1 _).set_ 2 _
   have k6:K2 w4 r w.heap.size q2:=by rw [hn];exact (((K2.of bq1).set _ _).set _ _).set _ _
   have i6:RdI q2 P xs:=by rw [hn];exact ((hpi.set3 hpb _ _).set3 hpb _ _).set3 hpb _ _
   have ra6:Rd q2 A2 0 ks:=by rw [hn];exact (((raq5.setCell (by simp;omega) _).setCell (by simp;omega) _).setCell (by simp;omega) _).rd
   have rn6:Rd q2 A3 0 ([]:List Tm):=by rw [hn];exact (((rdq.setCell (by simp;omega) _).setCell (by simp;omega) _).setCell (by simp;omega) _).rd
   have b6:Bw w q2:=by rw [hn];exact (bV (jU g1 g5 (Nat.le_of_lt hrw)))
   clear hn d0 d1 d2 e0 e1 e2;refine aH k6 ?_;refine bG 6 ?_;go_wp2_with fail
   refine aH k6 ?_;refine cY [7] (lB:=[_]) ?_;obtain ⟨d0,d1,d2⟩:=hZ6.three;go_wp2_with fail
   refine bodyPost_ret (v:=.tuple #[.agg (Ro k n A2 ks.length c2),.slice A3 (([]:List Tm)).length c3,.slice P xs.length cp]) (by simp [results,results4,go_sem,d0,d1,d2]) rfl ?_;exact ⟨k,n,ks,A2,c2,([]:List Tm),A3,c3,xs,P,cp,rfl,hv2'.out,hnv1,(by simp),hxl,i6,ra6,rn6,b6,(by first|omega|(simp;done)|(simp at hcap⊢;omega)),aD (by obtain ⟨a,b,R,h1,h2,h3⟩:=hor.out;exact ⟨a,b,R,h1,h2,by first|exact .inl h3.symm|exact .inr (by rw [h3];rfl)⟩)⟩
  ·have hm1:((m:Int)==0)=false:=by simpa using hm0
   clear hq hq1;go_wp2_with fail
   have za:w2.heap.size≠r:=by omega
   have zb:w2.heap.size≠w.heap.size:=by omega
   have zz:w.heap.size≠r:=by omega
   have t0:∀w',K2 w4 r w.heap.size w'→w'.cell? ⟨w2.heap.size,0,none⟩=some (.int .i64 k):=fun w' h=>h.cell hX4.three.1 za zb
   have t1:∀w',K2 w4 r w.heap.size w'→w'.cell? ⟨w2.heap.size,1,none⟩=some (.int .i64 n):=fun w' h=>h.cell hX4.three.2.1 za zb
   have t2:∀w',K2 w4 r w.heap.size w'→w'.cell? ⟨w2.heap.size,2,none⟩=some (.slice A2 ks.length c2):=fun w' h=>h.cell hX4.three.2.2 za zb
   obtain ⟨q0,hq0⟩:∃q0,q0=w4.drew:=⟨_,rfl⟩;have bq0:w4.grownBy q0 (some r):=by rw [hq0];exact cQ (gG _ _)
   have hRq0:Rdr w1.heap.size q0 r (p2+1):=by rw [hq0];exact hR4.drew
   refine gA (K2 w4 r w.heap.size) [7] 8 (by kernel_rfl) rfl ?_;refine iH [0,1,2,3] (f:=4) (l':=#[true,true,true,true,false,false,false,false]) (lT:=[_,_,_,_]) (by rw [← hq0];exact K2.of bq0) rfl (by kernel_rfl) (by kernel_rfl) (by kernel_rfl) rfl (fun _ _ d _ _ h=>by cases d<;>exact h) ?_;refine cL (aD ?_);rw [← hq0];clear hq0 t0 t1 t2;have s4q:=bq0.size;have raq:RdP (fun b=>w1.heap.size≤b) q0 A2 0 ks:=ra4.grown bq0 (fun b hb e=>by injection e;omega);refine bG 4 ?_;go_wp2_with (go_at_call 18;refine (qN w1.heap.size r (p2+1) k n ks A2 c2 _ (by omega) (by omega) hRq0 hv2'.out raq.rd).mono ?_;rintro e q1 ⟨P,xs,cp,p5,rfl,hcp,hxl,hpi,hpw0,hp5,hR5,hg5⟩)
   have bq1:=aU bq0 hg5;refine aH (K2.of bq1) ?_;have hZ5:=hZ4.grown bq1 (by intro e;injection e;omega);have g5:=aU g4 bq1;have hpb:∀a,P=some a→a.block≠w.heap.size:=fun a ha=>by have:=hpw0 a ha;omega
   have rdq:=rn4.grown bq1 (fun b hb e=>by injection e;omega);have raq5:=ra4.grown bq1 (fun b hb e=>by injection e;omega);have s5:=bq1.size;refine bG 5 ?_;obtain ⟨d0,d1,d2,e0,e1,e2⟩:=cA hZ5;go_wp2_with fail
   refine bI ?_;intro q2 hn;have hZ6:Blk q2 w.heap.size (Ro k n A2 ks.length c2):=by rw [hn];exact ((hZ5.set_ 0 _).set_ 1 _).set_ 2 _
   have k6:K2 w4 r w.heap.size q2:=by rw [hn];exact (((K2.of bq1).set _ _).set _ _).set _ _
   have i6:RdI q2 P xs:=by rw [hn];exact ((hpi.set3 hpb _ _).set3 hpb _ _).set3 hpb _ _
   have ra6:Rd q2 A2 0 ks:=by rw [hn];exact (((raq5.setCell (by simp;omega) _).setCell (by simp;omega) _).setCell (by simp;omega) _).rd
   have rn6:Rd q2 A3 0 ns:=by rw [hn];exact (((rdq.setCell (by simp;omega) _).setCell (by simp;omega) _).setCell (by simp;omega) _).rd
   have b6:Bw w q2:=by rw [hn];exact (bV (jU g1 g5 (Nat.le_of_lt hrw)))
   clear hn d0 d1 d2 e0 e1 e2;refine aH k6 ?_;refine bG 6 ?_;go_wp2_with fail
   refine aH k6 ?_;refine cY [7] (lB:=[_]) ?_;obtain ⟨d0,d1,d2⟩:=hZ6.three;go_wp2_with fail
   refine bodyPost_ret (v:=.tuple #[.agg (Ro k n A2 ks.length c2),.slice A3 (ns).length c3,.slice P xs.length cp]) (by simp [results,results4,go_sem,d0,d1,d2]) rfl ?_;exact ⟨k,n,ks,A2,c2,ns,A3,c3,xs,P,cp,rfl,hv2'.out,hnv1,(by omega),hxl,i6,ra6,rn6,b6,(by first|omega|(simp;done)|(simp at hcap⊢;omega)),aD (by obtain ⟨a,b,R,h1,h2,h3⟩:=hor.out;exact ⟨a,b,R,h1,h2,by first|exact .inl h3.symm|exact .inr (by rw [h3];rfl)⟩)⟩
theorem aKi (t:Tm):∀(p xs:List Int) (u:Tm),eP t xs=some u→∀i,(jP eU p t)[i]?=some (p++xs)↔i=gV t xs:=by
 refine Tm.rec (motive_1:=fun t=>∀(p xs:List Int) (u:Tm),eP t xs=some u→∀i,(jP eU p t)[i]?=some (p++xs)↔i=gV t xs)
  (motive_2 := fun ts => ∀ (p : List Int) (i0 a : Nat) (is : List Int) (u : Tm), a < ts.length → eP (ts.getD a default) is = some u → ∀ i, (jC eU p i0 ts)[i]? = some (p ++ ((i0 + a : Nat) : Int) :: is) ↔ i = aG (ts.take a) + gV (ts.getD a default) is) ?_ ?_ ?_ t
 ·intro k n ks ih p xs u h i;rw [jP,if_pos (show eU (.mk k n ks)=true from rfl),List.singleton_append];cases xs with
  | nil=>
   rw [List.append_nil,gV];cases i with
   | zero=>simp
   | succ i=>
    rw [List.getElem?_cons_succ];constructor
    ·intro h;obtain ⟨j,q,_,e⟩:=sH eU ks p 0 p (List.mem_of_getElem? h);have:=congrArg List.length e;simp at this
    ·intro h;cases h
  | cons a is=>
   rw [eP] at h;split at h
   ·rename_i hin
    simp only [Tm.kids] at hin
    have h':eP (ks.getD a.toNat default) is=some u:=h;have hih:=ih p 0 a.toNat is u (by omega) h';rw [gV];have ea:(((0+a.toNat:Nat):Int))=a:=by omega
    rw [ea] at hih;cases i with
    | zero=>
     rw [List.getElem?_cons_zero];constructor
     ·intro h;injection h with h;have:=congrArg List.length h;simp at this
     ·intro h;omega
    | succ i=>
     rw [List.getElem?_cons_succ,hih i];simp only [Tm.kids]
     omega
   ·cases h
 ·intro p i0 a is u h;simp at h
 ·intro t ts h1 h2 p i0 a is u ha h i;rw [jC];have hl:=sG t (p++[(i0:Int)]);cases a with
  | zero=>
   have h':eP t is=some u:=h;have hid:=uJ h';have hup:0<u.size:=by cases u;rw [Tm.size];omega
   have e0:(t::ts).getD 0 default=t:=rfl;rw [e0,List.take_zero,aG,Nat.zero_add];simp only [Nat.add_zero]
   by_cases hi:i<t.size
   ·rw [List.getElem?_append_left (by omega),show p++(i0:Int)::is=(p++[(i0:Int)])++is by simp];exact h1 _ is u h' i
   ·rw [List.getElem?_append_right (by omega)];constructor
    ·intro hx;obtain ⟨j,q,hj,e⟩:=sH eU ts p (i0+1) _ (List.mem_of_getElem? hx);have:=sZ e;omega
    ·intro hx;omega
  | succ a=>
   have h':eP (ts.getD a default) is=some u:=h;have e0:(t::ts).getD (a+1) default=ts.getD a default:=rfl;have hih:=h2 p (i0+1) a is u (by simpa using ha) h';rw [e0,List.take_succ_cons,aG];by_cases hi:i<t.size
   ·rw [List.getElem?_append_left (by omega)];constructor
    ·intro hx;obtain ⟨q,e⟩:=aBc eU t _ _ (List.mem_of_getElem? hx);rw [List.append_assoc] at e;have:=sZ (q:=is) (r:=q) e;omega
    ·intro hx;omega
   ·rw [List.getElem?_append_right (by omega),hl,show i0+(a+1)=i0+1+a by omega,hih (i - t.size)];omega
theorem aGd (f:Tm→Bool)(t:Tm):∀(p x:List Int),x∈jP f p t→x.length≤p.length+t.size:=by
 refine Tm.rec (motive_1:=fun t=>∀(p x:List Int),x∈jP f p t→x.length≤p.length+t.size)
  (motive_2 := fun ts => ∀ (p : List Int) (i : Nat) (x : List Int), x ∈ jC f p i ts → x.length ≤ p.length + 1 + aG ts) ?_ ?_ ?_ t
 ·intro k n ks ih p x hx;rw [jP] at hx;rw [Tm.size];rcases List.mem_append.1 hx with hx|hx
  ·split at hx
   ·rw [List.mem_singleton] at hx;subst hx;omega
   ·cases hx
  ·have:=ih p 0 x hx;omega
 ·intro p i x hx;rw [jC] at hx;cases hx
 ·intro t ts h1 h2 p i x hx;rw [jC] at hx;rw [aG];rcases List.mem_append.1 hx with hx|hx
  ·have:=h1 _ x hx;simp at this;omega
  ·have:=h2 p (i+1) x hx;omega
theorem nR (k n:Int)(ks:List Tm)(A:Option Addr)(c:Nat)(notes:List Tm)(B:Option Addr)(cb:Nat)(xs:List Int)(P:Option Addr)(cp:Nat)(w:World)(hM:aG ks≤1048576)(hMn:aG notes≤1048576)(hx:xs.length≤1048576)(hr:Rd w A 0 ks)(hrB:Rd w B 0 notes)(hi:RdI w P xs) :
  Calls prog 5 #[.agg (Ro k n A ks.length c),.slice B notes.length cb,.slice P xs.length cp] w (oX w (fC (.mk k n ks) notes xs)):=by
 have hlen:=aJ ks;have hlenB:=aJ notes;cases hv:aE (.mk k n ks) with
 | false=>
  have hz:fC (.mk k n ks) notes xs=none:=by rw [fC,if_neg];rintro ⟨h,-⟩;rw [gK,if_neg (by rw [hv];exact Bool.false_ne_true)] at h;cases h
  rw [hz];have hv':=aD hv;clear hz hv;go_enter func5,ntmps5;go_wp2_with (first|(go_at_call 19;refine (aQ k n ks A c _ (by omega) (((hr.alloc _).alloc _).alloc _)).mono ?_;rw [hv'.out];rintro e w1 ⟨rfl,hb1⟩;have hB1:=wE hb1;have hX1:Blk w1 (w.heap.size+1) #[.slice P xs.length cp]:=((aC _ 26 _ (by simp)).alloc _).keep hb1;have hT1:=pM hb1;have g1:Bw w w1:=bW bw3 hb1;have l1:w.heap.size+1+1<w1.heap.size:=hT1.lt;obtain ⟨p0,p1,p2⟩:=hB1.three;obtain ⟨d0,d1,d2,e0,e1,e2⟩:=cA hT1;have f0:=hX1.at_ (i:=0) rfl))
  have y:=fun (o:Obj)=>(((((hT1.set_ 0 (.int .i64 0)).set_ 1 (.int .i64 0)).set_ 2 (.slice none 0 0)).alloc o:Blk _ _ Zr)).three
  refine bodyPost_ret (v:=.tuple #[dC,.bool false]) (by simp [results,results5,go_sem,d0,d1,d2,dC,y]) rfl ⟨rfl,?_⟩;first
   | exact ((g1.setCell (by first|omega|(simp;done)|(simp;omega)) _).setCell (by first|omega|(simp;done)|(simp;omega)) _).setCell (by first|omega|(simp;done)|(simp;omega)) _
   | exact (((g1.setCell (by first|omega|(simp;done)|(simp;omega)) _).setCell (by first|omega|(simp;done)|(simp;omega)) _).setCell (by first|omega|(simp;done)|(simp;omega)) _).alloc (by have:=g1.size;first|omega|(simp;omega)) _
   | exact ((((g1.alloc g1.size _).setCell (by first|omega|(simp;done)|(simp;omega)) _).setCell (by first|omega|(simp;done)|(simp;omega)) _).setCell (by first|omega|(simp;done)|(simp;omega)) _)
 | true=>
  have hv':=aD hv;have hsz:=cF hv;rw [Tm.size] at hsz;by_cases hln:notes.length=aG ks+1
  ·have q1:((notes.length:Int) != ((aG ks+1:Nat):Int))=false:=by simp [hln]
   have q1b:((notes.length:Int) != (aG ks:Int)+1)=false:=by simp [hln]
   have hln':=aD hln;cases hat:eP (.mk k n ks) xs with
   | none=>
    have hz:fC (.mk k n ks) notes xs=none:=by rw [fC,if_neg];rintro ⟨h,-⟩;rw [gK,if_pos hv,hat] at h;cases h
    rw [hz];have hat':=aD hat
    clear hz hat hv hln;go_enter func5,ntmps5;go_wp2_with (first|(go_at_call 21;refine (nS k n ks A c xs P cp _ (by omega) (by omega) (hr.below g2) (hi.below g2)).mono ?_;rw [hat'.out];rintro e w3 ⟨hb3,rfl⟩;have hB3:=(hB2).keep hb3;have hX3:=(hX2).keep hb3;have hT3:=(hT2).keep hb3;have g3:=g2.trans (hb3.mono g2.size);have l3:w.heap.size+1+1<w3.heap.size:=hT3.lt;have la3:w.heap.size<w3.heap.size:=(by omega);have lb3:w.heap.size+1<w3.heap.size:=(by omega);clear p0 p1 p2 d0 d1 d2 e0 e1 e2 f0;obtain ⟨p0,p1,p2⟩:=hB3.three;obtain ⟨d0,d1,d2,e0,e1,e2⟩:=cA hT3;have f0:=hX3.at_ (i:=0) rfl)|(go_at_call 20;refine (kD (aG ks+1) k n ks A c _ (by omega) (by omega) (hr.below g1)).mono ?_;rintro e w2 ⟨rfl,hb2⟩;have hB2:=(hB1).keep hb2;have hX2:=(hX1).keep hb2;have hT2:=(hT1).keep hb2;have g2:=g1.trans (hb2.mono g1.size);have l2:w.heap.size+1+1<w2.heap.size:=hT2.lt;clear p0 p1 p2 d0 d1 d2 e0 e1 e2 f0;obtain ⟨p0,p1,p2⟩:=hB2.three;obtain ⟨d0,d1,d2,e0,e1,e2⟩:=cA hT2;have f0:=hX2.at_ (i:=0) rfl)|(go_at_call 19;refine (aQ k n ks A c _ (by omega) (((hr.alloc _).alloc _).alloc _)).mono ?_;rw [hv'.out];rintro e w1 ⟨rfl,hb1⟩;have hB1:=wE hb1;have hX1:Blk w1 (w.heap.size+1) #[.slice P xs.length cp]:=((aC _ 26 _ (by simp)).alloc _).keep hb1;have hT1:=pM hb1;have g1:Bw w w1:=bW bw3 hb1;have l1:w.heap.size+1+1<w1.heap.size:=hT1.lt;obtain ⟨p0,p1,p2⟩:=hB1.three;obtain ⟨d0,d1,d2,e0,e1,e2⟩:=cA hT1;have f0:=hX1.at_ (i:=0) rfl))
    have y:=fun (o:Obj)=>(((((hT3.set_ 0 (.int .i64 0)).set_ 1 (.int .i64 0)).set_ 2 (.slice none 0 0)).alloc o:Blk _ _ Zr)).three
    refine bodyPost_ret (v:=.tuple #[dC,.bool false]) (by simp [results,results5,go_sem,d0,d1,d2,dC,y]) rfl ⟨rfl,?_⟩;first
     | exact ((g3.setCell (by first|omega|(simp;done)|(simp;omega)) _).setCell (by first|omega|(simp;done)|(simp;omega)) _).setCell (by first|omega|(simp;done)|(simp;omega)) _
     | exact (((g3.setCell (by first|omega|(simp;done)|(simp;omega)) _).setCell (by first|omega|(simp;done)|(simp;omega)) _).setCell (by first|omega|(simp;done)|(simp;omega)) _).alloc (by have:=g3.size;first|omega|(simp;omega)) _
     | exact ((((g3.alloc g3.size _).setCell (by first|omega|(simp;done)|(simp;omega)) _).setCell (by first|omega|(simp;done)|(simp;omega)) _).setCell (by first|omega|(simp;done)|(simp;omega)) _)
   | some u=>
    obtain ⟨ku,nu,us⟩:=u;have hid:=uJ hat
    have hnn:fC (.mk k n ks) notes xs=if aE (notes.getD (gV (.mk k n ks) xs) default)=true then some (notes.getD (gV (.mk k n ks) xs) default) else none:=by rw [fC,if_pos ⟨by rw [gK,if_pos hv,hat];rfl,hln⟩]
    rw [hnn];have hidx:=aKi (.mk k n ks) [] xs _ hat
    rw [List.nil_append] at hidx;have hidx':=aD hidx;have hpl:∀p,p∈jP eU [] (.mk k n ks)→p.length≤1000000000:=fun p hp=>by
     have:=aGd eU (.mk k n ks) [] p hp;rw [Tm.size] at this;simp at this;omega
    have hpl':=aD hpl;have hplen:=uR eU (.mk k n ks) [];rw [Tm.size] at hplen;have hIl:gV (.mk k n ks) xs<notes.length:=by rw [hln];simp only [Tm.size] at hid;omega
    clear hidx hpl hid;obtain ⟨I,hI⟩:∃I,gV (.mk k n ks) xs=I:=⟨_,rfl⟩;rw [hI] at hIl⊢;have hI':=aD hI;have hIl2:(I:Int)<(notes.length:Int):=by omega
    obtain ⟨b5,off5,kd,nd,ksd,Ad,cd,rfl,hkd,n1,n2,n3,hld,hrd⟩:=hrB.at_ hIl;have hgd:notes.getD I default = .mk kd nd ksd:=by rw [← hkd];simp [List.getD,iG hIl]
    have hsd:=bY (fG hIl);rw [hkd,Tm.size] at hsd;rw [hgd];have hat':=aD hat
    clear hat hv hln hI hnn hgd hkd;cases hvd:aE (.mk kd nd ksd) with
    | false=>
     rw [if_neg Bool.false_ne_true];have hvd':=aD hvd;clear hvd;go_enter func5,ntmps5
     go_wp2_with (first|(go_at_call 19;refine (aQ kd nd ksd Ad cd _ (by omega) (hrd.below g5)).mono ?_;rw [hvd'.out];rintro e w6 ⟨rfl,hb6⟩;have hB6:=(hB5).keep hb6;have hX6:=(hX5).keep hb6;have hT6:=(hT5).keep hb6;have g6:=g5.trans (hb6.mono g5.size);have l6:w.heap.size+1+1<w6.heap.size:=hT6.lt;clear p0 p1 p2 d0 d1 d2 e0 e1 e2 f0;obtain ⟨p0,p1,p2⟩:=hB6.three;obtain ⟨d0,d1,d2,e0,e1,e2⟩:=cA hT6;have f0:=hX6.at_ (i:=0) rfl;clear m1 m2 m3;have m1:=(bR g6) _ _ n1;have m2:=(bR g6) _ _ n2;have m3:=(bR g6) _ _ n3)|(go_at_call 22;refine (vH (jP eU [] (.mk k n ks)) xs (gV (.mk k n ks) xs) hidx'.out A4 P c4 cp (w.heap.size+1) _ (by omega) hpl'.out (by omega) hP4 (hi.below g4) hX4).mono ?_;rw [hI'.out];rintro e w5 ⟨rfl,hb5⟩;have hB5:=(hB4).keep hb5;have hX5:=(hX4).keep hb5;have hT5:=(hT4).keep hb5;have g5:=g4.trans (hb5.mono g4.size);have l5:w.heap.size+1+1<w5.heap.size:=hT5.lt;clear p0 p1 p2 d0 d1 d2 e0 e1 e2 f0;obtain ⟨p0,p1,p2⟩:=hB5.three;obtain ⟨d0,d1,d2,e0,e1,e2⟩:=cA hT5;have f0:=hX5.at_ (i:=0) rfl;have m1:=(bR g5) _ _ n1;have m2:=(bR g5) _ _ n2;have m3:=(bR g5) _ _ n3)|(go_at_call 23;refine (oZ k n ks A c _ hv'.out ((hr.below g3).alloc _)).mono ?_;rintro e w4 ⟨v4,rfl,hR4,hb4⟩;have hB4:=(hB3.alloc _).keep hb4;have hX4:=(hX3.alloc _).keep hb4;have hT4:=(hT3.alloc _).keep hb4;have g4:Bw w w4:=(g3.alloc g3.size _).trans (hb4.mono (by have:=g3.size;simp;omega));have l4:w.heap.size+1+1<w4.heap.size:=hT4.lt;obtain ⟨A4,c4,rfl,hP4⟩:=hR4.form;clear hR4;clear p0 p1 p2 d0 d1 d2 e0 e1 e2 f0;obtain ⟨p0,p1,p2⟩:=hB4.three;obtain ⟨d0,d1,d2,e0,e1,e2⟩:=cA hT4;have f0:=hX4.at_ (i:=0) rfl)|(go_at_call 21;refine (nS k n ks A c xs P cp _ (by omega) (by omega) (hr.below g2) (hi.below g2)).mono ?_;rw [hat'.out];rintro e w3 ⟨hb3,Au,cu,vu,rfl,hlu,hru⟩;have hB3:=(hB2).keep hb3;have hX3:=(hX2).keep hb3;have hT3:=(hT2).keep hb3;have g3:=g2.trans (hb3.mono g2.size);have l3:w.heap.size+1+1<w3.heap.size:=hT3.lt;have la3:w.heap.size<w3.heap.size:=(by omega);have lb3:w.heap.size+1<w3.heap.size:=(by omega);clear p0 p1 p2 d0 d1 d2 e0 e1 e2 f0;obtain ⟨p0,p1,p2⟩:=hB3.three;obtain ⟨d0,d1,d2,e0,e1,e2⟩:=cA hT3;have f0:=hX3.at_ (i:=0) rfl)|(go_at_call 20;refine (kD (aG ks+1) k n ks A c _ (by omega) (by omega) (hr.below g1)).mono ?_;rintro e w2 ⟨rfl,hb2⟩;have hB2:=(hB1).keep hb2;have hX2:=(hX1).keep hb2;have hT2:=(hT1).keep hb2;have g2:=g1.trans (hb2.mono g1.size);have l2:w.heap.size+1+1<w2.heap.size:=hT2.lt;clear p0 p1 p2 d0 d1 d2 e0 e1 e2 f0;obtain ⟨p0,p1,p2⟩:=hB2.three;obtain ⟨d0,d1,d2,e0,e1,e2⟩:=cA hT2;have f0:=hX2.at_ (i:=0) rfl)|(go_at_call 19;refine (aQ k n ks A c _ (by omega) (((hr.alloc _).alloc _).alloc _)).mono ?_;rw [hv'.out];rintro e w1 ⟨rfl,hb1⟩;have hB1:=wE hb1;have hX1:Blk w1 (w.heap.size+1) #[.slice P xs.length cp]:=((aC _ 26 _ (by simp)).alloc _).keep hb1;have hT1:=pM hb1;have g1:Bw w w1:=bW bw3 hb1;have l1:w.heap.size+1+1<w1.heap.size:=hT1.lt;obtain ⟨p0,p1,p2⟩:=hB1.three;obtain ⟨d0,d1,d2,e0,e1,e2⟩:=cA hT1;have f0:=hX1.at_ (i:=0) rfl))
     have y:=fun (o:Obj)=>(((((hT6.set_ 0 (.int .i64 0)).set_ 1 (.int .i64 0)).set_ 2 (.slice none 0 0)).alloc o:Blk _ _ Zr)).three
     refine bodyPost_ret (v:=.tuple #[dC,.bool false]) (by simp [results,results5,go_sem,d0,d1,d2,dC,y]) rfl ⟨rfl,?_⟩;first
      | exact ((g6.setCell (by first|omega|(simp;done)|(simp;omega)) _).setCell (by first|omega|(simp;done)|(simp;omega)) _).setCell (by first|omega|(simp;done)|(simp;omega)) _
      | exact (((g6.setCell (by first|omega|(simp;done)|(simp;omega)) _).setCell (by first|omega|(simp;done)|(simp;omega)) _).setCell (by first|omega|(simp;done)|(simp;omega)) _).alloc (by have:=g6.size;first|omega|(simp;omega)) _
      | exact ((((g6.alloc g6.size _).setCell (by first|omega|(simp;done)|(simp;omega)) _).setCell (by first|omega|(simp;done)|(simp;omega)) _).setCell (by first|omega|(simp;done)|(simp;omega)) _)
    | true=>
     rw [if_pos rfl];have hvd':=aD hvd;clear hvd;go_enter func5,ntmps5
     go_wp2_with (first|(go_at_call 26;refine (aMi (aG ksd+1) kd nd ksd Ad cd _ (by omega) (by omega) (hrd.below g6)).mono ?_;rintro e w7 ⟨A7,c7,rfl,hl7,hf7,hb7⟩;have hB7:=(hB6).keep hb7;have hX7:=(hX6).keep hb7;have hT7:=(hT6).keep hb7;have g7:=g6.trans (hb7.mono g6.size);have l7:w.heap.size+1+1<w7.heap.size:=hT7.lt;clear p0 p1 p2 d0 d1 d2 e0 e1 e2 f0;obtain ⟨p0,p1,p2⟩:=hB7.three;obtain ⟨d0,d1,d2,e0,e1,e2⟩:=cA hT7;have f0:=hX7.at_ (i:=0) rfl)|(go_at_call 19;refine (aQ kd nd ksd Ad cd _ (by omega) (hrd.below g5)).mono ?_;rw [hvd'.out];rintro e w6 ⟨rfl,hb6⟩;have hB6:=(hB5).keep hb6;have hX6:=(hX5).keep hb6;have hT6:=(hT5).keep hb6;have g6:=g5.trans (hb6.mono g5.size);have l6:w.heap.size+1+1<w6.heap.size:=hT6.lt;clear p0 p1 p2 d0 d1 d2 e0 e1 e2 f0;obtain ⟨p0,p1,p2⟩:=hB6.three;obtain ⟨d0,d1,d2,e0,e1,e2⟩:=cA hT6;have f0:=hX6.at_ (i:=0) rfl;clear m1 m2 m3;have m1:=(bR g6) _ _ n1;have m2:=(bR g6) _ _ n2;have m3:=(bR g6) _ _ n3)|(go_at_call 22;refine (vH (jP eU [] (.mk k n ks)) xs (gV (.mk k n ks) xs) hidx'.out A4 P c4 cp (w.heap.size+1) _ (by omega) hpl'.out (by omega) hP4 (hi.below g4) hX4).mono ?_;rw [hI'.out];rintro e w5 ⟨rfl,hb5⟩;have hB5:=(hB4).keep hb5;have hX5:=(hX4).keep hb5;have hT5:=(hT4).keep hb5;have g5:=g4.trans (hb5.mono g4.size);have l5:w.heap.size+1+1<w5.heap.size:=hT5.lt;clear p0 p1 p2 d0 d1 d2 e0 e1 e2 f0;obtain ⟨p0,p1,p2⟩:=hB5.three;obtain ⟨d0,d1,d2,e0,e1,e2⟩:=cA hT5;have f0:=hX5.at_ (i:=0) rfl;have m1:=(bR g5) _ _ n1;have m2:=(bR g5) _ _ n2;have m3:=(bR g5) _ _ n3)|(go_at_call 23;refine (oZ k n ks A c _ hv'.out ((hr.below g3).alloc _)).mono ?_;rintro e w4 ⟨v4,rfl,hR4,hb4⟩;have hB4:=(hB3.alloc _).keep hb4;have hX4:=(hX3.alloc _).keep hb4;have hT4:=(hT3.alloc _).keep hb4;have g4:Bw w w4:=(g3.alloc g3.size _).trans (hb4.mono (by have:=g3.size;simp;omega));have l4:w.heap.size+1+1<w4.heap.size:=hT4.lt;obtain ⟨A4,c4,rfl,hP4⟩:=hR4.form;clear hR4;clear p0 p1 p2 d0 d1 d2 e0 e1 e2 f0;obtain ⟨p0,p1,p2⟩:=hB4.three;obtain ⟨d0,d1,d2,e0,e1,e2⟩:=cA hT4;have f0:=hX4.at_ (i:=0) rfl)|(go_at_call 21;refine (nS k n ks A c xs P cp _ (by omega) (by omega) (hr.below g2) (hi.below g2)).mono ?_;rw [hat'.out];rintro e w3 ⟨hb3,Au,cu,vu,rfl,hlu,hru⟩;have hB3:=(hB2).keep hb3;have hX3:=(hX2).keep hb3;have hT3:=(hT2).keep hb3;have g3:=g2.trans (hb3.mono g2.size);have l3:w.heap.size+1+1<w3.heap.size:=hT3.lt;have la3:w.heap.size<w3.heap.size:=(by omega);have lb3:w.heap.size+1<w3.heap.size:=(by omega);clear p0 p1 p2 d0 d1 d2 e0 e1 e2 f0;obtain ⟨p0,p1,p2⟩:=hB3.three;obtain ⟨d0,d1,d2,e0,e1,e2⟩:=cA hT3;have f0:=hX3.at_ (i:=0) rfl)|(go_at_call 20;refine (kD (aG ks+1) k n ks A c _ (by omega) (by omega) (hr.below g1)).mono ?_;rintro e w2 ⟨rfl,hb2⟩;have hB2:=(hB1).keep hb2;have hX2:=(hX1).keep hb2;have hT2:=(hT1).keep hb2;have g2:=g1.trans (hb2.mono g1.size);have l2:w.heap.size+1+1<w2.heap.size:=hT2.lt;clear p0 p1 p2 d0 d1 d2 e0 e1 e2 f0;obtain ⟨p0,p1,p2⟩:=hB2.three;obtain ⟨d0,d1,d2,e0,e1,e2⟩:=cA hT2;have f0:=hX2.at_ (i:=0) rfl)|(go_at_call 19;refine (aQ k n ks A c _ (by omega) (((hr.alloc _).alloc _).alloc _)).mono ?_;rw [hv'.out];rintro e w1 ⟨rfl,hb1⟩;have hB1:=wE hb1;have hX1:Blk w1 (w.heap.size+1) #[.slice P xs.length cp]:=((aC _ 26 _ (by simp)).alloc _).keep hb1;have hT1:=pM hb1;have g1:Bw w w1:=bW bw3 hb1;have l1:w.heap.size+1+1<w1.heap.size:=hT1.lt;obtain ⟨p0,p1,p2⟩:=hB1.three;obtain ⟨d0,d1,d2,e0,e1,e2⟩:=cA hT1;have f0:=hX1.at_ (i:=0) rfl))
     have y:=fun (o:Obj)=>(((((hT7.set_ 0 (.int .i64 kd)).set_ 1 (.int .i64 nd)).set_ 2 (.slice A7 ksd.length c7)).alloc o:Blk _ _ (Ro kd nd A7 ksd.length c7))).three
     refine bodyPost_ret (v:=.tuple #[.agg (Ro kd nd A7 ksd.length c7),.bool true]) (by simp [results,results5,go_sem,d0,d1,d2,y]) rfl ⟨A7,c7,rfl,hl7,?_,?_⟩
     ·exact (((hf7.setCell (by first|omega|(simp;done)|(simp;omega)) _).setCell (by first|omega|(simp;done)|(simp;omega)) _).setCell (by first|omega|(simp;done)|(simp;omega)) _).mono (by omega)
     ·exact ((g7.setCell (by first|omega|(simp;done)|(simp;omega)) _).setCell (by first|omega|(simp;done)|(simp;omega)) _).setCell (by first|omega|(simp;done)|(simp;omega)) _
  ·have q1:((notes.length:Int) != ((aG ks+1:Nat):Int))=true:=by simp;omega
   have q1b:((notes.length:Int) != (aG ks:Int)+1)=true:=by simp;omega
   have hz:fC (.mk k n ks) notes xs=none:=by rw [fC,if_neg];rintro ⟨-,h⟩;rw [Tm.size] at h;exact hln h
   rw [hz];clear hz hln hv;go_enter func5,ntmps5;go_wp2_with (first|(go_at_call 20;refine (kD (aG ks+1) k n ks A c _ (by omega) (by omega) (hr.below g1)).mono ?_;rintro e w2 ⟨rfl,hb2⟩;have hB2:=(hB1).keep hb2;have hX2:=(hX1).keep hb2;have hT2:=(hT1).keep hb2;have g2:=g1.trans (hb2.mono g1.size);have l2:w.heap.size+1+1<w2.heap.size:=hT2.lt;clear p0 p1 p2 d0 d1 d2 e0 e1 e2 f0;obtain ⟨p0,p1,p2⟩:=hB2.three;obtain ⟨d0,d1,d2,e0,e1,e2⟩:=cA hT2;have f0:=hX2.at_ (i:=0) rfl)|(go_at_call 19;refine (aQ k n ks A c _ (by omega) (((hr.alloc _).alloc _).alloc _)).mono ?_;rw [hv'.out];rintro e w1 ⟨rfl,hb1⟩;have hB1:=wE hb1;have hX1:Blk w1 (w.heap.size+1) #[.slice P xs.length cp]:=((aC _ 26 _ (by simp)).alloc _).keep hb1;have hT1:=pM hb1;have g1:Bw w w1:=bW bw3 hb1;have l1:w.heap.size+1+1<w1.heap.size:=hT1.lt;obtain ⟨p0,p1,p2⟩:=hB1.three;obtain ⟨d0,d1,d2,e0,e1,e2⟩:=cA hT1;have f0:=hX1.at_ (i:=0) rfl))
   have y:=fun (o:Obj)=>(((((hT2.set_ 0 (.int .i64 0)).set_ 1 (.int .i64 0)).set_ 2 (.slice none 0 0)).alloc o:Blk _ _ Zr)).three
   refine bodyPost_ret (v:=.tuple #[dC,.bool false]) (by simp [results,results5,go_sem,d0,d1,d2,dC,y]) rfl ⟨rfl,?_⟩;first
    | exact ((g2.setCell (by first|omega|(simp;done)|(simp;omega)) _).setCell (by first|omega|(simp;done)|(simp;omega)) _).setCell (by first|omega|(simp;done)|(simp;omega)) _
    | exact (((g2.setCell (by first|omega|(simp;done)|(simp;omega)) _).setCell (by first|omega|(simp;done)|(simp;omega)) _).setCell (by first|omega|(simp;done)|(simp;omega)) _).alloc (by have:=g2.size;first|omega|(simp;omega)) _
    | exact ((((g2.alloc g2.size _).setCell (by first|omega|(simp;done)|(simp;omega)) _).setCell (by first|omega|(simp;done)|(simp;omega)) _).setCell (by first|omega|(simp;done)|(simp;omega)) _)
theorem kR (t:Tm):jO t t=true:=kC t
theorem dK {f:Nat}{args:Array Value}{w:World}{Q:Ending→World→Prop}(h:∀wx,wx=w→Calls prog f args wx Q):Calls prog f args w Q:=h w rfl
theorem iW {w:World}{o:Option Tm}{e:Ending}{w':World}(h:oX w o e w'){k n:Int}{ks:List Tm}(ho:o.getD (.mk 0 0 []) = .mk k n ks){b:Bool}(hb:o.isSome=b) :
  ∃A c,e = .returned (.tuple #[.agg (Ro k n A ks.length c),.bool b])∧ks.length≤9223372036854775807∧Rd w' A 0 ks∧Bw w w':=by
 cases o with
 | none=>
  obtain ⟨rfl,h2⟩:=iX h;subst hb;injection ho with e1 e2 e3;subst e1 e2 e3;exact ⟨none,0,rfl,by simp,Rd.nil,h2⟩
 | some t=>
  obtain ⟨k1,n1,ks1⟩:=t;obtain ⟨A,c,rfl,h1,h2,h3⟩:=dE h;subst hb;injection ho with e1 e2 e3;subst e1 e2 e3;exact ⟨A,c,rfl,h1,h2.rd,h3⟩
theorem mN:∀{ns:List Tm},(∀u,u∈ns→aE u=true)→aG ns≤400*ns.length
 | [],_=>by simp [aG]
 | t::ts,h=>by
  have h1:=cF (h t (List.mem_cons_self ..));have h2:=mN (fun u hu=>h u (List.mem_cons_of_mem _ hu));rw [aG,List.length_cons];omega
end Go.Proofs.YtddkehjdjfmhmaaGreat
