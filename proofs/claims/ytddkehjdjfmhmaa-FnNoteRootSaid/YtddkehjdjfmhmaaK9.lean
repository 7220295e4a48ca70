/-
 Contracts of the functions that the law reaches, and plain lemmas. No condition.
-/
import Derived.Test.YtddkehjdjfmhmaaK5
import Derived.Test.YtddkehjdjfmhmaaK7
import Derived.Test.YtddkehjdjfmhmaaK8
namespace Go.Proofs.Ytddkehjdjfmhmaa
set_option linter.unusedSimpArgs false
set_option linter.unusedVariables false
open Go.RowKit
theorem RdI.addr {w : World} {b off : Nat} {xs : List Int} (h : RdI w (some ⟨b, off, none⟩) xs) : ∀ j (hj : j < xs.length), w.cell? ((⟨b, off, none⟩ : Addr).add j) = some (.int .i64 xs[j]) := fun j hj => by
 obtain ⟨b1, o1, hA, hc⟩ := h j hj
 injection hA with hA
 injection hA with e1 e2
 subst e1 e2
 by_cases h0 : j = 0
 ·subst h0; simpa [Addr.add] using hc
 ·simpa [Addr.add, h0] using hc
theorem Blk.oneI {w : World} {z : Nat} {x : Int} (h : Blk w z #[.int .i64 x]) : ∀ j (hj : j < [x].length), w.cell? ((⟨z, 0, none⟩ : Addr).add j) = some (.int .i64 [x][j]) := fun j hj => by
 have h0 : j = 0 := by simp at hj; exact hj
 subst h0
 simpa [Addr.add] using h.at_ (i := 0) rfl
theorem RowI.some_ {B : Nat} {w : World} {v : Value} {xs : List Int} (h : RowI B w v xs) (hne : xs ≠ []) : ∃ g c, v = .slice (some ⟨g, 0, none⟩) xs.length c ∧ RdI w (some ⟨g, 0, none⟩) xs ∧ B ≤ g ∧ g < w.heap.size ∧ xs.length ≤ c := by
 obtain ⟨A, c, rfl, hi⟩ := h.form
 rcases h.2 with ⟨e, h0⟩ | ⟨g, cap, cur, e, hb, hg, hn, _⟩
 ·exact absurd (List.eq_nil_of_length_eq_zero h0) hne
 ·injection e with e1 e2 e3
  subst e1 e3
  exact ⟨g, c, rfl, hi, hb, (Array.getElem?_eq_some_iff.1 hg).1, hn⟩
theorem RowI.cap {B : Nat} {w : World} {A : Option Addr} {n c : Nat} {xs : List Int} (h : RowI B w (.slice A n c) xs) : xs.length ≤ c ∧ n = xs.length := by
 rcases h.2 with ⟨e, h0⟩ | ⟨g, cap, cur, e, hb, hg, hn, _⟩
 ·injection e with e1 e2 e3; exact ⟨by omega, by omega⟩
 ·injection e with e1 e2 e3; exact ⟨by omega, e2⟩
theorem RowP.own {B : Nat} {w : World} {v : Value} {ps : List (List Int)} (h : RowP B w v ps) : ∀ g, v.ownBlock = some g → B ≤ g ∧ g < w.heap.size := by
 obtain ⟨vs, h1, _⟩ := h
 exact fun g hg => h1.lt g hg
theorem RowP.drew {B : Nat} {w : World} {v : Value} {ps : List (List Int)} (h : RowP B w v ps) : RowP B w.drew v ps := h.below (Below.refl _ _).drew
theorem RowP.empty (w : World) {B : Nat} (hB : B ≤ w.heap.size) : RowP B (w.alloc (.cells #[] 26)) (.slice (some ⟨w.heap.size, 0, none⟩) 0 0) [] :=
 ⟨[], ⟨rfl, .inr ⟨w.heap.size, 0, #[], rfl, hB, heap_alloc_new w _, Nat.le_refl _, by simp [maxLen], rfl, rfl⟩⟩, fun j hj => absurd hj (Nat.not_lt_zero _)⟩
theorem grown_own {v vv : Value} {w w1 w2 : World} (h : w.grownBy w1 v.ownBlock) (o : OwnTo w v vv) (k : w1.grownBy w2 vv.ownBlock) : w.grownBy w2 v.ownBlock :=
 ⟨k.os.trans h.os, k.tape.trans h.tape, k.output.trans h.output, Nat.le_trans h.size k.size, fun i hi hne => (k.block i (Nat.lt_of_lt_of_le hi h.size) (fun e => (o.ne hi (fun e2 => hne e2.symm)) e.symm)).trans (h.block i hi hne)⟩
theorem wpList_append_pthG {B : Nat} {w : World} {v : Value} {ps : List (List Int)} {p : List Int} {A : Option Addr} {c : Nat} (hp : RowP B w v ps) (hB : B ≤ w.heap.size) {m : Nat} (hpl : ps.length = m) (hm : m + 1 ≤ 1099511627776) (hi : RdI w A p) (hcl : p.length ≤ c)
  (hne : ∀ a, A = some a → B ≤ a.block ∧ v.ownBlock ≠ some a.block ∧ a.block < w.heap.size) (g cc : Nat) (hb : Blk w g #[.slice A p.length c])
  {ops : Array Oper} {rest : List Oper} {o : Oper} {a : Act} {Q : Exit → Act → World → Prop} (hgd : o.guard = none) (s x : Operand)
  (ho : o.op = .call { callee := .builtin .append, args := #[s, x], argTypes := #[46, 46] }) (hs : a.eval s = v) (hx : a.eval x = .slice (some ⟨g, 0, none⟩) 1 cc)
  (h : ∀ A' c' w', RowP B w' (.slice A' (m + 1) c') (ps ++ [p]) → w.grownBy w' v.ownBlock → OwnTo w v (.slice A' (m + 1) c') → wpList Try.prog ops Q rest (a.put o.dst (.slice A' (m + 1) c')) w') :
  wpList Try.prog ops Q (o :: rest) a w := by
 subst hpl
 refine wpList_plain hgd fun K hK => ?_
 obtain ⟨v', w', hrun, h2, _, h4, h5⟩ := run_append_paths (w := w) (v := v) (ps := ps) (qs := [p]) (ad := ⟨g, 0, none⟩) (c := cc) o.type hp hB (by simpa using hm) (by
  intro j hj
  simp only [List.length_singleton] at hj
  obtain rfl : j = 0 := by omega
  exact ⟨A, c, by simpa [Addr.add] using hb.at_ (i := 0) rfl, hi, hcl, hne⟩)
 unfold Oper.wp execOp
 simp only [List.length_singleton] at hrun
 simp only [ho, resolve, invoke, builtin, Sem.run_bind, Sem.run_pure, Result.andThen_ok, List.map_toArray, List.map_cons, List.map_nil, hs, hx, hrun]
 obtain ⟨A', c', rfl, _⟩ := h2.form
 rw [List.length_append, List.length_singleton] at h2 h5 ⊢
 exact hK _ _ (h A' c' w' h2 h4 (h5.imp id fun e => ⟨_, Nat.le_refl _, e⟩))
def GotPl (B : Nat) (v : Value) (w : World) (ps : List (List Int)) (e : Ending) (w' : World) : Prop :=
 ∃ A c, e = .returned (.slice A ps.length c) ∧ RowP B w' (.slice A ps.length c) ps ∧ w.grownBy w' v.ownBlock ∧ OwnTo w v (.slice A ps.length c)
set_option maxHeartbeats 8000000 in
set_option maxRecDepth 100000 in
theorem l8Places_any (B : Nat) (N : Nat) : ∀ (k n : Int) (ks : List Tm) (A : Option Addr) (c : Nat) (p : List Int) (pb cp : Nat) (ps : List (List Int)) (V : Option Addr) (cv : Nat) (w : World), sizes ks < N → sizes ks ≤ 1000 → p.length + sizes ks ≤ 2000 → ps.length + sizes ks + 1 ≤ 1000000 → B ≤ w.heap.size → RdP (fun b => b < B) w A 0 ks → RdI w (some ⟨pb, 0, none⟩) p → p.length ≤ cp → pb < w.heap.size → (Value.slice V ps.length cv).ownBlock ≠ some pb → RowP B w (.slice V ps.length cv) ps →
  Calls Try.prog 55 #[.slice V ps.length cv, .agg #[.int .i64 k, .int .i64 n, .slice A ks.length c], .slice (some ⟨pb, 0, none⟩) p.length cp, .bool false] w (GotPl B (.slice V ps.length cv) w (ps ++ plT allT p (.mk k n ks))) := by
 induction N with
 | zero => intro k n ks A c p pb cp ps V cv w hN; exact absurd hN (Nat.not_lt_zero _)
 | succ N ih =>
 intro k n ks A c p pb cp ps V cv w hN hM hpl hps hB hr hi hcp hpb hvp hR
 have hlen := length_le_sizes ks
 have hpt : plT allT p (.mk k n ks) = p :: plL allT p 0 ks := by rw [plT, if_pos (show allT (.mk k n ks) = true from rfl)]; rfl
 have hpt' := hide hpt
 clear hpt
 have how := hR.own
 go_enter Try.func55, Try.ntmps55
 go_wp2_with (first
  | (at_builtin; have _t := tok1; refine name_list ?_; intro wx hwx; have hBx : Blk wx w1.heap.size #[.slice A3 p.length c3] := (by rw [hwx]; exact Blk.new_ _ _ _ rfl); have hRx : RowP B wx (.slice V ps.length cv) ps := (by rw [hwx]; exact hR1.alloc _); have hix : RdI wx A3 p := (by rw [hwx]; exact hi3.alloc _); have hKx : Blk wx w.heap.size #[.int .i64 k, .int .i64 n, .slice A ks.length c] := (by rw [hwx]; exact hK1.alloc _); have bx : Below w.heap.size w wx := (by rw [hwx]; exact by_alloc b1 _); clear hwx; have sx := hBx.lt; refine wpList_append_pthG (B := B) hRx (by omega) rfl (by omega) hix hc3.1 (fun a ha => ⟨by have := (hn3 a ha).1; omega, fun e => by have := (how _ e).2; have := (hn3 a ha).1; omega, by have := (hn3 a ha).2; omega⟩) _ 1 hBx rfl (.tmp 17) (.tmp 21) rfl rfl rfl ?_; intro A4 c4 w2 hR2 hg2 ho2; have hK2 := hKx.grown hg2 (fun e => by have := (how _ e.symm).2; omega); have g2 := only_trans (only_below (World.grownBy.refl _ _) bx) hg2; have o2 : OwnTo w (.slice V ps.length cv) (.slice A4 (ps.length + 1) c4) := ho2.imp id (fun ⟨g, h1, h2⟩ => ⟨g, by omega, h2⟩); have n2 : (Value.slice A4 (ps.length + 1) c4).ownBlock ≠ some w.heap.size := (ho2.ne (by omega) (fun e => by have := (how _ e).2; omega)))
  | (at_builtin; refine name_list ?_; intro wa hwa; have hRa : RowI (w.heap.size + 1) wa (.slice (some ⟨w.heap.size + 1, 0, none⟩) 0 0) [] := (by rw [hwa]; simpa using RowI.empty (w.alloc (.cells #[.int .i64 k, .int .i64 n, .slice A ks.length c] 25)) (B := w.heap.size + 1) (by simp)); have hia : RdI wa (some ⟨pb, 0, none⟩) p := (by rw [hwa]; exact (hi.alloc _).alloc _); have hKa : Blk wa w.heap.size #[.int .i64 k, .int .i64 n, .slice A ks.length c] := (by rw [hwa]; exact (Blk.new_ _ 25 _ rfl).alloc _); have ba : Below w.heap.size w wa := (by rw [hwa]; exact by_alloc (by_alloc (by_refl _) _) _); have hRoa : RowP B wa (.slice V ps.length cv) ps := (by rw [hwa]; exact (hR.below (by_alloc (by_alloc (by_refl _) _) _))); have sa : w.heap.size + 1 < wa.heap.size := (by rw [hwa]; simp); clear hwa; refine wpList_append_ints (B := w.heap.size + 1) (ys := p) (ad := ⟨pb, 0, none⟩) (c := cp) hRa (by omega) (by simp; omega) hia.addr rfl (.tmp 18) (.tmp 19) rfl rfl rfl ?_; intro v3 w1 hR3 hb3 hg3; rw [List.nil_append] at hR3; obtain ⟨A3, c3, rfl, hi3, hn3⟩ := hR3.form2; have hc3 := hR3.cap; have b1 := ba.trans (hb3.mono (by omega)); have hK1 := hKa.below hb3 (by omega); have hR1 : RowP B w1 (.slice V ps.length cv) ps := hR.below b1; have s1 := hb3.size; have tok1 := trivial))
 go_loopw [0, 9] (fun vv iv wr => ∃ (j : Nat) (A5 : Option Addr) (c5 : Nat) (ps5 : List (List Int)), j ≤ ks.length ∧ iv = .int .i64 j ∧ vv = .slice A5 ps5.length c5 ∧ ps5 = ps ++ [p] ++ plL allT p 0 (ks.take j) ∧ RowP B wr (.slice A5 ps5.length c5) ps5 ∧ Blk wr w.heap.size #[.int .i64 k, .int .i64 n, .slice A ks.length c] ∧ w.grownBy wr (Value.slice V ps.length cv).ownBlock ∧ OwnTo w (.slice V ps.length cv) (.slice A5 ps5.length c5) ∧ (Value.slice A5 ps5.length c5).ownBlock ≠ some w.heap.size)
  (fun _ iv _ => ks.length - (intOf iv).toNat)
 case atStart => exact ⟨0, A4, c4, ps ++ [p], Nat.zero_le _, rfl, by simp, by simp [plL], by simpa [plL] using hR2, hK2, g2, by simpa using o2, by simpa using n2⟩
 case round =>
  obtain ⟨j, A5, c5, ps5, hj, rfl, rfl, hps5, hR5, hK5, g5, o5, n5⟩ := hrel
  have hpl5 : ps5.length ≤ ps.length + 1 + sizes ks := by rw [hps5]; have := plL_le allT (ks.take j) p 0; have := sizes_take_leC ks j; simp; omega
  have hps5' := hide hps5
  clear hps5
  have s5 := g5.size
  have how5 := hR5.own
  have lK := hK5.lt
  have hr5 : RdP (fun b => b < B) _ A 0 ks := hr.grown g5 (fun b hb e => by have := (how b e.symm).1; omega)
  have hi5 := hi.grown g5 (fun a ha e => by injection ha with ha; subst ha; exact hvp e)
  have hvp5 : (Value.slice A5 ps5.length c5).ownBlock ≠ some pb := o5.ne hpb hvp
  obtain ⟨x0, x1, x2⟩ := hK5.three
  by_cases hlt : j < ks.length
  ·have hszj := sizes_takeC hlt
   have hle := sizes_take_leC ks (j + 1)
   obtain ⟨b, off, k', n', ks', A', c', rfl, hkj, hbl, hc1, hc2, hc3', hl', hr'⟩ := hr5.atp hlt
   rw [hkj] at hszj
   simp only [Tm.size] at hszj
   have hplt := plL_take allT p hlt
   rw [hkj] at hplt
   obtain ⟨q, hq0⟩ : ∃ q, p ++ [(j : Int)] = q := ⟨_, rfl⟩
   have hqq := hide hq0
   have hql : q.length ≤ p.length + 1 := by rw [← hq0]; simp
   have hqn : q ≠ [] := by rw [← hq0]; simp
   have hqn' := hide hqn
   rw [hq0] at hplt
   clear hq0 hqn
   have hplt' := hide hplt
   have hq := plL_le allT (ks.take j) p 0
   have hlps : ps5.length ≤ ps.length + 1 + sizes (ks.take j) := by rw [hps5'.out]; simp; omega
   have hlj : (j : Int) < (ks.length : Int) := by omega
   clear hplt hkj
   go_upto_region 6 with fail
   have y0 := rule_of hK5.three.2.2
   have y1 := rule_of hc1
   have y2 := rule_of hc2
   have y3 := rule_of hc3'
   clear x0 x1 x2 hc1 hc2 hc3'
   obtain ⟨q0, hq0⟩ : ∃ q0, q0 = wr.drew := ⟨_, rfl⟩
   have bq0 : Below wr.heap.size wr q0 := by rw [hq0]; exact by_drew (by_refl _)
   refine gC_start (fun w' => Below wr.heap.size wr w') [13, 14] 15 (by kernel_rfl) rfl ?_
   refine gC_take [0, 1, 2, 3, 4, 5, 7, 9, 12] (f := 6) (l' := #[true, true, true, true, true, true, false, true, false, true, false, false, true, false, false]) (lT := [_, _, _, _, _, _, _, _, _]) (by rw [← hq0]; exact bq0) rfl (by kernel_rfl) (by kernel_rfl) (by kernel_rfl) rfl (fun _ _ d _ _ h => by cases d <;> exact h) ?_
   repeat ((first | ((refine takeY_skip (a' := ?_) ?_ ?_ ?_); (rotate_left); (· (simp [Region.wanted, yielded]; done))) | ((refine takeY_step (v := ?_) (a' := ?_) ?_ ?_ ?_ ?_); (rotate_left 2); (· (simp [Region.wanted, yielded]; done)); (· (intro w' hS'; go_simp; try (with_reducible rfl))))); (· (simp only [List.getElem_toArray, List.getElem_cons_zero, List.getElem_cons_succ, Act.put, List.setIfInBounds_toArray, List.set_cons_zero, List.set_cons_succ]; exact rfl)))
   refine takeY_nil ?_
   rw [← hq0]
   clear hq0 y0 y1 y2 y3
   refine gC_two (i := 6) (j := 10) (by kernel_rfl) rfl rfl ?_ ?_
   ·go_wp2_with fail
    refine name_midw ?_
    intro p1 hn
    have bp1 : Below wr.heap.size wr p1 := by rw [hn]; exact by_alloc bq0 _
    have sp1 := bq0.size
    have ltp1 : q0.heap.size < p1.heap.size := by rw [hn]; simp
    have ep1 : RowI wr.heap.size p1 (.slice (some ⟨q0.heap.size, 0, none⟩) 0 0) [] := by rw [hn]; exact RowI.empty q0 bq0.size
    clear hn
    refine mid_intro bp1 ?_
    refine gC_two (i := 8) (j := 10) (by kernel_rfl) rfl rfl ?_ ?_
    ·have sp2 := bp1.size
     refine wpList_append_ints (B := wr.heap.size) (ys := p) (ad := ⟨pb, 0, none⟩) (c := cp) ep1 sp2 (by simp; omega) (hi5.below bp1).addr rfl (.tmp 36) (.tmp 37) rfl rfl rfl ?_
     intro vp2 p2 rp2 hp2 hgp2
     rw [List.nil_append] at rp2
     obtain ⟨Ap2, cp2, hvp2, -, -⟩ := rp2.form2
     subst hvp2
     go_wp2_with fail
     have bp2 : Below wr.heap.size wr p2 := bp1.trans hp2
     refine mid_intro bp2 ?_
     refine gC_one (i := 10) (by kernel_rfl) rfl ?_
     ·go_wp2_with fail
      refine name_midw ?_
      intro p3 hn
      have bp3 : Below wr.heap.size wr p3 := by rw [hn]; exact by_alloc bp2 _
      have sp3 := bp2.size
      have ltp3 : p2.heap.size < p3.heap.size := by rw [hn]; simp
      have zp3 : Blk p3 p2.heap.size #[.int .i64 j] := by rw [hn]; exact Blk.new_ _ 3 _ rfl
      have rp3 := rp2.alloc (.cells #[.int .i64 j] 3)
      rw [← hn] at rp3
      clear hn
      refine mid_intro bp3 ?_
      refine gC_one (i := 11) (by kernel_rfl) rfl ?_
      ·have sp4 := bp3.size
       refine wpList_append_ints (B := wr.heap.size) (xs := p) (ys := [(j : Int)]) (ad := ⟨p2.heap.size, 0, none⟩) (c := 1) rp3 sp4 (by simp; omega) zp3.oneI rfl (.tmp 38) (.tmp 40) rfl rfl rfl ?_
       intro vp4 p4 rp4 hp4 hgp4
       rw [hqq.out] at rp4
       obtain ⟨gp4, cp4, hvp4, hip4, hgBp4, hglp4, hgcp4⟩ := rp4.some_ hqn'.out
       subst hvp4
       go_wp2_with fail
       have bp4 : Below wr.heap.size wr p4 := bp3.trans hp4
       refine mid_intro bp4 ?_
       refine gC_end [13, 14] (lB := [_, _]) (by simp) (by kernel_rfl) (by kernel_rfl) rfl ?_
       have hRw := hR5.below bp4
       have sw := bp4.size
       go_wp2_with (go_at_call 55; refine (ih k' n' ks' A' c' q gp4 cp4 ps5 A5 c5 p4 (by omega) (by omega) (by omega) (by omega) (by omega) (hr'.below bp4) hip4 hgcp4 hglp4 (fun e => by have := (how5 _ e).2; omega) hRw).mono ?_; rintro e w9 ⟨A9, c9, rfl, hR9, hg9, ho9⟩)
       go_roundw
       case rel =>
        have gw : w.grownBy p4 (Value.slice V ps.length cv).ownBlock := only_below g5 bp4
        refine ⟨j + 1, A9, c9, _, hlt, by go_num, by rw [List.length_append], ?_, hR9, ?_, grown_own gw o5 hg9, o5.trans ho9 gw.size, ?_⟩
        ·rw [hplt'.out, ← List.append_assoc, ← hps5'.out]
        ·exact (hK5.keep bp4).grown hg9 (fun e => n5 e.symm)
        ·exact ho9.ne (by omega) n5
       case measure => simp [intOf]; omega
    ·go_wp2_with fail
     refine name_midw ?_
     intro p5 hn
     have bp5 : Below wr.heap.size wr p5 := by rw [hn]; exact by_alloc bp1 _
     have sp5 := bp1.size
     have ltp5 : p1.heap.size < p5.heap.size := by rw [hn]; simp
     have zp5 : Blk p5 p1.heap.size #[.int .i64 j] := by rw [hn]; exact Blk.new_ _ 3 _ rfl
     have ep5 := ep1.alloc (.cells #[.int .i64 j] 3)
     rw [← hn] at ep5
     clear hn
     refine mid_intro bp5 ?_
     refine gC_one (i := 8) (by kernel_rfl) rfl ?_
     ·have sp6 := bp5.size
      refine wpList_append_ints (B := wr.heap.size) (ys := p) (ad := ⟨pb, 0, none⟩) (c := cp) ep5 sp6 (by simp; omega) (hi5.below bp5).addr rfl (.tmp 36) (.tmp 37) rfl rfl rfl ?_
      intro vp6 p6 rp6 hp6 hgp6
      rw [List.nil_append] at rp6
      obtain ⟨Ap6, cp6, hvp6, -, -⟩ := rp6.form2
      subst hvp6
      go_wp2_with fail
      have bp6 : Below wr.heap.size wr p6 := bp5.trans hp6
      have zp6 := zp5.grown hgp6 (by simp [Value.ownBlock]; omega)
      refine mid_intro bp6 ?_
      refine gC_one (i := 11) (by kernel_rfl) rfl ?_
      ·have sp7 := bp6.size
       refine wpList_append_ints (B := wr.heap.size) (xs := p) (ys := [(j : Int)]) (ad := ⟨p1.heap.size, 0, none⟩) (c := 1) rp6 sp7 (by simp; omega) zp6.oneI rfl (.tmp 38) (.tmp 40) rfl rfl rfl ?_
       intro vp7 p7 rp7 hp7 hgp7
       rw [hqq.out] at rp7
       obtain ⟨gp7, cp7, hvp7, hip7, hgBp7, hglp7, hgcp7⟩ := rp7.some_ hqn'.out
       subst hvp7
       go_wp2_with fail
       have bp7 : Below wr.heap.size wr p7 := bp6.trans hp7
       refine mid_intro bp7 ?_
       refine gC_end [13, 14] (lB := [_, _]) (by simp) (by kernel_rfl) (by kernel_rfl) rfl ?_
       have hRw := hR5.below bp7
       have sw := bp7.size
       go_wp2_with (go_at_call 55; refine (ih k' n' ks' A' c' q gp7 cp7 ps5 A5 c5 p7 (by omega) (by omega) (by omega) (by omega) (by omega) (hr'.below bp7) hip7 hgcp7 hglp7 (fun e => by have := (how5 _ e).2; omega) hRw).mono ?_; rintro e w9 ⟨A9, c9, rfl, hR9, hg9, ho9⟩)
       go_roundw
       case rel =>
        have gw : w.grownBy p7 (Value.slice V ps.length cv).ownBlock := only_below g5 bp7
        refine ⟨j + 1, A9, c9, _, hlt, by go_num, by rw [List.length_append], ?_, hR9, ?_, grown_own gw o5 hg9, o5.trans ho9 gw.size, ?_⟩
        ·rw [hplt'.out, ← List.append_assoc, ← hps5'.out]
        ·exact (hK5.keep bp7).grown hg9 (fun e => n5 e.symm)
        ·exact ho9.ne (by omega) n5
       case measure => simp [intOf]; omega
   ·go_wp2_with fail
    refine name_midw ?_
    intro p8 hn
    have bp8 : Below wr.heap.size wr p8 := by rw [hn]; exact by_alloc bq0 _
    have sp8 := bq0.size
    have ltp8 : q0.heap.size < p8.heap.size := by rw [hn]; simp
    have zp8 : Blk p8 q0.heap.size #[.int .i64 j] := by rw [hn]; exact Blk.new_ _ 3 _ rfl
    clear hn
    refine mid_intro bp8 ?_
    refine gC_one (i := 6) (by kernel_rfl) rfl ?_
    ·go_wp2_with fail
     refine name_midw ?_
     intro p9 hn
     have bp9 : Below wr.heap.size wr p9 := by rw [hn]; exact by_alloc bp8 _
     have sp9 := bp8.size
     have ltp9 : p8.heap.size < p9.heap.size := by rw [hn]; simp
     have ep9 : RowI wr.heap.size p9 (.slice (some ⟨p8.heap.size, 0, none⟩) 0 0) [] := by rw [hn]; exact RowI.empty p8 bp8.size
     have zzp9 := zp8.alloc (.cells #[] 3)
     rw [← hn] at zzp9
     clear hn
     refine mid_intro bp9 ?_
     refine gC_one (i := 8) (by kernel_rfl) rfl ?_
     ·have sp10 := bp9.size
      refine wpList_append_ints (B := wr.heap.size) (ys := p) (ad := ⟨pb, 0, none⟩) (c := cp) ep9 sp10 (by simp; omega) (hi5.below bp9).addr rfl (.tmp 36) (.tmp 37) rfl rfl rfl ?_
      intro vp10 p10 rp10 hp10 hgp10
      rw [List.nil_append] at rp10
      obtain ⟨Ap10, cp10, hvp10, -, -⟩ := rp10.form2
      subst hvp10
      go_wp2_with fail
      have bp10 : Below wr.heap.size wr p10 := bp9.trans hp10
      have zp10 := zzp9.grown hgp10 (by simp [Value.ownBlock]; omega)
      refine mid_intro bp10 ?_
      refine gC_one (i := 11) (by kernel_rfl) rfl ?_
      ·have sp11 := bp10.size
       refine wpList_append_ints (B := wr.heap.size) (xs := p) (ys := [(j : Int)]) (ad := ⟨q0.heap.size, 0, none⟩) (c := 1) rp10 sp11 (by simp; omega) zp10.oneI rfl (.tmp 38) (.tmp 40) rfl rfl rfl ?_
       intro vp11 p11 rp11 hp11 hgp11
       rw [hqq.out] at rp11
       obtain ⟨gp11, cp11, hvp11, hip11, hgBp11, hglp11, hgcp11⟩ := rp11.some_ hqn'.out
       subst hvp11
       go_wp2_with fail
       have bp11 : Below wr.heap.size wr p11 := bp10.trans hp11
       refine mid_intro bp11 ?_
       refine gC_end [13, 14] (lB := [_, _]) (by simp) (by kernel_rfl) (by kernel_rfl) rfl ?_
       have hRw := hR5.below bp11
       have sw := bp11.size
       go_wp2_with (go_at_call 55; refine (ih k' n' ks' A' c' q gp11 cp11 ps5 A5 c5 p11 (by omega) (by omega) (by omega) (by omega) (by omega) (hr'.below bp11) hip11 hgcp11 hglp11 (fun e => by have := (how5 _ e).2; omega) hRw).mono ?_; rintro e w9 ⟨A9, c9, rfl, hR9, hg9, ho9⟩)
       go_roundw
       case rel =>
        have gw : w.grownBy p11 (Value.slice V ps.length cv).ownBlock := only_below g5 bp11
        refine ⟨j + 1, A9, c9, _, hlt, by go_num, by rw [List.length_append], ?_, hR9, ?_, grown_own gw o5 hg9, o5.trans ho9 gw.size, ?_⟩
        ·rw [hplt'.out, ← List.append_assoc, ← hps5'.out]
        ·exact (hK5.keep bp11).grown hg9 (fun e => n5 e.symm)
        ·exact ho9.ne (by omega) n5
       case measure => simp [intOf]; omega
  ·have hjl : j = ks.length := by omega
   subst hjl
   go_wp2_with fail
   go_ret
   have e : ps5 = ps ++ plT allT p (.mk k n ks) := by rw [hps5'.out, hpt'.out, List.take_length]; simp
   subst e
   exact ⟨A5, c5, rfl, hR5, g5, o5⟩
theorem plT_len (t : Tm) : ∀ (p x : List Int), x ∈ plT allT p t → x.length ≤ p.length + t.size := by
 refine (Tm.ind2 (p := fun t => ∀ (p x : List Int), x ∈ plT allT p t → x.length ≤ p.length + t.size) (q := fun ts => ∀ (p : List Int) (i : Nat) (x : List Int), x ∈ plL allT p i ts → x.length ≤ p.length + 1 + sizes ts) ?_ ?_ ?_).1 t
 ·intro k n ks ih p x hx
  rw [plT, if_pos (show allT (.mk k n ks) = true from rfl)] at hx
  rw [Tm.size]
  rcases List.mem_append.1 hx with hx | hx
  ·rw [List.mem_singleton] at hx; subst hx; omega
  ·have := ih p 0 x hx; omega
 ·intro p i x hx; rw [plL] at hx; cases hx
 ·intro t ts h1 h2 p i x hx
  rw [plL] at hx
  rw [sizes]
  rcases List.mem_append.1 hx with hx | hx
  ·have := h1 _ x hx; simp at this; omega
  ·have := h2 p (i + 1) x hx; omega
def GotPs (w : World) (ps : List (List Int)) (e : Ending) (w' : World) : Prop :=
 ∃ g c, e = .returned (.slice (some ⟨g, 0, none⟩) ps.length c) ∧ w.heap.size ≤ g ∧ g < w'.heap.size ∧ Below w.heap.size w w' ∧
  ∀ j (hj : j < ps.length), ∃ P cp, w'.cell? ⟨g, j, none⟩ = some (.slice P ps[j].length cp) ∧ RdI w' P ps[j] ∧ ps[j].length ≤ cp ∧ ∀ a, P = some a → w.heap.size ≤ a.block
set_option maxHeartbeats 4000000 in
set_option maxRecDepth 100000 in
theorem placesOf_any (k n : Int) (ks : List Tm) (A : Option Addr) (c : Nat) (w : World) (hv : validT (.mk k n ks) = true) (hr : Rd w A 0 ks) :
  Calls Try.prog 35 #[.agg #[.int .i64 k, .int .i64 n, .slice A ks.length c]] w (GotPs w (plT allT [] (.mk k n ks))) := by
 have hlen := length_le_sizes ks
 have hzk := validT_size hv
 rw [Tm.size] at hzk
 have hv' := hide hv
 clear hv
 go_enter Try.func35, Try.ntmps35
 go_wp2_with (first
  | (go_at_call 55; refine name_callsC ?_; intro wx hwx; have bx : Below w1.heap.size w1 wx := (by rw [hwx]; exact by_alloc (by_alloc (by_refl _) _) _); have hRx : RowP w.heap.size wx (.slice (some ⟨w1.heap.size, 0, none⟩) 0 0) [] := (by rw [hwx]; exact (RowP.empty w1 g1.size).alloc _); have lx1 : w1.heap.size + 1 < wx.heap.size := (by rw [hwx]; simp); clear hwx; have rx := ((hr.rdp.mono (q := fun b => b < w.heap.size) (fun b hb => hb)).below g1).below bx; refine (l8Places_any w.heap.size _ k n ks A c [] (w1.heap.size + 1) 0 [] (some ⟨w1.heap.size, 0, none⟩) 0 wx (Nat.lt_succ_self _) (by omega) (by simp; omega) (by simp; omega) (by have := g1.size; omega) rx (fun j hj => absurd hj (Nat.not_lt_zero _)) (Nat.le_refl _) (by omega) (by simp [Value.ownBlock]) hRx).mono ?_; rintro e w2 ⟨A2, c2, rfl, hR2, hg2, ho2⟩)
  | (go_at_call 30; refine (sTermValid_any k n ks A c _ (by omega) (hr.alloc _)).mono ?_; rw [hv'.out]; rintro e w1 ⟨rfl, hb1⟩; have hX := (Blk.new_ w 25 #[.int .i64 k, .int .i64 n, .slice A ks.length c] rfl).keep hb1; obtain ⟨x0, x1, x2⟩ := hX.three; have lX := hX.lt; have lX1 : w.heap.size < w1.heap.size + 1 := (by omega); have g1 : Below w.heap.size w w1 := (by_alloc (by_refl _) _).trans (hb1.mono (by simp))))
 go_ret
 rw [List.nil_append] at hR2
 obtain ⟨vs, h1, h2⟩ := hR2
 have s1 := g1.size
 have sx := bx.size
 have hb2 : Below w.heap.size w w2 := by
  have hbx := g1.trans (bx.mono s1)
  exact ⟨hg2.os.trans hbx.os, hg2.tape.trans hbx.tape, hg2.output.trans hbx.output, Nat.le_trans hbx.size hg2.size, fun i hi => (hg2.block i (by omega) (by simp [Value.ownBlock]; omega)).trans (hbx.block i hi)⟩
 have hln : (plT allT [] (.mk k n ks)).length ≠ 0 := by rw [pl_length, Tm.size]; omega
 rcases h1.2 with ⟨e, h0⟩ | ⟨g, cap, cur, e, hgB, hg, hn, hm, hs, htk⟩
 ·exact absurd h0 hln
 ·injection e with e1 e2 e3
  subst e1 e3
  refine ⟨g, c2, rfl, hgB, (Array.getElem?_eq_some_iff.1 hg).1, hb2, fun j hj => ?_⟩
  obtain ⟨P, cp, e, hi, hcl, hne⟩ := h2 j hj
  refine ⟨P, cp, ?_, hi, hcl, fun a ha => (hne a ha).1⟩
  rw [cell_of_row w2 g j cur 26 (0, 0) hg]
  rw [← htk, Nat.mul_one, List.getElem?_take, if_pos hj] at e
  simpa using e
open Go.RowKit
mutual
def sbS (u : Tm) : Int → Int → Tm → Tm
 | x, d, .mk k n ks => if k = 1 ∧ n = x then shS d 0 u else .mk k (if k = 1 ∧ x < n then n - 1 else n) (sbSL u k x d 0 ks)
def sbSL (u : Tm) : Int → Int → Int → Nat → List Tm → List Tm | _, _, _, _, [] => [] | k, x, d, i, t :: ts => sbS u (x + under k i) (d + under k i) t :: sbSL u k x d (i + 1) ts
end
theorem sbSL_append (u : Tm) (k x d : Int) (us : List Tm) : ∀ (ts : List Tm) (i : Nat), sbSL u k x d i (ts ++ us) = sbSL u k x d i ts ++ sbSL u k x d (i + ts.length) us
 | [], i => by simp [sbSL]
 | t :: ts, i => by rw [List.cons_append, sbSL, sbSL, sbSL_append u k x d us ts (i + 1), List.cons_append, List.length_cons, show i + 1 + ts.length = i + (ts.length + 1) from by omega]
theorem sbSL_length (u : Tm) (k x d : Int) : ∀ (ts : List Tm) (i : Nat), (sbSL u k x d i ts).length = ts.length
 | [], i => by simp [sbSL]
 | t :: ts, i => by rw [sbSL, List.length_cons, List.length_cons, sbSL_length u k x d ts (i + 1)]
theorem sbSL_take (u : Tm) (k x d : Int) {ks : List Tm} {j : Nat} (hj : j < ks.length) : sbSL u k x d 0 (ks.take (j + 1)) = sbSL u k x d 0 (ks.take j) ++ [sbS u (x + under k j) (d + under k j) ks[j]] := by
 rw [List.take_succ_eq_append_getElem hj, sbSL_append, List.length_take, Nat.min_eq_left (Nat.le_of_lt hj), Nat.zero_add, sbSL, sbSL]
theorem sbS_size (u : Tm) {m : Nat} (hm : u.size ≤ m) (h1 : 1 ≤ m) (t : Tm) : ∀ x d, (sbS u x d t).size ≤ t.size * m := by
 refine (Tm.ind2 (p := fun t => ∀ x d, (sbS u x d t).size ≤ t.size * m) (q := fun ts => ∀ k x d i, sizes (sbSL u k x d i ts) ≤ sizes ts * m) ?_ ?_ ?_).1 t
 ·intro k n ks ih x d
  rw [sbS]
  split
  ·rw [shS_size, Tm.size, Nat.add_mul]
   omega
  ·have := ih k x d 0
   rw [Tm.size, Tm.size, Nat.add_mul]
   omega
 ·intro k x d i; simp [sbSL, sizes]
 ·intro t ts h1 h2 k x d i
  have a := h1 (x + under k i) (d + under k i)
  have b := h2 k x d (i + 1)
  rw [sbSL, sizes, sizes, Nat.add_mul]
  omega
set_option maxHeartbeats 2000000 in
set_option maxRecDepth 100000 in
theorem sSubst_any (ku nu : Int) (us : List Tm) (hus : shape 30 (.mk ku nu us) = true) (huz : sizes us ≤ 1000000) (N : Nat) : ∀ (k n : Int) (ks : List Tm) (A : Option Addr) (c : Nat) (U : Option Addr) (cu : Nat) (x d : Int) (q : Nat) (w : World), sizes ks < N → sizes ks ≤ 1000000 → shape q (.mk k n ks) = true → 0 ≤ x → x + q ≤ 900 → 0 ≤ d → d + q ≤ 900 → Rd w A 0 ks → Rd w U 0 us →
  ∀ (k2 n2 : Int) (ks2 : List Tm), sbS (.mk ku nu us) x d (.mk k n ks) = .mk k2 n2 ks2 →
  Calls Try.prog 87 #[.agg #[.int .i64 k, .int .i64 n, .slice A ks.length c], .int .i64 x, .agg #[.int .i64 ku, .int .i64 nu, .slice U us.length cu], .int .i64 d] w (GotT w k2 n2 ks2) := by
 induction N with
 | zero => intro k n ks A c U cu x d q w hN; exact absurd hN (Nat.not_lt_zero _)
 | succ N ih =>
 intro k n ks A c U cu x d q w hN hM hsh hx0 hxq hd0 hdq hr hru kr nr ksr hfl
 have hlen := length_le_sizes ks
 obtain ⟨q, rfl⟩ : ∃ q', q = q' + 1 := by cases q with | zero => simp [shape] at hsh | succ q => exact ⟨q, rfl⟩
 obtain ⟨ha, hm1, hm2, hkids⟩ := (shape_split q k n ks).1 hsh
 rw [sbS] at hfl
 have hus' := hide hus
 by_cases hk : k = 1
 ·subst hk
  have hks : ks = [] := by
   have h0 : arity 1 = 0 := rfl
   rw [h0] at ha
   exact List.eq_nil_of_length_eq_zero (by omega)
  subst hks
  have h20 : mostN 1 = 20 := rfl
  rw [h20] at hm2
  clear hkids hsh ha h20
  by_cases hnx : n = x
  ·rw [if_pos ⟨rfl, hnx⟩, shS] at hfl
   injection hfl with h1 h2 h3
   subst h1 h2 h3
   obtain ⟨n2, hn2⟩ : ∃ n2, (if ku = 1 ∧ 0 ≤ nu then nu + d else nu) = n2 := ⟨_, rfl⟩
   have hn2' := hide hn2
   rw [hn2]
   clear hn2
   subst hnx
   go_enter Try.func87, Try.ntmps87
   go_wp2_with (go_at_call 90; refine (sShift_any _ ku nu us U cu d 0 30 _ (Nat.lt_succ_self _) (by omega) hus'.out (by omega) (by omega) (by omega) (((hru.alloc _).alloc _).alloc _)).mono ?_; rw [hn2'.out]; rintro e w1 ⟨A1, c1, rfl, hl1, hf1, hb1⟩; have hT : Blk w1 (w.heap.size + 1 + 1) #[.int .i64 0, .int .i64 0, .slice none 0 0] := (Blk.new_ _ 25 _ (by simp)).keep hb1; obtain ⟨d0, d1, d2⟩ := hT.three; have e0 := hT.frozen 0; have e1 := hT.frozen 1; have e2 := hT.frozen 2; replace hf1 : Fresh (w.heap.size + 3) w1 A1 (shSL d ku 0 0 us) := hf1.mono (by simp); replace hb1 : Below w.heap.size w w1 := ((((Below.refl _ _).alloc (Nat.le_refl _) _).alloc (by simp) _).alloc (by simp; omega) _).trans (hb1.mono (by simp; omega)))
   refine bodyPost_ret (v := .agg #[.int .i64 ku, .int .i64 n2, .slice A1 (shSL d ku 0 0 us).length c1]) (by simp [results, Try.results87, go_sem, d0, d1, d2]) rfl ⟨A1, c1, by simp, hl1, ?_, ?_⟩
   ·exact (((hf1.setCell (by simp) _).setCell (by simp) _).setCell (by simp) _).mono (by omega)
   ·exact ((hb1.setCell (by simp; omega) _).setCell (by simp; omega) _).setCell (by simp; omega) _
  ·rw [if_neg (by rintro ⟨-, h⟩; exact hnx h)] at hfl
   have q0 : (n == x) = false := by simpa using hnx
   by_cases hxn : x < n
   ·rw [if_pos ⟨rfl, hxn⟩] at hfl
    injection hfl with h1 h2 h3
    subst h1 h2 h3
    have q2 : decide (x < n) = true := by simpa using hxn
    clear hnx
    go_enter Try.func87, Try.ntmps87
    go_wp2_with fail
    go_loopw [10] (fun i wr => i = .int .i64 0 ∧ Blk wr (w.heap.size + 1 + 1 + 1) #[.int .i64 1, .int .i64 (n - 1), .slice none 0 0] ∧ Blk wr (w.heap.size + 1 + 1) #[.int .i64 0, .int .i64 0, .slice none 0 0] ∧ Blk wr w.heap.size #[.int .i64 1, .int .i64 n, .slice A 0 c] ∧ Below w.heap.size w wr)
     (fun _ _ => 0)
    case atStart => exact ⟨rfl, Blk.new_ _ _ _ (by simp), (Blk.new_ _ _ _ (by simp)).alloc _, (((Blk.new_ _ _ _ rfl).alloc _).alloc _).alloc _, ((((Below.refl _ _).alloc (by simp) _).alloc (by simp) _).alloc (by simp; omega) _).alloc (by simp; omega) _⟩
    case round =>
     obtain ⟨rfl, hB3, hB2, hB1, hb⟩ := hrel
     have b2 := hB1.at_ (i := 2) rfl
     obtain ⟨c0, c1, c2⟩ := hB3.three
     obtain ⟨d0, d1, d2⟩ := hB2.three
     have e0 := hB2.frozen 0
     have e1 := hB2.frozen 1
     have e2 := hB2.frozen 2
     go_wp2_with fail
     refine bodyPost_ret (v := .agg #[.int .i64 1, .int .i64 (n - 1), .slice none 0 0]) (by simp [results, Try.results87, go_sem, d0, d1, d2]) rfl ⟨none, 0, by simp [sbSL], by simp [sbSL], ?_, ?_⟩
     ·simpa [sbSL] using (Fresh.nil : Fresh w.heap.size _ none [])
     ·exact ((hb.setCell (by simp; omega) _).setCell (by simp; omega) _).setCell (by simp; omega) _
   ·rw [if_neg (by rintro ⟨-, h⟩; exact hxn h)] at hfl
    injection hfl with h1 h2 h3
    subst h1 h2 h3
    have q2 : decide (x < n) = false := by simpa using hxn
    clear hnx
    go_enter Try.func87, Try.ntmps87
    go_wp2_with fail
    go_loopw [10] (fun i wr => i = .int .i64 0 ∧ Blk wr (w.heap.size + 1 + 1 + 1) #[.int .i64 1, .int .i64 (n), .slice none 0 0] ∧ Blk wr (w.heap.size + 1 + 1) #[.int .i64 0, .int .i64 0, .slice none 0 0] ∧ Blk wr w.heap.size #[.int .i64 1, .int .i64 n, .slice A 0 c] ∧ Below w.heap.size w wr)
     (fun _ _ => 0)
    case atStart => exact ⟨rfl, Blk.new_ _ _ _ (by simp), (Blk.new_ _ _ _ (by simp)).alloc _, (((Blk.new_ _ _ _ rfl).alloc _).alloc _).alloc _, ((((Below.refl _ _).alloc (by simp) _).alloc (by simp) _).alloc (by simp; omega) _).alloc (by simp; omega) _⟩
    case round =>
     obtain ⟨rfl, hB3, hB2, hB1, hb⟩ := hrel
     have b2 := hB1.at_ (i := 2) rfl
     obtain ⟨c0, c1, c2⟩ := hB3.three
     obtain ⟨d0, d1, d2⟩ := hB2.three
     have e0 := hB2.frozen 0
     have e1 := hB2.frozen 1
     have e2 := hB2.frozen 2
     go_wp2_with fail
     refine bodyPost_ret (v := .agg #[.int .i64 1, .int .i64 (n), .slice none 0 0]) (by simp [results, Try.results87, go_sem, d0, d1, d2]) rfl ⟨none, 0, by simp [sbSL], by simp [sbSL], ?_, ?_⟩
     ·simpa [sbSL] using (Fresh.nil : Fresh w.heap.size _ none [])
     ·exact ((hb.setCell (by simp; omega) _).setCell (by simp; omega) _).setCell (by simp; omega) _
 ·have hn : ¬ (k = 1 ∧ n = x) := by rintro ⟨h, -⟩; exact hk h
  rw [if_neg hn, if_neg (by rintro ⟨h, -⟩; exact hk h)] at hfl
  injection hfl with h1 h2 h3
  subst h1 h2 h3
  have hkids' := hide hkids
  have hm2' := hide hm2
  clear hkids ha hsh hm2
  have q1 : (k == 1) = false := by simpa using hk
  clear hn hk
  go_enter Try.func87, Try.ntmps87
  go_wp2_with fail
  go_loopw [10, 11] (fun i _ wr => ∃ (j : Nat) (v : Value), j ≤ ks.length ∧ i = .int .i64 j ∧ Part (w.heap.size + 4) wr v (sbSL (.mk ku nu us) k x d 0 (ks.take j)) ∧ Blk wr (w.heap.size + 1 + 1 + 1) #[.int .i64 k, .int .i64 (n), v] ∧ Blk wr (w.heap.size + 1 + 1) #[.int .i64 0, .int .i64 0, .slice none 0 0] ∧ Blk wr (w.heap.size + 1) #[.int .i64 ku, .int .i64 nu, .slice U us.length cu] ∧ Blk wr w.heap.size #[.int .i64 k, .int .i64 n, .slice A ks.length c] ∧ Below w.heap.size w wr)
   (fun i _ _ => ks.length - (intOf i).toNat)
  case atStart => exact ⟨0, _, Nat.zero_le _, rfl, Part.nil, Blk.new_ _ _ _ (by simp), (Blk.new_ _ _ _ (by simp)).alloc _, ((Blk.new_ _ _ _ (by simp)).alloc _).alloc _, (((Blk.new_ _ _ _ rfl).alloc _).alloc _).alloc _, ((((Below.refl _ _).alloc (by simp) _).alloc (by simp) _).alloc (by simp; omega) _).alloc (by simp; omega) _⟩
  case round =>
   obtain ⟨j, v, hj, rfl, hp, hB3, hB2, hBu, hB1, hb⟩ := hrel
   have c12 := hB1.at_ (i := 2) rfl
   have c10 := hB1.at_ (i := 0) rfl
   by_cases hlt : j < ks.length
   ·obtain ⟨b, off, k', n', ks', A', c', rfl, hkj, hc1, hc2, hc3, hl', hr'⟩ := (hr.below hb).at_ hlt
    have hsz := sizes_le (List.getElem_mem hlt)
    have hsk := hkids'.out _ (List.getElem_mem hlt)
    rw [hkj] at hsz hsk
    simp only [Tm.size] at hsz
    have H3 := hide hkj
    have H4 := hide hsk
    clear hkj hsk
    have hz := hB3.lt
    obtain ⟨k2, n2, ks2, hct⟩ : ∃ k2 n2 ks2, sbS (.mk ku nu us) (x + under k j) (d + under k j) (.mk k' n' ks') = .mk k2 n2 ks2 := tm_eta _
    have hct' := hide hct
    clear hct
    have hun := under_le k j
    go_wp2_with (go_at_call 94; refine (sUnder_any _ _ _).mono ?_; rintro e w9 ⟨rfl, rfl⟩)
    have x2 := hB3.rule (i := 2) rfl
    have a0 := hBu.rule (i := 0) rfl
    have a1 := hBu.rule (i := 1) rfl
    have a2 := hBu.rule (i := 2) rfl
    have b2 := hB1.rule (i := 2) rfl
    have y0 := rule_of hc1
    have y1 := rule_of hc2
    have y2 := rule_of hc3
    refine wp_region_firstY (fun w' => Below wr.heap.size wr w') [0, 1, 2, 3, 4, 5, 6, 7, 8, 9, 10, 11, 12, 13] [14, 15] [16, 17, 18] [_, _, _, _, _, _, _, _, _, _, _, _, _, _] [_, _] [_, _, _] (by kernel_rfl) (by kernel_rfl) rfl rfl rfl (fun _ _ d _ _ h => by cases d <;> exact h) (Below.refl _ _).drew ?_
    repeat ((first | ((refine takeY_skip (a' := ?_) ?_ ?_ ?_); (rotate_left); (· (simp [Region.wanted, yielded]; done))) | ((refine takeY_step (v := ?_) (a' := ?_) ?_ ?_ ?_ ?_); (rotate_left 2); (· (simp [Region.wanted, yielded]; done)); (· (intro w' hS'; go_simp; try (with_reducible rfl))))); (· (simp only [List.getElem_toArray, List.getElem_cons_zero, List.getElem_cons_succ, Act.put, List.setIfInBounds_toArray, List.set_cons_zero, List.set_cons_succ]; exact rfl)))
    refine takeY_nil (then_cons ?_)
    go_wp2_with (go_at_call 87; refine (ih k' n' ks' A' c' U cu (x + under k j) (d + under k j) q _ (by omega) (by omega) H4.out (by omega) (by omega) (by omega) (by omega) hr'.drew (hru.below hb).drew k2 n2 ks2 hct'.out).mono ?_; rintro e w1 ⟨A1, c1, rfl, hl1, hf1, hb1⟩)
    have hx1 : Below wr.heap.size wr w1 := (Below.refl _ _).drew.trans hb1
    refine mid_intro hx1 (then_cons ?_)
    go_wp2_with fail
    refine mid_intro (hx1.alloc hx1.size _) (then_nil ?_)
    refine wpList_append_built (B := w.heap.size + 4) (m := j) hp.drew hb1 (by simp; omega) hf1 hl1 (by rw [sbSL_length]; simp; omega) (by omega) rfl (.tmp 54) (.tmp 68) rfl rfl rfl ?_
    intro A2 c2 w2 hp2 hb2 hg2
    have q3 : Blk w2 (w.heap.size + 1 + 1 + 1) #[.int .i64 k, .int .i64 (n), v] := (hB3.below hx1 (by omega)).below hb2 (by omega)
    have q2 : Blk w2 (w.heap.size + 1 + 1) #[.int .i64 0, .int .i64 0, .slice none 0 0] := (hB2.below hx1 (by omega)).below hb2 (by omega)
    have qu : Blk w2 (w.heap.size + 1) #[.int .i64 ku, .int .i64 nu, .slice U us.length cu] := (hBu.below hx1 (by omega)).below hb2 (by omega)
    have q1' : Blk w2 w.heap.size #[.int .i64 k, .int .i64 n, .slice (some ⟨b, off, none⟩) ks.length c] := (hB1.below hx1 (by omega)).below hb2 (by omega)
    have c3 : w2.cell? ⟨w.heap.size + 1 + 1 + 1, 2, none⟩ = some v := q3.at_ rfl
    have z3 := q3.frozen 2
    have hbf : Below w.heap.size w w2 := (hb.trans (hx1.mono (by omega))).trans (hb2.mono (by omega))
    clear x2 y0 y1 y2 b2 a0 a1 a2
    go_wp2_with fail
    go_roundw
    case rel => exact ⟨j + 1, _, by omega, by go_num, by rw [sbSL_take _ k x d hlt, H3.out, hct'.out]; exact hp2.setCell (by simp) _, q3.set_ 2 _, q2.far (by simp) _, qu.far (by simp) _, q1'.far (by simp; omega) _, hbf.setCell (by simp; omega) _⟩
    case measure => simp [intOf]; omega
   ·have hjl : j = ks.length := by omega
    subst hjl
    rw [List.take_length] at hp
    obtain ⟨Ar, cr, rfl, hfr⟩ := hp.fresh
    obtain ⟨c0, c1, c2⟩ := hB3.three
    obtain ⟨d0, d1, d2⟩ := hB2.three
    have e0 := hB2.frozen 0
    have e1 := hB2.frozen 1
    have e2 := hB2.frozen 2
    go_wp2_with fail
    refine bodyPost_ret (v := .agg #[.int .i64 k, .int .i64 (n), .slice Ar (sbSL (.mk ku nu us) k x d 0 ks).length cr]) (by simp [results, Try.results87, go_sem, d0, d1, d2]) rfl ⟨Ar, cr, rfl, by rw [sbSL_length]; omega, ?_, ?_⟩
    ·exact (((hfr.setCell (by simp) _).setCell (by simp) _).setCell (by simp) _).mono (by omega)
    ·exact ((hb.setCell (by simp; omega) _).setCell (by simp; omega) _).setCell (by simp; omega) _
open Go.RowKit
def sbF (x : Int) (u : Tm) (n d : Int) : Tm := if n - d = x then (shiftI d 0 u).getD (.mk 0 0 []) else if x < n - d then .mk 1 (n - 1) [] else .mk 1 n []
def sbOk (x : Int) (u : Tm) (n d : Int) : Bool := if n - d = x then (shiftI d 0 u).isSome else true
def substI (x : Int) (u : Tm) (t : Tm) : Option Tm := if chgOk (sbOk x u) 0 t = true then (if validT (chg (sbF x u) 0 t) = true then some (chg (sbF x u) 0 t) else none) else none
end Go.Proofs.Ytddkehjdjfmhmaa
