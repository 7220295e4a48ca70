/-
  The statement FnExactCommonPatternSaid, proved: the law, walked, and its end.
-/
import Derived.Test.YtgmljpmnfncceaaK1
import Derived.Test.YtgmljpmnfncceaaK2
import Derived.Test.YtgmljpmnfncceaaK32

namespace Go.Proofs.Ytgmljpmnfncceaa
open Go.RowKit
set_option linter.unusedSimpArgs false
set_option linter.unusedVariables false

/-- the answer of either side, read -/
def GotCS (kt nt : Int) (kts l r : List Tm) (bb : Bool) (w : World) (e : Ending) (w' : World) : Prop :=
  ∃ A c L cl R cr, e = .returned (.tuple #[.agg #[.int .i64 kt, .int .i64 nt, .slice A kts.length c], .slice L l.length cl, .slice R l.length cr, .bool bb]) ∧ RdP (fun b => w.heap.size ≤ b) w' A 0 kts ∧ RdP (fun b => w.heap.size ≤ b) w' L 0 l ∧ RdP (fun b => w.heap.size ≤ b) w' R 0 r ∧ Below w.heap.size w w'
/-- the program's answer, in blocks of its own -/
def GotCF (kt nt : Int) (kts l r : List Tm) (bb : Bool) (w : World) (e : Ending) (w' : World) : Prop :=
  ∃ A c L cl R cr f0 f1 f2, e = .returned (.tuple #[.agg #[.int .i64 kt, .int .i64 nt, .slice A kts.length c], .slice L l.length cl, .slice R l.length cr, .bool bb]) ∧
    OwF w' A kts f0 w.heap.size w'.heap.size ∧ OwF w' L l f1 w.heap.size w'.heap.size ∧ OwF w' R r f2 w.heap.size w'.heap.size ∧ ((∀ b, b ∈ f0 → b ∉ f1) ∧ (∀ b, b ∈ f0 → b ∉ f2) ∧ (∀ b, b ∈ f1 → b ∉ f2)) ∧ Below w.heap.size w w'
theorem owf_nil (w : World) (A : Option Addr) (lo hi : Nat) : OwF w A [] [] lo hi := ⟨.inl ⟨rfl, rfl⟩, List.nodup_nil, fun b hb => (by cases hb), fun b hb => (by cases hb)⟩
theorem OwF.to {w : World} {A : Option Addr} {ks : List Tm} {fp : List Nat} {lo hi lo' hi' : Nat} (h : OwF w A ks fp lo hi) (h1 : lo' ≤ lo) (h2 : hi ≤ hi') : OwF w A ks fp lo' hi' := ⟨h.ow, h.nodup, fun b hb => Nat.le_trans h1 (h.lo b hb), fun b hb => Nat.lt_of_lt_of_le (h.hi b hb) h2⟩
theorem OwF.top {w : World} {A : Option Addr} {ks : List Tm} {fp : List Nat} {lo hi lo' : Nat} (h : OwF w A ks fp lo hi) (h1 : lo' ≤ lo) : OwF w A ks fp lo' w.heap.size := ⟨h.ow, h.nodup, fun b hb => Nat.le_trans h1 (h.lo b hb), h.ow.lt⟩
theorem cp_dec (a b : Tm) : ∃ (kt nt : Int) (kts l r : List Tm) (bb : Bool), r.length = l.length ∧ sizes kts ≤ 400 ∧ sizes l ≤ 2400 ∧ sizes r ≤ 2400 ∧ (∀ w e w', CpS w (cpS a b) e w' → GotCS kt nt kts l r bb w e w') ∧ (∀ w e w', CpF w (cpI a b) e w' → GotCF kt nt kts l r bb w e w') := by
  rw [cp_eq]
  cases h : cpI a b with
  | none =>
    refine ⟨0, 0, [], [], [], false, rfl, by simp [sizes], by simp [sizes], by simp [sizes], fun w e w' hh => ?_, fun w e w' hh => ?_⟩
    · obtain ⟨⟨X, c, he⟩, hb⟩ := hh
      exact ⟨none, 0, X, c, X, c, he, RdP.nil, RdP.nil, RdP.nil, hb⟩
    · exact ⟨none, 0, none, 0, none, 0, [], [], [], hh.1, owf_nil _ _ _ _, owf_nil _ _ _ _, owf_nil _ _ _ _, ⟨fun b hb => (by cases hb), fun b hb => (by cases hb), fun b hb => (by cases hb)⟩, hh.2⟩
  | some res =>
    obtain ⟨⟨kt, nt, kts⟩, l, r⟩ := res
    obtain ⟨hvt, hva, hvb, h6, hrl, hval, _, _⟩ := cp_fill h
    simp only at h6 hrl
    have hst := validT_size hvt
    rw [Tm.size] at hst
    have hll := sizes_mul (fun x hx => validT_size (hval.1 x hx))
    have hlr := sizes_mul (fun x hx => validT_size (hval.2 x hx))
    simp only at hll hlr
    refine ⟨kt, nt, kts, l, r, true, hrl.symm, by omega, by omega, by omega, fun w e w' hh => ?_, fun w e w' hh => ?_⟩
    · obtain ⟨A, c, L, cl, R, cr, he, -, h0, h1, h2, hb⟩ := hh
      exact ⟨A, c, L, cl, R, cr, he, h0, h1, h2, hb⟩
    · obtain ⟨A, c, L, cl, R, cr, f0, f1, f2, a0, b0, a1, b1, a2, b2, he, -, -, h0, h1, h2, hh, hb⟩ := hh
      exact ⟨A, c, L, cl, R, cr, f0, f1, f2, he, h0.top hh.1, h1.top hh.2.1, h2.top hh.2.2.1, ⟨h0.apart h1 hh.2.2.2.1, h0.apart h2 hh.2.2.2.2.1, h1.apart h2 hh.2.2.2.2.2⟩, hb⟩
theorem eqS_same (ts : List Tm) {m : Nat} (hm : ts.length = m) (A : Option Addr) (c : Nat) (B : Option Addr) (d : Nat) (w : World) (hl : ts.length ≤ 9223372036854775807) (hr : Rd w A 0 ts) (hr' : Rd w B 0 ts) :
    Calls Try.prog 10 #[.slice A m c, .slice B m d] w fun e w' => e = .returned (.bool true) ∧ Below w.heap.size w w' := by
  subst hm
  have h := eqTermS_any (sizes ts + 1) ts A c ts B d w (by omega) hl hl hr hr'
  rwa [tmsEq_self] at h
theorem markS_at (ts : List Tm) {m : Nat} (hm : ts.length = m) (A : Option Addr) (c : Nat) (fp : List Nat) (q : Int) (w : World) (hM : sizes ts ≤ 1000000) (h0 : 0 ≤ q) (h1 : q ≤ 1000000) (hO : Ow w A ts fp) (hn : fp.Nodup) :
    Calls Try.prog 12 #[.slice A m c, .int .i64 q] w (MarkPost w A ts fp q) := by
  subst hm
  exact markTermS_any (sizes ts + 1) ts A c fp q w (by omega) (by omega) h0 (by omega) hO hn
theorem heldS_at (ts : List Tm) {m : Nat} (hm : ts.length = m) (A : Option Addr) (c : Nat) (q : Int) (w : World) (hM : sizes ts ≤ 1000000) (h0 : 0 ≤ q) (h1 : q ≤ 1000000) (hr : Rd w A 0 (markL q ts)) :
    Calls Try.prog 14 #[.slice A m c, .int .i64 q] w fun e w' => e = .returned (.int .i64 (q + 2 * sizes ts)) ∧ Below w.heap.size w w' := by
  subst hm
  have h := heldTermS_any (sizes ts + 1) (markL q ts) A c q w (by rw [mark_sizes.2]; omega) (by rw [mark_sizes.2]; omega) h0 (by rw [mark_sizes.2]; omega) hr (held_mark.2 ts q)
  rw [markL_length, mark_sizes.2] at h
  exact h.mono fun e w' ⟨a, b⟩ => ⟨a, b ▸ Below.refl _ _⟩
theorem heldK_at (k n : Int) (ks : List Tm) (A : Option Addr) (c : Nat) (w : World) (hM : sizes ks ≤ 1000000) (hr : Rd w A 0 (markL 1 ks)) :
    Calls Try.prog 13 #[.agg #[.int .i64 k, .int .i64 n, .slice A ks.length c], .int .i64 1] w fun e w' => e = .returned (.int .i64 (1 + 2 * sizes ks)) ∧ Below w.heap.size w w' := held_again k n ks A c w (by omega) hr
set_option maxRecDepth 100000 in
set_option maxHeartbeats 16000000 in
theorem lawCommonPattern_any (k n : Int) (ks : List Tm) (A : Option Addr) (c : Nat) (kv nv : Int) (vs : List Tm) (V : Option Addr) (cv : Nat) (w : World) (hl : ks.length ≤ 9223372036854775807) (hr : Rd w A 0 ks) (hlV : vs.length ≤ 9223372036854775807) (hrV : Rd w V 0 vs) :
    Calls Try.prog 3 #[.agg #[.int .i64 k, .int .i64 n, .slice A ks.length c], .agg #[.int .i64 kv, .int .i64 nv, .slice V vs.length cv]] w fun e w' => e = .returned (.bool true) ∧ Below w.heap.size w w' := by
  by_cases hs : sizes ks ≤ 1048576
  · have hsz := szR_yes (left := 1048576) (m := sizes ks) (by omega)
    have hz := hide hs
    have hneg : decide ((1048576 : Int) - (sizes ks : Int) < 0) = false := decide_eq_false (by omega)
    by_cases hs2 : (sizes vs : Int) ≤ 1048576 - sizes ks
    · have hsz2 := szR_yes (left := 1048576 - sizes ks) (m := sizes vs) hs2
      have hz2 := hide hs2
      have hneg2 : decide ((1048576 : Int) - (sizes ks : Int) - (sizes vs : Int) < 0) = false := decide_eq_false (by omega)
      obtain ⟨kt, nt, kts, l, r, bb, hrl, k1, k2, k3, hS, hI⟩ := cp_dec (.mk k n ks) (.mk kv nv vs)
      have hlt : kts.length ≤ 9223372036854775807 := by have := length_le_sizes kts; omega
      have hll : l.length ≤ 9223372036854775807 := by have := length_le_sizes l; omega
      have hlr : r.length ≤ 9223372036854775807 := by have := length_le_sizes r; omega
      have hneg3 : decide ((1 : Int) + 2 * (sizes ks : Int) + 2 * (sizes vs : Int) < 0) = false := decide_eq_false (by omega)
      have hneg4 : decide ((1 : Int) + 2 * (sizes kts : Int) < 0) = false := decide_eq_false (by omega)
      have hneg5 : decide ((1 : Int) + 2 * (sizes kts : Int) + 2 * (sizes l : Int) < 0) = false := decide_eq_false (by omega)
      have hneg6 : decide ((1 : Int) + 2 * (sizes kts : Int) + 2 * (sizes l : Int) + 2 * (sizes r : Int) < 0) = false := decide_eq_false (by omega)
      have hS' := hide hS
      have hI' := hide hI
      have hrl' := hide hrl
      clear hS hI hrl hs hs2
      go_enter Try.func3, Try.ntmps3
      go_upto_region 8 with (first | (go_at_call 5; refine (szTerm_any kv nv vs V cv (1048576 - sizes ks) _ hlV (hrV.below g1) (by have := hz.out; omega) (by omega)).mono ?_; rw [hsz2]; rintro e w2 ⟨rfl, hb2⟩; replace hB0 := hB0.keep hb2; replace hB1 := hB1.keep hb2; clear u0 u1 u2; have g2 := g1.trans (hb2.mono g1.size)) | (go_at_call 5; refine (szTerm_any k n ks A c 1048576 _ hl ((hr.alloc _).alloc _) (by omega) (by omega)).mono ?_; rw [hsz]; rintro e w1 ⟨rfl, hb1⟩; have hB0 := ((Blk.new_ w 24 #[.int .i64 k, .int .i64 n, .slice A ks.length c] rfl).alloc (.cells #[.int .i64 kv, .int .i64 nv, .slice V vs.length cv] 24)).keep hb1; have hB1 : Blk w1 (w.heap.size + 1) #[.int .i64 kv, .int .i64 nv, .slice V vs.length cv] := (Blk.new_ (w.alloc (.cells #[.int .i64 k, .int .i64 n, .slice A ks.length c] 24)) 24 #[.int .i64 kv, .int .i64 nv, .slice V vs.length cv] (by simp)).keep hb1; have g1 : Below w.heap.size w w1 := (((Below.refl _ _).alloc (Nat.le_refl _) _).alloc (by simp) _).trans (hb1.mono (by simp; omega)); obtain ⟨u0, u1, u2⟩ := hB1.three))
      go_cut [6, 7, 8, 9] (fun s6 s7 s8 s9 wx => ∃ (z5 : Nat) (A5 : Option Addr) (c5 : Nat) (L5 : Option Addr) (cl5 : Nat) (R5 : Option Addr) (cr5 : Nat), s6 = .pointer (some ⟨z5, 0, none⟩) ∧ s7 = .slice L5 l.length cl5 ∧ s8 = .slice R5 l.length cr5 ∧ s9 = .bool bb ∧ Below w2.heap.size w2 wx ∧ Blk wx z5 #[.int .i64 kt, .int .i64 nt, .slice A5 kts.length c5] ∧ Rd wx A5 0 kts ∧ Rd wx L5 0 l ∧ Rd wx R5 0 r)
      case first =>
        have r0 := rule_of hB0.three.1
        have r1 := rule_of hB0.three.2.1
        have r2 := rule_of hB0.three.2.2
        have s0 := rule_of hB1.three.1
        have s1 := rule_of hB1.three.2.1
        have s2 := rule_of hB1.three.2.2
        obtain ⟨q0, hq0⟩ : ∃ q0, q0 = w2.drew := ⟨_, rfl⟩
        have bq0 : Below w2.heap.size w2 q0 := by rw [hq0]; exact (Below.refl _ _).drew
        refine gC_start (fun w' => Below w2.heap.size w2 w') [5, 6, 7, 8, 9, 11, 12, 13, 14] 15 (by kernel_rfl) rfl ?_
        refine gC_take [0, 2] (f := 13) (l' := #[true, false, true, false, false, false, false, false, false, false, false, false, false, false, false]) (lT := [_, _]) (by rw [← hq0]; exact bq0) rfl (by kernel_rfl) (by kernel_rfl) (by kernel_rfl) rfl (fun _ _ d _ _ h => by cases d <;> exact h) ?_
        repeat (first | ((refine takeY_skip (a' := ?_) ?_ ?_ ?_); (rotate_left); (· (simp [Region.wanted, yielded]; done)); (· (simp only [List.getElem_toArray, List.getElem_cons_zero, List.getElem_cons_succ, Act.put, List.setIfInBounds_toArray, List.set_cons_zero, List.set_cons_succ]; exact rfl))) | ((refine takeY_step (v := ?_) (a' := ?_) ?_ ?_ ?_ ?_); (rotate_left 2); (· (simp [Region.wanted, yielded]; done)); (· (intro w' hS'; go_simp; try (with_reducible rfl))); (· (simp only [List.getElem_toArray, List.getElem_cons_zero, List.getElem_cons_succ, Act.put, List.setIfInBounds_toArray, List.set_cons_zero, List.set_cons_succ]; exact rfl))))
        refine takeY_nil ?_
        rw [← hq0]
        clear hq0 r0 r1 r2 s0 s1 s2
        refine gC_two (i := 1) (j := 10) (by kernel_rfl) rfl rfl ?_ ?_
        · have sp1 := bq0.size
          go_wp2_with (go_at_call 7; refine (toTerm_any k n ks A c _ (by have := hz.out; omega) (hr.below (g2.trans (bq0.mono g2.size)))).mono ?_; rintro e p1 ⟨Xp1, cp1, rfl, -, hfp1, hp1⟩)
          have bp1 := bq0.trans (hp1.mono sp1)
          have dp1 := hfp1.rd
          have tp1 := hp1.size
          refine mid_intro bp1 ?_
          refine gC_two (i := 3) (j := 10) (by kernel_rfl) rfl rfl ?_ ?_
          · have sp2 := bp1.size
            go_wp2_with (go_at_call 7; refine (toTerm_any kv nv vs V cv _ (by have := hz.out; have := hz2.out; omega) (hrV.below (g2.trans (bp1.mono g2.size)))).mono ?_; rintro e p2 ⟨Xp2, cp2, rfl, -, hfp2, hp2⟩)
            have bp2 := bp1.trans (hp2.mono sp2)
            have dp2 := hfp2.rd
            have tp2 := hp2.size
            have fp2 := dp1.below hp2
            refine mid_intro bp2 ?_
            refine gC_two (i := 4) (j := 10) (by kernel_rfl) rfl rfl ?_ ?_
            · have sp3 := bp2.size
              go_wp2_with (go_at_call 6; refine (sCommonPattern_any k n ks Xp1 cp1 kv nv vs Xp2 cp2 _ (by have := hz.out; omega) (by have := hz.out; have := hz2.out; omega) fp2 dp2).mono ?_; intro e p3 hgo; obtain ⟨Ap3, cp3, Lp3, clp3, Rp3, crp3, rfl, rap3', rlp3', rrp3', hp3⟩ := hS'.out _ _ _ hgo; clear hgo)
              have rap3 := rdp_ltC.2 _ _ _ rap3'
              have rlp3 := rdp_ltC.2 _ _ _ rlp3'
              have rrp3 := rdp_ltC.2 _ _ _ rrp3'
              have tp3 := hp3.size
              have bp3 := bp2.trans (hp3.mono sp3)
              refine mid_intro bp3 ?_
              refine gC_takeT [5, 6, 7, 8, 9] (f := 5) (l' := #[true, true, true, true, true, true, true, true, true, true, false, false, false, false, false]) (lT := [_, _, _, _, _]) rfl (by kernel_rfl) (by kernel_rfl) (by kernel_rfl) rfl (fun _ _ d _ _ h => by cases d <;> exact h) ?_
              repeat (first | ((refine takeY_skip (a' := ?_) ?_ ?_ ?_); (rotate_left); (· (simp [Region.wanted, yielded]; done)); (· (simp only [List.getElem_toArray, List.getElem_cons_zero, List.getElem_cons_succ, Act.put, List.setIfInBounds_toArray, List.set_cons_zero, List.set_cons_succ]; exact rfl))) | ((refine takeY_step (v := ?_) (a' := ?_) ?_ ?_ ?_ ?_); (rotate_left 2); (· (simp [Region.wanted, yielded]; done)); (· (intro w' hS'; go_simp; try (with_reducible rfl))); (· (simp only [List.getElem_toArray, List.getElem_cons_zero, List.getElem_cons_succ, Act.put, List.setIfInBounds_toArray, List.set_cons_zero, List.set_cons_succ]; exact rfl))))
              refine takeY_nil ?_
              refine gC_one (i := 10) (by kernel_rfl) rfl ?_
              · go_wp2_with fail
                refine name_midw ?_
                intro p4 hn
                have bp4 : Below w2.heap.size w2 p4 := by rw [hn]; exact by_alloc bp3 _
                have zp4 : Blk p4 p3.heap.size #[.int .i64 0, .int .i64 0, .slice none 0 0] := by rw [hn]; exact Blk.new_ _ 28 _ rfl
                have lzp4 : p3.heap.size < p4.heap.size := by rw [hn]; simp
                have szp4 := bp3.size
                have rap4' : _ := rap3.alloc (.cells #[.int .i64 0, .int .i64 0, .slice none 0 0] 28)
                rw [← hn] at rap4'
                have rlp4' : _ := rlp3.alloc (.cells #[.int .i64 0, .int .i64 0, .slice none 0 0] 28)
                rw [← hn] at rlp4'
                have rrp4' : _ := rrp3.alloc (.cells #[.int .i64 0, .int .i64 0, .slice none 0 0] 28)
                rw [← hn] at rrp4'
                clear hn
                refine mid_intro bp4 ?_
                refine gC_end [11, 12, 13, 14] (lB := [_, _, _, _]) (by simp) (by kernel_rfl) (by kernel_rfl) rfl ?_
                obtain ⟨d0, d1, d2⟩ := zp4.three
                have e0 := zp4.frozen 0
                have e1 := zp4.frozen 1
                have e2 := zp4.frozen 2
                go_wp2_with fail
                go_meet
                refine ⟨p3.heap.size, Ap3, cp3, Lp3, clp3, Rp3, crp3, rfl, rfl, rfl, rfl, by_set3 bp4 (by omega) _ _ _, ((zp4.set_ 0 _).set_ 1 _).set_ 2 _, ?_, ?_, ?_⟩
                · exact (rap4'.set3 (fun h => by have := h.1; have := h.2; omega) _ _ _).rd
                · exact (rlp4'.set3 (fun h => by have := h.1; have := h.2; omega) _ _ _).rd
                · exact (rrp4'.set3 (fun h => by have := h.1; have := h.2; omega) _ _ _).rd
            · go_wp2_with fail
              refine name_midw ?_
              intro p5 hn
              have bp5 : Below w2.heap.size w2 p5 := by rw [hn]; exact by_alloc bp2 _
              have zp5 : Blk p5 p2.heap.size #[.int .i64 0, .int .i64 0, .slice none 0 0] := by rw [hn]; exact Blk.new_ _ 28 _ rfl
              have lzp5 : p2.heap.size < p5.heap.size := by rw [hn]; simp
              have szp5 := bp2.size
              have dp5' : _ := fp2.alloc (.cells #[.int .i64 0, .int .i64 0, .slice none 0 0] 28)
              rw [← hn] at dp5'
              have d2p5' : _ := dp2.alloc (.cells #[.int .i64 0, .int .i64 0, .slice none 0 0] 28)
              rw [← hn] at d2p5'
              clear hn
              refine mid_intro bp5 ?_
              refine gC_one (i := 4) (by kernel_rfl) rfl ?_
              · have sp6 := bp5.size
                go_wp2_with (go_at_call 6; refine (sCommonPattern_any k n ks Xp1 cp1 kv nv vs Xp2 cp2 _ (by have := hz.out; omega) (by have := hz.out; have := hz2.out; omega) dp5' d2p5').mono ?_; intro e p6 hgo; obtain ⟨Ap6, cp6, Lp6, clp6, Rp6, crp6, rfl, rap6', rlp6', rrp6', hp6⟩ := hS'.out _ _ _ hgo; clear hgo)
                have rap6 := rdp_ltC.2 _ _ _ rap6'
                have rlp6 := rdp_ltC.2 _ _ _ rlp6'
                have rrp6 := rdp_ltC.2 _ _ _ rrp6'
                have tp6 := hp6.size
                have bp6 := bp5.trans (hp6.mono sp6)
                have zp6 := zp5.keep hp6
                refine mid_intro bp6 ?_
                refine gC_takeT [5, 6, 7, 8, 9] (f := 4) (l' := #[true, true, true, true, true, true, true, true, true, true, true, false, false, false, false]) (lT := [_, _, _, _, _]) rfl (by kernel_rfl) (by kernel_rfl) (by kernel_rfl) rfl (fun _ _ d _ _ h => by cases d <;> exact h) ?_
                repeat (first | ((refine takeY_skip (a' := ?_) ?_ ?_ ?_); (rotate_left); (· (simp [Region.wanted, yielded]; done)); (· (simp only [List.getElem_toArray, List.getElem_cons_zero, List.getElem_cons_succ, Act.put, List.setIfInBounds_toArray, List.set_cons_zero, List.set_cons_succ]; exact rfl))) | ((refine takeY_step (v := ?_) (a' := ?_) ?_ ?_ ?_ ?_); (rotate_left 2); (· (simp [Region.wanted, yielded]; done)); (· (intro w' hS'; go_simp; try (with_reducible rfl))); (· (simp only [List.getElem_toArray, List.getElem_cons_zero, List.getElem_cons_succ, Act.put, List.setIfInBounds_toArray, List.set_cons_zero, List.set_cons_succ]; exact rfl))))
                refine takeY_nil ?_
                refine gC_end [11, 12, 13, 14] (lB := [_, _, _, _]) (by simp) (by kernel_rfl) (by kernel_rfl) rfl ?_
                obtain ⟨d0, d1, d2⟩ := zp6.three
                have e0 := zp6.frozen 0
                have e1 := zp6.frozen 1
                have e2 := zp6.frozen 2
                go_wp2_with fail
                go_meet
                refine ⟨p2.heap.size, Ap6, cp6, Lp6, clp6, Rp6, crp6, rfl, rfl, rfl, rfl, by_set3 bp6 (by omega) _ _ _, ((zp6.set_ 0 _).set_ 1 _).set_ 2 _, ?_, ?_, ?_⟩
                · exact (rap6.set3 (fun h => by have := h.1; have := h.2; omega) _ _ _).rd
                · exact (rlp6.set3 (fun h => by have := h.1; have := h.2; omega) _ _ _).rd
                · exact (rrp6.set3 (fun h => by have := h.1; have := h.2; omega) _ _ _).rd
          · go_wp2_with fail
            refine name_midw ?_
            intro p7 hn
            have bp7 : Below w2.heap.size w2 p7 := by rw [hn]; exact by_alloc bp1 _
            have zp7 : Blk p7 p1.heap.size #[.int .i64 0, .int .i64 0, .slice none 0 0] := by rw [hn]; exact Blk.new_ _ 28 _ rfl
            have lzp7 : p1.heap.size < p7.heap.size := by rw [hn]; simp
            have szp7 := bp1.size
            have dp7' : _ := dp1.alloc (.cells #[.int .i64 0, .int .i64 0, .slice none 0 0] 28)
            rw [← hn] at dp7'
            clear hn
            refine mid_intro bp7 ?_
            refine gC_one (i := 3) (by kernel_rfl) rfl ?_
            · have sp8 := bp7.size
              go_wp2_with (go_at_call 7; refine (toTerm_any kv nv vs V cv _ (by have := hz.out; have := hz2.out; omega) (hrV.below (g2.trans (bp7.mono g2.size)))).mono ?_; rintro e p8 ⟨Xp8, cp8, rfl, -, hfp8, hp8⟩)
              have bp8 := bp7.trans (hp8.mono sp8)
              have dp8 := hfp8.rd
              have tp8 := hp8.size
              have fp8 := dp7'.below hp8
              have zp8 := zp7.keep hp8
              refine mid_intro bp8 ?_
              refine gC_one (i := 4) (by kernel_rfl) rfl ?_
              · have sp9 := bp8.size
                go_wp2_with (go_at_call 6; refine (sCommonPattern_any k n ks Xp1 cp1 kv nv vs Xp8 cp8 _ (by have := hz.out; omega) (by have := hz.out; have := hz2.out; omega) fp8 dp8).mono ?_; intro e p9 hgo; obtain ⟨Ap9, cp9, Lp9, clp9, Rp9, crp9, rfl, rap9', rlp9', rrp9', hp9⟩ := hS'.out _ _ _ hgo; clear hgo)
                have rap9 := rdp_ltC.2 _ _ _ rap9'
                have rlp9 := rdp_ltC.2 _ _ _ rlp9'
                have rrp9 := rdp_ltC.2 _ _ _ rrp9'
                have tp9 := hp9.size
                have bp9 := bp8.trans (hp9.mono sp9)
                have zp9 := zp8.keep hp9
                refine mid_intro bp9 ?_
                refine gC_takeT [5, 6, 7, 8, 9] (f := 4) (l' := #[true, true, true, true, true, true, true, true, true, true, true, false, false, false, false]) (lT := [_, _, _, _, _]) rfl (by kernel_rfl) (by kernel_rfl) (by kernel_rfl) rfl (fun _ _ d _ _ h => by cases d <;> exact h) ?_
                repeat (first | ((refine takeY_skip (a' := ?_) ?_ ?_ ?_); (rotate_left); (· (simp [Region.wanted, yielded]; done)); (· (simp only [List.getElem_toArray, List.getElem_cons_zero, List.getElem_cons_succ, Act.put, List.setIfInBounds_toArray, List.set_cons_zero, List.set_cons_succ]; exact rfl))) | ((refine takeY_step (v := ?_) (a' := ?_) ?_ ?_ ?_ ?_); (rotate_left 2); (· (simp [Region.wanted, yielded]; done)); (· (intro w' hS'; go_simp; try (with_reducible rfl))); (· (simp only [List.getElem_toArray, List.getElem_cons_zero, List.getElem_cons_succ, Act.put, List.setIfInBounds_toArray, List.set_cons_zero, List.set_cons_succ]; exact rfl))))
                refine takeY_nil ?_
                refine gC_end [11, 12, 13, 14] (lB := [_, _, _, _]) (by simp) (by kernel_rfl) (by kernel_rfl) rfl ?_
                obtain ⟨d0, d1, d2⟩ := zp9.three
                have e0 := zp9.frozen 0
                have e1 := zp9.frozen 1
                have e2 := zp9.frozen 2
                go_wp2_with fail
                go_meet
                refine ⟨p1.heap.size, Ap9, cp9, Lp9, clp9, Rp9, crp9, rfl, rfl, rfl, rfl, by_set3 bp9 (by omega) _ _ _, ((zp9.set_ 0 _).set_ 1 _).set_ 2 _, ?_, ?_, ?_⟩
                · exact (rap9.set3 (fun h => by have := h.1; have := h.2; omega) _ _ _).rd
                · exact (rlp9.set3 (fun h => by have := h.1; have := h.2; omega) _ _ _).rd
                · exact (rrp9.set3 (fun h => by have := h.1; have := h.2; omega) _ _ _).rd
        · go_wp2_with fail
          refine name_midw ?_
          intro p10 hn
          have bp10 : Below w2.heap.size w2 p10 := by rw [hn]; exact by_alloc bq0 _
          have zp10 : Blk p10 q0.heap.size #[.int .i64 0, .int .i64 0, .slice none 0 0] := by rw [hn]; exact Blk.new_ _ 28 _ rfl
          have lzp10 : q0.heap.size < p10.heap.size := by rw [hn]; simp
          have szp10 := bq0.size
          clear hn
          refine mid_intro bp10 ?_
          refine gC_one (i := 1) (by kernel_rfl) rfl ?_
          · have sp11 := bp10.size
            go_wp2_with (go_at_call 7; refine (toTerm_any k n ks A c _ (by have := hz.out; omega) (hr.below (g2.trans (bp10.mono g2.size)))).mono ?_; rintro e p11 ⟨Xp11, cp11, rfl, -, hfp11, hp11⟩)
            have bp11 := bp10.trans (hp11.mono sp11)
            have dp11 := hfp11.rd
            have tp11 := hp11.size
            have zp11 := zp10.keep hp11
            refine mid_intro bp11 ?_
            refine gC_one (i := 3) (by kernel_rfl) rfl ?_
            · have sp12 := bp11.size
              go_wp2_with (go_at_call 7; refine (toTerm_any kv nv vs V cv _ (by have := hz.out; have := hz2.out; omega) (hrV.below (g2.trans (bp11.mono g2.size)))).mono ?_; rintro e p12 ⟨Xp12, cp12, rfl, -, hfp12, hp12⟩)
              have bp12 := bp11.trans (hp12.mono sp12)
              have dp12 := hfp12.rd
              have tp12 := hp12.size
              have fp12 := dp11.below hp12
              have zp12 := zp11.keep hp12
              refine mid_intro bp12 ?_
              refine gC_one (i := 4) (by kernel_rfl) rfl ?_
              · have sp13 := bp12.size
                go_wp2_with (go_at_call 6; refine (sCommonPattern_any k n ks Xp11 cp11 kv nv vs Xp12 cp12 _ (by have := hz.out; omega) (by have := hz.out; have := hz2.out; omega) fp12 dp12).mono ?_; intro e p13 hgo; obtain ⟨Ap13, cp13, Lp13, clp13, Rp13, crp13, rfl, rap13', rlp13', rrp13', hp13⟩ := hS'.out _ _ _ hgo; clear hgo)
                have rap13 := rdp_ltC.2 _ _ _ rap13'
                have rlp13 := rdp_ltC.2 _ _ _ rlp13'
                have rrp13 := rdp_ltC.2 _ _ _ rrp13'
                have tp13 := hp13.size
                have bp13 := bp12.trans (hp13.mono sp13)
                have zp13 := zp12.keep hp13
                refine mid_intro bp13 ?_
                refine gC_takeT [5, 6, 7, 8, 9] (f := 4) (l' := #[true, true, true, true, true, true, true, true, true, true, true, false, false, false, false]) (lT := [_, _, _, _, _]) rfl (by kernel_rfl) (by kernel_rfl) (by kernel_rfl) rfl (fun _ _ d _ _ h => by cases d <;> exact h) ?_
                repeat (first | ((refine takeY_skip (a' := ?_) ?_ ?_ ?_); (rotate_left); (· (simp [Region.wanted, yielded]; done)); (· (simp only [List.getElem_toArray, List.getElem_cons_zero, List.getElem_cons_succ, Act.put, List.setIfInBounds_toArray, List.set_cons_zero, List.set_cons_succ]; exact rfl))) | ((refine takeY_step (v := ?_) (a' := ?_) ?_ ?_ ?_ ?_); (rotate_left 2); (· (simp [Region.wanted, yielded]; done)); (· (intro w' hS'; go_simp; try (with_reducible rfl))); (· (simp only [List.getElem_toArray, List.getElem_cons_zero, List.getElem_cons_succ, Act.put, List.setIfInBounds_toArray, List.set_cons_zero, List.set_cons_succ]; exact rfl))))
                refine takeY_nil ?_
                refine gC_end [11, 12, 13, 14] (lB := [_, _, _, _]) (by simp) (by kernel_rfl) (by kernel_rfl) rfl ?_
                obtain ⟨d0, d1, d2⟩ := zp13.three
                have e0 := zp13.frozen 0
                have e1 := zp13.frozen 1
                have e2 := zp13.frozen 2
                go_wp2_with fail
                go_meet
                refine ⟨q0.heap.size, Ap13, cp13, Lp13, clp13, Rp13, crp13, rfl, rfl, rfl, rfl, by_set3 bp13 (by omega) _ _ _, ((zp13.set_ 0 _).set_ 1 _).set_ 2 _, ?_, ?_, ?_⟩
                · exact (rap13.set3 (fun h => by have := h.1; have := h.2; omega) _ _ _).rd
                · exact (rlp13.set3 (fun h => by have := h.1; have := h.2; omega) _ _ _).rd
                · exact (rrp13.set3 (fun h => by have := h.1; have := h.2; omega) _ _ _).rd
      case rest =>
        obtain ⟨z5, A5, c5, L5, cl5, R5, cr5, rfl, rfl, rfl, rfl, h25, hZ5, qa, ql, qr⟩ := hcut
        go_upto_region 9 with fail
        refine name_world ?_
        intro w5 hw5
        subst hw5
        have g := g2.trans (h25.mono g2.size)
        replace hB0 := hB0.keep h25
        replace hB1 := hB1.keep h25
        have lZ5 := hZ5.lt
        have lB0 := hB0.lt
        have lB1 := hB1.lt
        have s05 : w.heap.size ≤ w5.heap.size := g.size
        obtain ⟨p0, p1, p2⟩ := hB0.three
        obtain ⟨u0, u1, u2⟩ := hB1.three
        go_upto_region 12 with (first
          | (go_at_call 8; have _t := tok7; refine (iCommonPattern_any k n ks A6 c6 kv nv vs A7 c7 _ (by have := hz.out; omega) (by have := hz.out; have := hz2.out; omega) (hO6.rd.alloc _) (hO7.rd.alloc _)).mono ?_; intro e w8 hgo; obtain ⟨A8, c8, L8, cl8, R8, cr8, f0, f1, f2, rfl, O8, Ol, Or, hap, hb8⟩ := hI'.out _ _ _ hgo; clear hgo)
          | (go_at_call 7; have _t := tok6; refine (toTerm_any kv nv vs V cv _ (by have := hz.out; have := hz2.out; omega) ((hrV.below g6).alloc _)).mono ?_; rintro e w7 ⟨A7, c7, rfl, hl7, hf7, hb7⟩; have hC7 := (Blk.new_ w6 28 #[.int .i64 k, .int .i64 n, .slice A6 ks.length c6] rfl).keep hb7; replace hO6 := (hO6.alloc (.cells #[.int .i64 k, .int .i64 n, .slice A6 ks.length c6] 28)).keep hb7; obtain ⟨fp7, hO7⟩ := hf7.owf; have g7 := (g6.alloc g6.size (.cells #[.int .i64 k, .int .i64 n, .slice A6 ks.length c6] 28)).trans (hb7.mono (by have := g6.size; simp; omega)); have H7 : Below w5.heap.size w5 w7 := (hb6.alloc hb6.size (.cells #[.int .i64 k, .int .i64 n, .slice A6 ks.length c6] 28)).trans (hb7.mono (by have := hb6.size; simp; omega)); clear u0 u1 u2; obtain ⟨a0, a1, a2⟩ := hC7.three; have lC := hC7.lt; have s67 : w6.heap.size + 1 ≤ w7.heap.size := (by have := hb7.size; simpa using this); have tok7 := trivial)
          | (go_at_call 7; refine (toTerm_any k n ks A c _ (by have := hz.out; omega) (hr.below g)).mono ?_; rintro e w6 ⟨A6, c6, rfl, hl6, hf6, hb6⟩; have g6 := g.trans (hb6.mono g.size); obtain ⟨fp6, hO6⟩ := hf6.owf; clear p0 p1 p2 u0 u1 u2; obtain ⟨u0, u1, u2⟩ := (hB1.keep hb6).three; have lb1 := (hB1.keep hb6).lt; have s56 := hb6.size; have tok6 := trivial))
        refine name_world ?_
        intro wg hwg
        have s78 : w7.heap.size + 1 ≤ w8.heap.size := by have := hb8.size; simpa using this
        have H8 : Below w5.heap.size w5 w8 := (H7.alloc H7.size _).trans (hb8.mono (by have := H7.size; simp; omega))
        have H : Below w5.heap.size w5 wg := by rw [hwg]; exact H8.alloc H8.size _
        replace g := g.trans (H.mono g.size)
        have hC : Blk wg w6.heap.size #[.int .i64 k, .int .i64 n, .slice A6 ks.length c6] := by rw [hwg]; exact ((hC7.alloc _).keep hb8).alloc _
        have hD : Blk wg w7.heap.size #[.int .i64 kv, .int .i64 nv, .slice A7 vs.length c7] := by rw [hwg]; exact ((Blk.new_ w7 28 _ rfl).keep hb8).alloc _
        have hG : Blk wg w8.heap.size #[.int .i64 kt, .int .i64 nt, .slice A8 kts.length c8] := by rw [hwg]; exact Blk.new_ _ 28 _ rfl
        have O6 : OwF wg A6 ks fp6 w5.heap.size w6.heap.size := by rw [hwg]; exact ((hO6.alloc _).keep hb8).alloc _
        have O7 : OwF wg A7 vs fp7 (w6.heap.size + 1) w7.heap.size := by rw [hwg]; exact (((hO7.alloc _).keep hb8).alloc _).to (by simp) (Nat.le_refl _)
        replace O8 : OwF wg A8 kts f0 (w7.heap.size + 1) w8.heap.size := by rw [hwg]; exact (O8.alloc _).to (by simp) (Nat.le_refl _)
        replace Ol : OwF wg L8 l f1 (w7.heap.size + 1) w8.heap.size := by rw [hwg]; exact (Ol.alloc _).to (by simp) (Nat.le_refl _)
        replace Or : OwF wg R8 r f2 (w7.heap.size + 1) w8.heap.size := by rw [hwg]; exact (Or.alloc _).to (by simp) (Nat.le_refl _)
        clear hwg a0 a1 a2 hC7 hO6 hO7 g7 g6 H7 H8 hb8 hb7
        have hap' := hide hap
        clear hap
        have hZ5k := hZ5.keep H
        obtain ⟨a0, a1, a2⟩ := hC.three
        obtain ⟨b0, b1, b2⟩ := hD.three
        obtain ⟨v0, v1, v2⟩ := hG.three
        obtain ⟨y0, y1, y2⟩ := hZ5k.three
        have lz1 := hZ5k.lt
        have lg1 := hG.lt
        have tok10 := trivial
        go_upto_region 14 with (first
          | (go_at_call 10; have _t := tok12; refine (eqS_same r hrl'.out R8 cr8 R5 cr5 _ hlr Or.rd (qr.below H)).mono ?_; rintro e w' ⟨rfl, hb'⟩; replace g := g.trans (hb'.mono g.size); replace H := H.trans (hb'.mono H.size); replace hC := hC.keep hb'; replace hD := hD.keep hb'; replace hG := hG.keep hb'; replace O6 := O6.keep hb'; replace O7 := O7.keep hb'; replace O8 := O8.keep hb'; replace Ol := Ol.keep hb'; replace Or := Or.keep hb'; replace hZ5k := hZ5k.keep hb'; clear a0 a1 a2 b0 b1 b2 v0 v1 v2 y0 y1 y2; obtain ⟨a0, a1, a2⟩ := hC.three; obtain ⟨b0, b1, b2⟩ := hD.three; obtain ⟨v0, v1, v2⟩ := hG.three; obtain ⟨y0, y1, y2⟩ := hZ5k.three; clear tok12 _t hb'; have tok13 := trivial)
          | (go_at_call 10; have _t := tok11; refine (eqS_same l rfl L8 cl8 L5 cl5 _ hll Ol.rd (ql.below H)).mono ?_; rintro e w' ⟨rfl, hb'⟩; replace g := g.trans (hb'.mono g.size); replace H := H.trans (hb'.mono H.size); replace hC := hC.keep hb'; replace hD := hD.keep hb'; replace hG := hG.keep hb'; replace O6 := O6.keep hb'; replace O7 := O7.keep hb'; replace O8 := O8.keep hb'; replace Ol := Ol.keep hb'; replace Or := Or.keep hb'; replace hZ5k := hZ5k.keep hb'; clear a0 a1 a2 b0 b1 b2 v0 v1 v2 y0 y1 y2; obtain ⟨a0, a1, a2⟩ := hC.three; obtain ⟨b0, b1, b2⟩ := hD.three; obtain ⟨v0, v1, v2⟩ := hG.three; obtain ⟨y0, y1, y2⟩ := hZ5k.three; clear tok11 _t hb'; have tok12 := trivial)
          | (go_at_call 9; have _t := tok10; refine (eqTerm_any kt nt kts A8 c8 kt nt kts A5 c5 _ hlt hlt O8.rd (qa.below H)).mono ?_; rw [tmEq_self]; rintro e w' ⟨rfl, hb'⟩; replace g := g.trans (hb'.mono g.size); replace H := H.trans (hb'.mono H.size); replace hC := hC.keep hb'; replace hD := hD.keep hb'; replace hG := hG.keep hb'; replace O6 := O6.keep hb'; replace O7 := O7.keep hb'; replace O8 := O8.keep hb'; replace Ol := Ol.keep hb'; replace Or := Or.keep hb'; replace hZ5k := hZ5k.keep hb'; clear a0 a1 a2 b0 b1 b2 v0 v1 v2 y0 y1 y2; obtain ⟨a0, a1, a2⟩ := hC.three; obtain ⟨b0, b1, b2⟩ := hD.three; obtain ⟨v0, v1, v2⟩ := hG.three; obtain ⟨y0, y1, y2⟩ := hZ5k.three; clear tok10 _t hb'; have tok11 := trivial))
        refine name_world ?_
        intro w13 hw_
        subst hw_
        have r0 := rule_of hC.three.1
        have r1 := rule_of hC.three.2.1
        have r2 := rule_of hC.three.2.2
        have hBk := hB0.keep H
        have s0 := rule_of hBk.three.1
        have s1 := rule_of hBk.three.2.1
        have s2 := rule_of hBk.three.2.2
        refine wp_region_first (fun w' => Below w13.heap.size w13 w') [0, 1] [2] [3, 4] [_, _] [_] [_, _] (by kernel_rfl) (by kernel_rfl) rfl rfl rfl (fun _ _ d _ _ h => by cases d <;> exact h) (Below.refl _ _).drew ?_
        repeat (first | ((refine take_skip (a' := ?_) ?_ ?_ ?_); (rotate_left); (· (simp [Region.wanted, yielded]; done)); (· (simp only [Act.put, List.setIfInBounds_toArray, List.set_cons_zero, List.set_cons_succ]; exact rfl))) | ((refine take_step (v := ?_) (a' := ?_) ?_ ?_ ?_ ?_); (rotate_left 2); (· (simp [Region.wanted, yielded]; done)); (· (intro w' hS'; go_simp; try (with_reducible rfl))); (· (simp only [Act.put, List.setIfInBounds_toArray, List.set_cons_zero, List.set_cons_succ]; exact rfl))))
        refine take_nil (then_cons ?_)
        go_wp2_with (go_at_call 7; refine (toTerm_any k n ks A c _ (by have := hz.out; omega) (hr.below g).drew).mono ?_; rintro e wt ⟨At, ct, rfl, hlt', hft, hbt⟩)
        replace hbt : Below w13.heap.size w13 wt := (Below.refl _ _).drew.trans hbt
        refine mid_intro hbt (then_nil ?_)
        clear r0 r1 r2 s0 s1 s2 hBk a0 a1 a2 b0 b1 b2 v0 v1 v2 y0 y1 y2
        replace g := g.trans (hbt.mono g.size)
        replace H := H.trans (hbt.mono H.size)
        replace hC := hC.keep hbt
        replace hD := hD.keep hbt
        replace hG := hG.keep hbt
        replace O6 := O6.keep hbt
        replace O7 := O7.keep hbt
        replace O8 := O8.keep hbt
        replace Ol := Ol.keep hbt
        replace Or := Or.keep hbt
        replace hZ5k := hZ5k.keep hbt
        obtain ⟨a0, a1, a2⟩ := hC.three
        obtain ⟨b0, b1, b2⟩ := hD.three
        obtain ⟨v0, v1, v2⟩ := hG.three
        obtain ⟨y0, y1, y2⟩ := hZ5k.three
        go_upto_region 16 with (go_at_call 9; refine (eqTerm_any k n ks A6 c6 k n ks At ct _ hl hl O6.rd hft.rd).mono ?_; rw [tmEq_self]; rintro e w' ⟨rfl, hb'⟩; replace g := g.trans (hb'.mono g.size); replace H := H.trans (hb'.mono H.size); replace hC := hC.keep hb'; replace hD := hD.keep hb'; replace hG := hG.keep hb'; replace O6 := O6.keep hb'; replace O7 := O7.keep hb'; replace O8 := O8.keep hb'; replace Ol := Ol.keep hb'; replace Or := Or.keep hb'; replace hZ5k := hZ5k.keep hb'; clear a0 a1 a2 b0 b1 b2 v0 v1 v2 y0 y1 y2; obtain ⟨a0, a1, a2⟩ := hC.three; obtain ⟨b0, b1, b2⟩ := hD.three; obtain ⟨v0, v1, v2⟩ := hG.three; obtain ⟨y0, y1, y2⟩ := hZ5k.three; clear hb')
        refine name_world ?_
        intro w15 hw_
        subst hw_
        have r0 := rule_of hD.three.1
        have r1 := rule_of hD.three.2.1
        have r2 := rule_of hD.three.2.2
        have hBk := hB1.keep H
        have s0 := rule_of hBk.three.1
        have s1 := rule_of hBk.three.2.1
        have s2 := rule_of hBk.three.2.2
        refine wp_region_first (fun w' => Below w15.heap.size w15 w') [0, 1] [2] [3, 4] [_, _] [_] [_, _] (by kernel_rfl) (by kernel_rfl) rfl rfl rfl (fun _ _ d _ _ h => by cases d <;> exact h) (Below.refl _ _).drew ?_
        repeat (first | ((refine take_skip (a' := ?_) ?_ ?_ ?_); (rotate_left); (· (simp [Region.wanted, yielded]; done)); (· (simp only [Act.put, List.setIfInBounds_toArray, List.set_cons_zero, List.set_cons_succ]; exact rfl))) | ((refine take_step (v := ?_) (a' := ?_) ?_ ?_ ?_ ?_); (rotate_left 2); (· (simp [Region.wanted, yielded]; done)); (· (intro w' hS'; go_simp; try (with_reducible rfl))); (· (simp only [Act.put, List.setIfInBounds_toArray, List.set_cons_zero, List.set_cons_succ]; exact rfl))))
        refine take_nil (then_cons ?_)
        go_wp2_with (go_at_call 7; refine (toTerm_any kv nv vs V cv _ (by have := hz.out; have := hz2.out; omega) (hrV.below g).drew).mono ?_; rintro e wt ⟨At, ct, rfl, hlt', hft, hbt⟩)
        replace hbt : Below w15.heap.size w15 wt := (Below.refl _ _).drew.trans hbt
        refine mid_intro hbt (then_nil ?_)
        clear r0 r1 r2 s0 s1 s2 hBk a0 a1 a2 b0 b1 b2 v0 v1 v2 y0 y1 y2
        replace g := g.trans (hbt.mono g.size)
        replace H := H.trans (hbt.mono H.size)
        replace hC := hC.keep hbt
        replace hD := hD.keep hbt
        replace hG := hG.keep hbt
        replace O6 := O6.keep hbt
        replace O7 := O7.keep hbt
        replace O8 := O8.keep hbt
        replace Ol := Ol.keep hbt
        replace Or := Or.keep hbt
        replace hZ5k := hZ5k.keep hbt
        obtain ⟨a0, a1, a2⟩ := hC.three
        obtain ⟨b0, b1, b2⟩ := hD.three
        obtain ⟨v0, v1, v2⟩ := hG.three
        obtain ⟨y0, y1, y2⟩ := hZ5k.three
        have tok20 := trivial
        go_upto_region 39 with (first
          | (go_at_call 14; have _t := tok30; refine (heldS_at r hrl'.out R8 cr8 (1 + 2 * sizes kts + 2 * sizes l) _ (by omega) (by omega) (by omega) Or.rd).mono ?_; rintro e w' ⟨rfl, hb'⟩; replace g := g.trans (hb'.mono g.size); replace H := H.trans (hb'.mono H.size); replace hG := hG.keep hb'; replace O8 := O8.keep hb'; replace Ol := Ol.keep hb'; replace Or := Or.keep hb'; replace hZ5k := hZ5k.keep hb'; clear v0 v1 v2 y0 y1 y2; obtain ⟨v0, v1, v2⟩ := hG.three; obtain ⟨y0, y1, y2⟩ := hZ5k.three; clear tok30 _t hb'; have tok31 := trivial)
          | (go_at_call 14; have _t := tok29; refine (heldS_at l rfl L8 cl8 (1 + 2 * sizes kts) _ (by omega) (by omega) (by omega) Ol.rd).mono ?_; rintro e w' ⟨rfl, hb'⟩; replace g := g.trans (hb'.mono g.size); replace H := H.trans (hb'.mono H.size); replace hG := hG.keep hb'; replace O8 := O8.keep hb'; replace Ol := Ol.keep hb'; replace Or := Or.keep hb'; replace hZ5k := hZ5k.keep hb'; clear v0 v1 v2 y0 y1 y2; obtain ⟨v0, v1, v2⟩ := hG.three; obtain ⟨y0, y1, y2⟩ := hZ5k.three; clear tok29 _t hb'; have tok30 := trivial)
          | (go_at_call 13; have _t := tok28; refine (heldK_at kt nt kts A8 c8 _ (by omega) O8.rd).mono ?_; rintro e w' ⟨rfl, hb'⟩; replace g := g.trans (hb'.mono g.size); replace H := H.trans (hb'.mono H.size); replace hG := hG.keep hb'; replace O8 := O8.keep hb'; replace Ol := Ol.keep hb'; replace Or := Or.keep hb'; replace hZ5k := hZ5k.keep hb'; clear v0 v1 v2 y0 y1 y2; obtain ⟨v0, v1, v2⟩ := hG.three; obtain ⟨y0, y1, y2⟩ := hZ5k.three; clear tok28 _t hb'; have tok29 := trivial)
          | (go_at_call 12; have _t := tok27; refine (markS_at r hrl'.out R8 cr8 f2 (1 + 2 * sizes kts + 2 * sizes l) _ (by omega) (by omega) (by omega) Or.ow Or.nodup).mono ?_; rintro e w' ⟨rfl, hq, hm⟩; have hb' : Below w5.heap.size _ w' := hm.below H.size (fun b hb => by have := Or.lo b hb; omega); replace hG := hG.only hm (Or.out (.inr (Nat.le_refl _))); replace hZ5k := hZ5k.only hm (Or.out (.inl (by omega))); replace O8 := O8.only hm hap'.out.2.1; replace Ol := Ol.only hm hap'.out.2.2; replace Or := Or.marked hq; replace g := g.trans (hb'.mono s05); replace H := H.trans hb'; clear v0 v1 v2 y0 y1 y2; obtain ⟨v0, v1, v2⟩ := hG.three; obtain ⟨y0, y1, y2⟩ := hZ5k.three; clear tok27 _t hb' hq hm; have tok28 := trivial)
          | (go_at_call 12; have _t := tok26; refine (markS_at l rfl L8 cl8 f1 (1 + 2 * sizes kts) _ (by omega) (by omega) (by omega) Ol.ow Ol.nodup).mono ?_; rintro e w' ⟨rfl, hq, hm⟩; have hb' : Below w5.heap.size _ w' := hm.below H.size (fun b hb => by have := Ol.lo b hb; omega); replace hG := hG.only hm (Ol.out (.inr (Nat.le_refl _))); replace hZ5k := hZ5k.only hm (Ol.out (.inl (by omega))); replace O8 := O8.only hm hap'.out.1; replace Or := Or.only hm (fun b h1 h2 => hap'.out.2.2 b h2 h1); replace Ol := Ol.marked hq; replace g := g.trans (hb'.mono s05); replace H := H.trans hb'; clear v0 v1 v2 y0 y1 y2; obtain ⟨v0, v1, v2⟩ := hG.three; obtain ⟨y0, y1, y2⟩ := hZ5k.three; clear tok26 _t hb' hq hm; have tok27 := trivial)
          | (go_at_call 11; have _t := tok25; refine (markTerm_any kt nt kts A8 c8 f0 1 _ (by omega) (by omega) (by omega) O8.ow O8.nodup).mono ?_; rintro e w' ⟨rfl, hq, hm⟩; have hb' : Below w5.heap.size _ w' := hm.below H.size (fun b hb => by have := O8.lo b hb; omega); replace hG := hG.only hm (O8.out (.inr (Nat.le_refl _))); replace hZ5k := hZ5k.only hm (O8.out (.inl (by omega))); replace Ol := Ol.only hm (fun b h1 h2 => hap'.out.1 b h2 h1); replace Or := Or.only hm (fun b h1 h2 => hap'.out.2.1 b h2 h1); replace O8 := O8.marked hq; replace g := g.trans (hb'.mono s05); replace H := H.trans hb'; clear v0 v1 v2 y0 y1 y2; obtain ⟨v0, v1, v2⟩ := hG.three; obtain ⟨y0, y1, y2⟩ := hZ5k.three; clear tok25 _t hb' hq hm; have tok26 := trivial)
          | (go_at_call 10; have _t := tok24; refine (eqS_same r hrl'.out R8 cr8 R5 cr5 _ hlr Or.rd (qr.below H)).mono ?_; rintro e w' ⟨rfl, hb'⟩; replace g := g.trans (hb'.mono g.size); replace H := H.trans (hb'.mono H.size); replace hG := hG.keep hb'; replace O8 := O8.keep hb'; replace Ol := Ol.keep hb'; replace Or := Or.keep hb'; replace hZ5k := hZ5k.keep hb'; clear v0 v1 v2 y0 y1 y2; obtain ⟨v0, v1, v2⟩ := hG.three; obtain ⟨y0, y1, y2⟩ := hZ5k.three; clear tok24 _t hb'; have tok25 := trivial)
          | (go_at_call 10; have _t := tok23; refine (eqS_same l rfl L8 cl8 L5 cl5 _ hll Ol.rd (ql.below H)).mono ?_; rintro e w' ⟨rfl, hb'⟩; replace g := g.trans (hb'.mono g.size); replace H := H.trans (hb'.mono H.size); replace hG := hG.keep hb'; replace O8 := O8.keep hb'; replace Ol := Ol.keep hb'; replace Or := Or.keep hb'; replace hZ5k := hZ5k.keep hb'; clear v0 v1 v2 y0 y1 y2; obtain ⟨v0, v1, v2⟩ := hG.three; obtain ⟨y0, y1, y2⟩ := hZ5k.three; clear tok23 _t hb'; have tok24 := trivial)
          | (go_at_call 9; have _t := tok22; refine (eqTerm_any kt nt kts A8 c8 kt nt kts A5 c5 _ hlt hlt O8.rd (qa.below H)).mono ?_; rw [tmEq_self]; rintro e w' ⟨rfl, hb'⟩; replace g := g.trans (hb'.mono g.size); replace H := H.trans (hb'.mono H.size); replace hG := hG.keep hb'; replace O8 := O8.keep hb'; replace Ol := Ol.keep hb'; replace Or := Or.keep hb'; replace hZ5k := hZ5k.keep hb'; clear v0 v1 v2 y0 y1 y2; obtain ⟨v0, v1, v2⟩ := hG.three; obtain ⟨y0, y1, y2⟩ := hZ5k.three; clear tok22 _t hb'; have tok23 := trivial)
          | (go_at_call 11; have _t := tok21; refine (markTerm_any kv nv vs A7 c7 fp7 (1 + 2 * sizes ks) _ (by have := hz.out; have := hz2.out; omega) (by omega) (by have := hz.out; have := hz2.out; omega) O7.ow O7.nodup).mono ?_; rintro e w' ⟨rfl, hq, hm⟩; have hb' : Below w5.heap.size _ w' := hm.below H.size (fun b hb => by have := O7.lo b hb; omega); replace hG := hG.only hm (O7.out (.inr (by omega))); replace hZ5k := hZ5k.only hm (O7.out (.inl (by omega))); replace O8 := O8.only hm (O8.apart' O7 (by omega)); replace Ol := Ol.only hm (Ol.apart' O7 (by omega)); replace Or := Or.only hm (Or.apart' O7 (by omega)); replace g := g.trans (hb'.mono s05); replace H := H.trans hb'; clear hD O7 b0 b1 b2; clear v0 v1 v2 y0 y1 y2; obtain ⟨v0, v1, v2⟩ := hG.three; obtain ⟨y0, y1, y2⟩ := hZ5k.three; clear tok21 _t hb' hq hm; have tok22 := trivial)
          | (go_at_call 11; have _t := tok20; refine (markTerm_any k n ks A6 c6 fp6 1 _ (by have := hz.out; omega) (by omega) (by have := hz.out; omega) O6.ow O6.nodup).mono ?_; rintro e w' ⟨rfl, hq, hm⟩; have hb' : Below w5.heap.size _ w' := hm.below H.size (fun b hb => by have := O6.lo b hb; omega); replace hD := hD.only hm (O6.out (.inr (by omega))); replace hG := hG.only hm (O6.out (.inr (by omega))); replace hZ5k := hZ5k.only hm (O6.out (.inl (by omega))); replace O7 := O7.only hm (O7.apart' O6 (by omega)); replace O8 := O8.only hm (O8.apart' O6 (by omega)); replace Ol := Ol.only hm (Ol.apart' O6 (by omega)); replace Or := Or.only hm (Or.apart' O6 (by omega)); replace g := g.trans (hb'.mono s05); replace H := H.trans hb'; clear hC O6 a0 a1 a2; clear b0 b1 b2 v0 v1 v2 y0 y1 y2; obtain ⟨b0, b1, b2⟩ := hD.three; obtain ⟨v0, v1, v2⟩ := hG.three; obtain ⟨y0, y1, y2⟩ := hZ5k.three; clear tok20 _t hb' hq hm; have tok21 := trivial)
          | (go_at_call 9; refine (eqTerm_any kv nv vs A7 c7 kv nv vs At ct _ hlV hlV O7.rd hft.rd).mono ?_; rw [tmEq_self]; rintro e w' ⟨rfl, hb'⟩; replace g := g.trans (hb'.mono g.size); replace H := H.trans (hb'.mono H.size); replace hC := hC.keep hb'; replace hD := hD.keep hb'; replace hG := hG.keep hb'; replace O6 := O6.keep hb'; replace O7 := O7.keep hb'; replace O8 := O8.keep hb'; replace Ol := Ol.keep hb'; replace Or := Or.keep hb'; replace hZ5k := hZ5k.keep hb'; clear a0 a1 a2 b0 b1 b2 v0 v1 v2 y0 y1 y2; obtain ⟨a0, a1, a2⟩ := hC.three; obtain ⟨b0, b1, b2⟩ := hD.three; obtain ⟨v0, v1, v2⟩ := hG.three; obtain ⟨y0, y1, y2⟩ := hZ5k.three; clear hb'; have tok20 := trivial))
        refine name_world ?_
        intro w20 hw20
        subst hw20
        have hB0m := hB0.keep H
        have hB1m := hB1.keep H
        go_cut [19, 20, 21, 22] (fun s6 s7 s8 s9 wx => ∃ (z6 : Nat) (A6 : Option Addr) (c6 : Nat) (L6 : Option Addr) (cl6 : Nat) (R6 : Option Addr) (cr6 : Nat), s6 = .pointer (some ⟨z6, 0, none⟩) ∧ s7 = .slice L6 l.length cl6 ∧ s8 = .slice R6 l.length cr6 ∧ s9 = .bool bb ∧ Below w20.heap.size w20 wx ∧ Blk wx z6 #[.int .i64 kt, .int .i64 nt, .slice A6 kts.length c6] ∧ Rd wx A6 0 kts ∧ Rd wx L6 0 l ∧ Rd wx R6 0 r)
        case first =>
          have r0 := rule_of hB0m.three.1
          have r1 := rule_of hB0m.three.2.1
          have r2 := rule_of hB0m.three.2.2
          have s0 := rule_of hB1m.three.1
          have s1 := rule_of hB1m.three.2.1
          have s2 := rule_of hB1m.three.2.2
          obtain ⟨q0, hq0⟩ : ∃ q0, q0 = w20.drew := ⟨_, rfl⟩
          have bq0 : Below w20.heap.size w20 q0 := by rw [hq0]; exact (Below.refl _ _).drew
          refine gC_start (fun w' => Below w20.heap.size w20 w') [5, 6, 7, 8, 9, 11, 12, 13, 14] 15 (by kernel_rfl) rfl ?_
          refine gC_take [0, 2] (f := 13) (l' := #[true, false, true, false, false, false, false, false, false, false, false, false, false, false, false]) (lT := [_, _]) (by rw [← hq0]; exact bq0) rfl (by kernel_rfl) (by kernel_rfl) (by kernel_rfl) rfl (fun _ _ d _ _ h => by cases d <;> exact h) ?_
          repeat (first | ((refine takeY_skip (a' := ?_) ?_ ?_ ?_); (rotate_left); (· (simp [Region.wanted, yielded]; done)); (· (simp only [List.getElem_toArray, List.getElem_cons_zero, List.getElem_cons_succ, Act.put, List.setIfInBounds_toArray, List.set_cons_zero, List.set_cons_succ]; exact rfl))) | ((refine takeY_step (v := ?_) (a' := ?_) ?_ ?_ ?_ ?_); (rotate_left 2); (· (simp [Region.wanted, yielded]; done)); (· (intro w' hS'; go_simp; try (with_reducible rfl))); (· (simp only [List.getElem_toArray, List.getElem_cons_zero, List.getElem_cons_succ, Act.put, List.setIfInBounds_toArray, List.set_cons_zero, List.set_cons_succ]; exact rfl))))
          refine takeY_nil ?_
          rw [← hq0]
          clear hq0 r0 r1 r2 s0 s1 s2
          refine gC_two (i := 1) (j := 10) (by kernel_rfl) rfl rfl ?_ ?_
          · have sp1 := bq0.size
            go_wp2_with (go_at_call 7; refine (toTerm_any k n ks A c _ (by have := hz.out; omega) (hr.below (g.trans (bq0.mono g.size)))).mono ?_; rintro e p1 ⟨Xp1, cp1, rfl, -, hfp1, hp1⟩)
            have bp1 := bq0.trans (hp1.mono sp1)
            have dp1 := hfp1.rd
            have tp1 := hp1.size
            refine mid_intro bp1 ?_
            refine gC_two (i := 3) (j := 10) (by kernel_rfl) rfl rfl ?_ ?_
            · have sp2 := bp1.size
              go_wp2_with (go_at_call 7; refine (toTerm_any kv nv vs V cv _ (by have := hz.out; have := hz2.out; omega) (hrV.below (g.trans (bp1.mono g.size)))).mono ?_; rintro e p2 ⟨Xp2, cp2, rfl, -, hfp2, hp2⟩)
              have bp2 := bp1.trans (hp2.mono sp2)
              have dp2 := hfp2.rd
              have tp2 := hp2.size
              have fp2 := dp1.below hp2
              refine mid_intro bp2 ?_
              refine gC_two (i := 4) (j := 10) (by kernel_rfl) rfl rfl ?_ ?_
              · have sp3 := bp2.size
                go_wp2_with (go_at_call 8; refine (iCommonPattern_any k n ks Xp1 cp1 kv nv vs Xp2 cp2 _ (by have := hz.out; omega) (by have := hz.out; have := hz2.out; omega) fp2 dp2).mono ?_; intro e p3 hgo; obtain ⟨Ap3, cp3, Lp3, clp3, Rp3, crp3, rfl, rap3', rlp3', rrp3', hp3⟩ := hS'.out _ _ _ (by rw [cp_eq]; exact hgo.cpS); clear hgo)
                have rap3 := rdp_ltC.2 _ _ _ rap3'
                have rlp3 := rdp_ltC.2 _ _ _ rlp3'
                have rrp3 := rdp_ltC.2 _ _ _ rrp3'
                have tp3 := hp3.size
                have bp3 := bp2.trans (hp3.mono sp3)
                refine mid_intro bp3 ?_
                refine gC_takeT [5, 6, 7, 8, 9] (f := 5) (l' := #[true, true, true, true, true, true, true, true, true, true, false, false, false, false, false]) (lT := [_, _, _, _, _]) rfl (by kernel_rfl) (by kernel_rfl) (by kernel_rfl) rfl (fun _ _ d _ _ h => by cases d <;> exact h) ?_
                repeat (first | ((refine takeY_skip (a' := ?_) ?_ ?_ ?_); (rotate_left); (· (simp [Region.wanted, yielded]; done)); (· (simp only [List.getElem_toArray, List.getElem_cons_zero, List.getElem_cons_succ, Act.put, List.setIfInBounds_toArray, List.set_cons_zero, List.set_cons_succ]; exact rfl))) | ((refine takeY_step (v := ?_) (a' := ?_) ?_ ?_ ?_ ?_); (rotate_left 2); (· (simp [Region.wanted, yielded]; done)); (· (intro w' hS'; go_simp; try (with_reducible rfl))); (· (simp only [List.getElem_toArray, List.getElem_cons_zero, List.getElem_cons_succ, Act.put, List.setIfInBounds_toArray, List.set_cons_zero, List.set_cons_succ]; exact rfl))))
                refine takeY_nil ?_
                refine gC_one (i := 10) (by kernel_rfl) rfl ?_
                · go_wp2_with fail
                  refine name_midw ?_
                  intro p4 hn
                  have bp4 : Below w20.heap.size w20 p4 := by rw [hn]; exact by_alloc bp3 _
                  have zp4 : Blk p4 p3.heap.size #[.int .i64 0, .int .i64 0, .slice none 0 0] := by rw [hn]; exact Blk.new_ _ 28 _ rfl
                  have lzp4 : p3.heap.size < p4.heap.size := by rw [hn]; simp
                  have szp4 := bp3.size
                  have rap4' : _ := rap3.alloc (.cells #[.int .i64 0, .int .i64 0, .slice none 0 0] 28)
                  rw [← hn] at rap4'
                  have rlp4' : _ := rlp3.alloc (.cells #[.int .i64 0, .int .i64 0, .slice none 0 0] 28)
                  rw [← hn] at rlp4'
                  have rrp4' : _ := rrp3.alloc (.cells #[.int .i64 0, .int .i64 0, .slice none 0 0] 28)
                  rw [← hn] at rrp4'
                  clear hn
                  refine mid_intro bp4 ?_
                  refine gC_end [11, 12, 13, 14] (lB := [_, _, _, _]) (by simp) (by kernel_rfl) (by kernel_rfl) rfl ?_
                  obtain ⟨d0, d1, d2⟩ := zp4.three
                  have e0 := zp4.frozen 0
                  have e1 := zp4.frozen 1
                  have e2 := zp4.frozen 2
                  go_wp2_with fail
                  go_meet
                  refine ⟨p3.heap.size, Ap3, cp3, Lp3, clp3, Rp3, crp3, rfl, rfl, rfl, rfl, by_set3 bp4 (by omega) _ _ _, ((zp4.set_ 0 _).set_ 1 _).set_ 2 _, ?_, ?_, ?_⟩
                  · exact (rap4'.set3 (fun h => by have := h.1; have := h.2; omega) _ _ _).rd
                  · exact (rlp4'.set3 (fun h => by have := h.1; have := h.2; omega) _ _ _).rd
                  · exact (rrp4'.set3 (fun h => by have := h.1; have := h.2; omega) _ _ _).rd
              · go_wp2_with fail
                refine name_midw ?_
                intro p5 hn
                have bp5 : Below w20.heap.size w20 p5 := by rw [hn]; exact by_alloc bp2 _
                have zp5 : Blk p5 p2.heap.size #[.int .i64 0, .int .i64 0, .slice none 0 0] := by rw [hn]; exact Blk.new_ _ 28 _ rfl
                have lzp5 : p2.heap.size < p5.heap.size := by rw [hn]; simp
                have szp5 := bp2.size
                have dp5' : _ := fp2.alloc (.cells #[.int .i64 0, .int .i64 0, .slice none 0 0] 28)
                rw [← hn] at dp5'
                have d2p5' : _ := dp2.alloc (.cells #[.int .i64 0, .int .i64 0, .slice none 0 0] 28)
                rw [← hn] at d2p5'
                clear hn
                refine mid_intro bp5 ?_
                refine gC_one (i := 4) (by kernel_rfl) rfl ?_
                · have sp6 := bp5.size
                  go_wp2_with (go_at_call 8; refine (iCommonPattern_any k n ks Xp1 cp1 kv nv vs Xp2 cp2 _ (by have := hz.out; omega) (by have := hz.out; have := hz2.out; omega) dp5' d2p5').mono ?_; intro e p6 hgo; obtain ⟨Ap6, cp6, Lp6, clp6, Rp6, crp6, rfl, rap6', rlp6', rrp6', hp6⟩ := hS'.out _ _ _ (by rw [cp_eq]; exact hgo.cpS); clear hgo)
                  have rap6 := rdp_ltC.2 _ _ _ rap6'
                  have rlp6 := rdp_ltC.2 _ _ _ rlp6'
                  have rrp6 := rdp_ltC.2 _ _ _ rrp6'
                  have tp6 := hp6.size
                  have bp6 := bp5.trans (hp6.mono sp6)
                  have zp6 := zp5.keep hp6
                  refine mid_intro bp6 ?_
                  refine gC_takeT [5, 6, 7, 8, 9] (f := 4) (l' := #[true, true, true, true, true, true, true, true, true, true, true, false, false, false, false]) (lT := [_, _, _, _, _]) rfl (by kernel_rfl) (by kernel_rfl) (by kernel_rfl) rfl (fun _ _ d _ _ h => by cases d <;> exact h) ?_
                  repeat (first | ((refine takeY_skip (a' := ?_) ?_ ?_ ?_); (rotate_left); (· (simp [Region.wanted, yielded]; done)); (· (simp only [List.getElem_toArray, List.getElem_cons_zero, List.getElem_cons_succ, Act.put, List.setIfInBounds_toArray, List.set_cons_zero, List.set_cons_succ]; exact rfl))) | ((refine takeY_step (v := ?_) (a' := ?_) ?_ ?_ ?_ ?_); (rotate_left 2); (· (simp [Region.wanted, yielded]; done)); (· (intro w' hS'; go_simp; try (with_reducible rfl))); (· (simp only [List.getElem_toArray, List.getElem_cons_zero, List.getElem_cons_succ, Act.put, List.setIfInBounds_toArray, List.set_cons_zero, List.set_cons_succ]; exact rfl))))
                  refine takeY_nil ?_
                  refine gC_end [11, 12, 13, 14] (lB := [_, _, _, _]) (by simp) (by kernel_rfl) (by kernel_rfl) rfl ?_
                  obtain ⟨d0, d1, d2⟩ := zp6.three
                  have e0 := zp6.frozen 0
                  have e1 := zp6.frozen 1
                  have e2 := zp6.frozen 2
                  go_wp2_with fail
                  go_meet
                  refine ⟨p2.heap.size, Ap6, cp6, Lp6, clp6, Rp6, crp6, rfl, rfl, rfl, rfl, by_set3 bp6 (by omega) _ _ _, ((zp6.set_ 0 _).set_ 1 _).set_ 2 _, ?_, ?_, ?_⟩
                  · exact (rap6.set3 (fun h => by have := h.1; have := h.2; omega) _ _ _).rd
                  · exact (rlp6.set3 (fun h => by have := h.1; have := h.2; omega) _ _ _).rd
                  · exact (rrp6.set3 (fun h => by have := h.1; have := h.2; omega) _ _ _).rd
            · go_wp2_with fail
              refine name_midw ?_
              intro p7 hn
              have bp7 : Below w20.heap.size w20 p7 := by rw [hn]; exact by_alloc bp1 _
              have zp7 : Blk p7 p1.heap.size #[.int .i64 0, .int .i64 0, .slice none 0 0] := by rw [hn]; exact Blk.new_ _ 28 _ rfl
              have lzp7 : p1.heap.size < p7.heap.size := by rw [hn]; simp
              have szp7 := bp1.size
              have dp7' : _ := dp1.alloc (.cells #[.int .i64 0, .int .i64 0, .slice none 0 0] 28)
              rw [← hn] at dp7'
              clear hn
              refine mid_intro bp7 ?_
              refine gC_one (i := 3) (by kernel_rfl) rfl ?_
              · have sp8 := bp7.size
                go_wp2_with (go_at_call 7; refine (toTerm_any kv nv vs V cv _ (by have := hz.out; have := hz2.out; omega) (hrV.below (g.trans (bp7.mono g.size)))).mono ?_; rintro e p8 ⟨Xp8, cp8, rfl, -, hfp8, hp8⟩)
                have bp8 := bp7.trans (hp8.mono sp8)
                have dp8 := hfp8.rd
                have tp8 := hp8.size
                have fp8 := dp7'.below hp8
                have zp8 := zp7.keep hp8
                refine mid_intro bp8 ?_
                refine gC_one (i := 4) (by kernel_rfl) rfl ?_
                · have sp9 := bp8.size
                  go_wp2_with (go_at_call 8; refine (iCommonPattern_any k n ks Xp1 cp1 kv nv vs Xp8 cp8 _ (by have := hz.out; omega) (by have := hz.out; have := hz2.out; omega) fp8 dp8).mono ?_; intro e p9 hgo; obtain ⟨Ap9, cp9, Lp9, clp9, Rp9, crp9, rfl, rap9', rlp9', rrp9', hp9⟩ := hS'.out _ _ _ (by rw [cp_eq]; exact hgo.cpS); clear hgo)
                  have rap9 := rdp_ltC.2 _ _ _ rap9'
                  have rlp9 := rdp_ltC.2 _ _ _ rlp9'
                  have rrp9 := rdp_ltC.2 _ _ _ rrp9'
                  have tp9 := hp9.size
                  have bp9 := bp8.trans (hp9.mono sp9)
                  have zp9 := zp8.keep hp9
                  refine mid_intro bp9 ?_
                  refine gC_takeT [5, 6, 7, 8, 9] (f := 4) (l' := #[true, true, true, true, true, true, true, true, true, true, true, false, false, false, false]) (lT := [_, _, _, _, _]) rfl (by kernel_rfl) (by kernel_rfl) (by kernel_rfl) rfl (fun _ _ d _ _ h => by cases d <;> exact h) ?_
                  repeat (first | ((refine takeY_skip (a' := ?_) ?_ ?_ ?_); (rotate_left); (· (simp [Region.wanted, yielded]; done)); (· (simp only [List.getElem_toArray, List.getElem_cons_zero, List.getElem_cons_succ, Act.put, List.setIfInBounds_toArray, List.set_cons_zero, List.set_cons_succ]; exact rfl))) | ((refine takeY_step (v := ?_) (a' := ?_) ?_ ?_ ?_ ?_); (rotate_left 2); (· (simp [Region.wanted, yielded]; done)); (· (intro w' hS'; go_simp; try (with_reducible rfl))); (· (simp only [List.getElem_toArray, List.getElem_cons_zero, List.getElem_cons_succ, Act.put, List.setIfInBounds_toArray, List.set_cons_zero, List.set_cons_succ]; exact rfl))))
                  refine takeY_nil ?_
                  refine gC_end [11, 12, 13, 14] (lB := [_, _, _, _]) (by simp) (by kernel_rfl) (by kernel_rfl) rfl ?_
                  obtain ⟨d0, d1, d2⟩ := zp9.three
                  have e0 := zp9.frozen 0
                  have e1 := zp9.frozen 1
                  have e2 := zp9.frozen 2
                  go_wp2_with fail
                  go_meet
                  refine ⟨p1.heap.size, Ap9, cp9, Lp9, clp9, Rp9, crp9, rfl, rfl, rfl, rfl, by_set3 bp9 (by omega) _ _ _, ((zp9.set_ 0 _).set_ 1 _).set_ 2 _, ?_, ?_, ?_⟩
                  · exact (rap9.set3 (fun h => by have := h.1; have := h.2; omega) _ _ _).rd
                  · exact (rlp9.set3 (fun h => by have := h.1; have := h.2; omega) _ _ _).rd
                  · exact (rrp9.set3 (fun h => by have := h.1; have := h.2; omega) _ _ _).rd
          · go_wp2_with fail
            refine name_midw ?_
            intro p10 hn
            have bp10 : Below w20.heap.size w20 p10 := by rw [hn]; exact by_alloc bq0 _
            have zp10 : Blk p10 q0.heap.size #[.int .i64 0, .int .i64 0, .slice none 0 0] := by rw [hn]; exact Blk.new_ _ 28 _ rfl
            have lzp10 : q0.heap.size < p10.heap.size := by rw [hn]; simp
            have szp10 := bq0.size
            clear hn
            refine mid_intro bp10 ?_
            refine gC_one (i := 1) (by kernel_rfl) rfl ?_
            · have sp11 := bp10.size
              go_wp2_with (go_at_call 7; refine (toTerm_any k n ks A c _ (by have := hz.out; omega) (hr.below (g.trans (bp10.mono g.size)))).mono ?_; rintro e p11 ⟨Xp11, cp11, rfl, -, hfp11, hp11⟩)
              have bp11 := bp10.trans (hp11.mono sp11)
              have dp11 := hfp11.rd
              have tp11 := hp11.size
              have zp11 := zp10.keep hp11
              refine mid_intro bp11 ?_
              refine gC_one (i := 3) (by kernel_rfl) rfl ?_
              · have sp12 := bp11.size
                go_wp2_with (go_at_call 7; refine (toTerm_any kv nv vs V cv _ (by have := hz.out; have := hz2.out; omega) (hrV.below (g.trans (bp11.mono g.size)))).mono ?_; rintro e p12 ⟨Xp12, cp12, rfl, -, hfp12, hp12⟩)
                have bp12 := bp11.trans (hp12.mono sp12)
                have dp12 := hfp12.rd
                have tp12 := hp12.size
                have fp12 := dp11.below hp12
                have zp12 := zp11.keep hp12
                refine mid_intro bp12 ?_
                refine gC_one (i := 4) (by kernel_rfl) rfl ?_
                · have sp13 := bp12.size
                  go_wp2_with (go_at_call 8; refine (iCommonPattern_any k n ks Xp11 cp11 kv nv vs Xp12 cp12 _ (by have := hz.out; omega) (by have := hz.out; have := hz2.out; omega) fp12 dp12).mono ?_; intro e p13 hgo; obtain ⟨Ap13, cp13, Lp13, clp13, Rp13, crp13, rfl, rap13', rlp13', rrp13', hp13⟩ := hS'.out _ _ _ (by rw [cp_eq]; exact hgo.cpS); clear hgo)
                  have rap13 := rdp_ltC.2 _ _ _ rap13'
                  have rlp13 := rdp_ltC.2 _ _ _ rlp13'
                  have rrp13 := rdp_ltC.2 _ _ _ rrp13'
                  have tp13 := hp13.size
                  have bp13 := bp12.trans (hp13.mono sp13)
                  have zp13 := zp12.keep hp13
                  refine mid_intro bp13 ?_
                  refine gC_takeT [5, 6, 7, 8, 9] (f := 4) (l' := #[true, true, true, true, true, true, true, true, true, true, true, false, false, false, false]) (lT := [_, _, _, _, _]) rfl (by kernel_rfl) (by kernel_rfl) (by kernel_rfl) rfl (fun _ _ d _ _ h => by cases d <;> exact h) ?_
                  repeat (first | ((refine takeY_skip (a' := ?_) ?_ ?_ ?_); (rotate_left); (· (simp [Region.wanted, yielded]; done)); (· (simp only [List.getElem_toArray, List.getElem_cons_zero, List.getElem_cons_succ, Act.put, List.setIfInBounds_toArray, List.set_cons_zero, List.set_cons_succ]; exact rfl))) | ((refine takeY_step (v := ?_) (a' := ?_) ?_ ?_ ?_ ?_); (rotate_left 2); (· (simp [Region.wanted, yielded]; done)); (· (intro w' hS'; go_simp; try (with_reducible rfl))); (· (simp only [List.getElem_toArray, List.getElem_cons_zero, List.getElem_cons_succ, Act.put, List.setIfInBounds_toArray, List.set_cons_zero, List.set_cons_succ]; exact rfl))))
                  refine takeY_nil ?_
                  refine gC_end [11, 12, 13, 14] (lB := [_, _, _, _]) (by simp) (by kernel_rfl) (by kernel_rfl) rfl ?_
                  obtain ⟨d0, d1, d2⟩ := zp13.three
                  have e0 := zp13.frozen 0
                  have e1 := zp13.frozen 1
                  have e2 := zp13.frozen 2
                  go_wp2_with fail
                  go_meet
                  refine ⟨q0.heap.size, Ap13, cp13, Lp13, clp13, Rp13, crp13, rfl, rfl, rfl, rfl, by_set3 bp13 (by omega) _ _ _, ((zp13.set_ 0 _).set_ 1 _).set_ 2 _, ?_, ?_, ?_⟩
                  · exact (rap13.set3 (fun h => by have := h.1; have := h.2; omega) _ _ _).rd
                  · exact (rlp13.set3 (fun h => by have := h.1; have := h.2; omega) _ _ _).rd
                  · exact (rrp13.set3 (fun h => by have := h.1; have := h.2; omega) _ _ _).rd
        case rest =>
          obtain ⟨z6, A9, c9, L9, cl9, R9, cr9, rfl, rfl, rfl, rfl, h26, hZ6, ra9, rl9, rr9⟩ := hcut
          go_upto_region 40 with fail
          refine name_world ?_
          intro w21 hw21
          subst hw21
          replace g := g.trans (h26.mono g.size)
          replace H := H.trans (h26.mono H.size)
          replace hG := hG.keep h26
          replace hZ5k := hZ5k.keep h26
          replace O8 := O8.keep h26
          replace Ol := Ol.keep h26
          replace Or := Or.keep h26
          clear v0 v1 v2 y0 y1 y2
          obtain ⟨v0, v1, v2⟩ := hG.three
          obtain ⟨y0, y1, y2⟩ := hZ5k.three
          obtain ⟨d0, d1, d2⟩ := hZ6.three
          have lz6 := hZ6.lt
          have K9 : Keeps w21 w21 := Keeps.refl _
          have tok40 := trivial
          go_wp2_with (first
            | (go_at_call 14; have _t := tok45; refine (heldS_at r hrl'.out R8 cr8 (1 + 2 * sizes kts + 2 * sizes l) _ (by omega) (by omega) (by omega) Or.rd).mono ?_; rintro e w' ⟨rfl, hb'⟩; replace g := g.trans (hb'.mono g.size); replace H := H.trans (hb'.mono H.size); replace hG := hG.keep hb'; replace O8 := O8.keep hb'; replace Ol := Ol.keep hb'; replace Or := Or.keep hb'; replace hZ5k := hZ5k.keep hb'; clear v0 v1 v2 y0 y1 y2; obtain ⟨v0, v1, v2⟩ := hG.three; obtain ⟨y0, y1, y2⟩ := hZ5k.three; clear tok45 _t hb'; have tok46 := trivial)
            | (go_at_call 14; have _t := tok44; refine (heldS_at l rfl L8 cl8 (1 + 2 * sizes kts) _ (by omega) (by omega) (by omega) Ol.rd).mono ?_; rintro e w' ⟨rfl, hb'⟩; replace g := g.trans (hb'.mono g.size); replace H := H.trans (hb'.mono H.size); replace hG := hG.keep hb'; replace O8 := O8.keep hb'; replace Ol := Ol.keep hb'; replace Or := Or.keep hb'; replace hZ5k := hZ5k.keep hb'; clear v0 v1 v2 y0 y1 y2; obtain ⟨v0, v1, v2⟩ := hG.three; obtain ⟨y0, y1, y2⟩ := hZ5k.three; clear tok44 _t hb'; have tok45 := trivial)
            | (go_at_call 13; have _t := tok43; refine (heldK_at kt nt kts A8 c8 _ (by omega) O8.rd).mono ?_; rintro e w' ⟨rfl, hb'⟩; replace g := g.trans (hb'.mono g.size); replace H := H.trans (hb'.mono H.size); replace hG := hG.keep hb'; replace O8 := O8.keep hb'; replace Ol := Ol.keep hb'; replace Or := Or.keep hb'; replace hZ5k := hZ5k.keep hb'; clear v0 v1 v2 y0 y1 y2; obtain ⟨v0, v1, v2⟩ := hG.three; obtain ⟨y0, y1, y2⟩ := hZ5k.three; clear tok43 _t hb'; have tok44 := trivial)
            | (go_at_call 10; have _t := tok42; refine (eqS_same r hrl'.out R9 cr9 R5 cr5 _ hlr (rr9.keeps K9) (qr.below H)).mono ?_; rintro e w' ⟨rfl, hb'⟩; replace g := g.trans (hb'.mono g.size); replace K9 := K9.trans (Keeps.of_below hb'); replace H := H.trans (hb'.mono H.size); replace hG := hG.keep hb'; replace O8 := O8.keep hb'; replace Ol := Ol.keep hb'; replace Or := Or.keep hb'; replace hZ5k := hZ5k.keep hb'; clear v0 v1 v2 y0 y1 y2; obtain ⟨v0, v1, v2⟩ := hG.three; obtain ⟨y0, y1, y2⟩ := hZ5k.three; clear tok42 _t hb'; have tok43 := trivial)
            | (go_at_call 10; have _t := tok41; refine (eqS_same l rfl L9 cl9 L5 cl5 _ hll (rl9.keeps K9) (ql.below H)).mono ?_; rintro e w' ⟨rfl, hb'⟩; replace g := g.trans (hb'.mono g.size); replace K9 := K9.trans (Keeps.of_below hb'); replace H := H.trans (hb'.mono H.size); replace hG := hG.keep hb'; replace O8 := O8.keep hb'; replace Ol := Ol.keep hb'; replace Or := Or.keep hb'; replace hZ5k := hZ5k.keep hb'; clear v0 v1 v2 y0 y1 y2; obtain ⟨v0, v1, v2⟩ := hG.three; obtain ⟨y0, y1, y2⟩ := hZ5k.three; clear tok41 _t hb'; have tok42 := trivial)
            | (go_at_call 9; have _t := tok40; refine (eqTerm_any kt nt kts A9 c9 kt nt kts A5 c5 _ hlt hlt (ra9.keeps K9) (qa.below H)).mono ?_; rw [tmEq_self]; rintro e w' ⟨rfl, hb'⟩; replace g := g.trans (hb'.mono g.size); replace K9 := K9.trans (Keeps.of_below hb'); replace H := H.trans (hb'.mono H.size); replace hG := hG.keep hb'; replace O8 := O8.keep hb'; replace Ol := Ol.keep hb'; replace Or := Or.keep hb'; replace hZ5k := hZ5k.keep hb'; clear v0 v1 v2 y0 y1 y2; obtain ⟨v0, v1, v2⟩ := hG.three; obtain ⟨y0, y1, y2⟩ := hZ5k.three; clear tok40 _t hb'; have tok41 := trivial))
          go_ret
          exact ⟨rfl, g⟩
    · have hsz2 := szR_no (left := 1048576 - sizes ks) (m := sizes vs) (by omega)
      clear hs hs2
      go_enter Try.func3, Try.ntmps3
      go_wp2_with (first | (go_at_call 5; refine (szTerm_any kv nv vs V cv (1048576 - sizes ks) _ hlV (hrV.below g1) (by have := hz.out; omega) (by omega)).mono ?_; rw [hsz2]; rintro e w2 ⟨rfl, hb2⟩; have g2 := g1.trans (hb2.mono g1.size)) | (go_at_call 5; refine (szTerm_any k n ks A c 1048576 _ hl ((hr.alloc _).alloc _) (by omega) (by omega)).mono ?_; rw [hsz]; rintro e w1 ⟨rfl, hb1⟩; have hB0 := ((Blk.new_ w 24 #[.int .i64 k, .int .i64 n, .slice A ks.length c] rfl).alloc (.cells #[.int .i64 kv, .int .i64 nv, .slice V vs.length cv] 24)).keep hb1; have hB1 : Blk w1 (w.heap.size + 1) #[.int .i64 kv, .int .i64 nv, .slice V vs.length cv] := (Blk.new_ (w.alloc (.cells #[.int .i64 k, .int .i64 n, .slice A ks.length c] 24)) 24 #[.int .i64 kv, .int .i64 nv, .slice V vs.length cv] (by simp)).keep hb1; have g1 : Below w.heap.size w w1 := (((Below.refl _ _).alloc (Nat.le_refl _) _).alloc (by simp) _).trans (hb1.mono (by simp; omega)); obtain ⟨u0, u1, u2⟩ := hB1.three))
      go_ret
      exact ⟨rfl, g2⟩
  · have hsz := szR_no (left := 1048576) (m := sizes ks) (by omega)
    clear hs
    go_enter Try.func3, Try.ntmps3
    go_wp2_with (go_at_call 5; refine (szTerm_any k n ks A c 1048576 _ hl ((hr.alloc _).alloc _) (by omega) (by omega)).mono ?_; rw [hsz]; rintro e w1 ⟨rfl, hb1⟩; replace hb1 : Below w.heap.size w w1 := (((Below.refl _ _).alloc (Nat.le_refl _) _).alloc (by simp) _).trans (hb1.mono (by simp; omega)))
    go_ret
    exact ⟨rfl, hb1⟩
end Go.Proofs.Ytgmljpmnfncceaa

namespace Go.Proofs.Ytgmljpmnfncceaa.lCommonPattern
open Go.ChangeShapes Go.WideShapes Go.ChangeAt Go.RowKit
set_option linter.unusedVariables false
set_option linter.unusedSimpArgs false

theorem own : ownKnob Try.prog.godebug = none := by kernel_rfl
theorem laidOut : laidOutB Try.prog = true := by kernel_rfl

set_option maxRecDepth 100000 in
theorem lifted (os : Os) (started : os.Started) (H : Type) (enc : TypeId × Value → H) :
    ReturnsInHanded {} Try.checked os 3 .any (Rows.fnExactCommonPatternSpec.pre6 enc Try.prog Try.f3 Rows.fnExactCommonPatternRow.domain false) (Rows.fnExactCommonPatternSpec.post enc Try.prog Try.f3 false true false false) := by
  refine returnsInHanded_of_change (C := Try.checked) own started (by kernel_rfl) Try.func3
    (ChangeSpec.witness6 (enc := enc) (C := Try.checked) false ⟨#[], #[.agg #[.int .i64 0, .int .i64 0, .slice none 0 0], .agg #[.int .i64 0, .int .i64 0, .slice none 0 0]], []⟩ 8 (by kernel_rfl) (by kernel_rfl) (by kernel_rfl) (by kernel_rfl)) ?_
  intro W base args ds gs before hval0 hW hcnd _
  have hval : ∀ (j : Nat) t v, Try.f3.params[j]? = some t → args[j]? = some v → Value.okWide Try.prog W .any base t v := hval0
  have hW' := hW
  obtain ⟨p, q, hA0, hV, rfl, hfz, hnd⟩ := hW
  have hA : DataW.TrodAll enc Try.prog W 0 (fun _ => true) true Try.f3.params.toList args.toList ds p := hA0
  rw [Try.params3] at hA hval
  obtain ⟨v0, vs0, d0, ds0, p0, q0, hargs0, rfl, rfl, h0, r0⟩ := trodAll_cons hA
  obtain ⟨v1, vs1, d1, ds1, p1, q1, hargs1, rfl, rfl, h1, r1⟩ := trodAll_cons r0
  obtain ⟨rfl, rfl, rfl⟩ := trodAll_nil r1
  obtain rfl : args = #[v0, v1] := by cases args; simp_all
  obtain ⟨rfl, rfl⟩ := trodVars_none hV
  obtain ⟨k0, n0, ks0, A0, c0, rfl, hl0, hr0⟩ := open_term (hval 0 24 v0 rfl rfl) h0
  obtain ⟨k1, n1, ks1, A1, c1, rfl, hl1, hr1⟩ := open_term (hval 1 24 v1 rfl rfl) h1
  clear hA0 hval0
  simp only [List.append_nil] at hW' hfz
  have hlt : ∀ x ∈ p0 ++ p1, x.block < W.heap.size := fun x hx => hW'.lt x hx
  refine (lawCommonPattern_any k0 n0 ks0 A0 c0 k1 n1 ks1 A1 c1 W hl0 hr0 hl1 hr1).mono fun e W' ⟨he, hb⟩ => ?_
  subst he
  exact ⟨_, rfl, post_below (pa := p0 ++ p1) (pv := []) hW' (fun _ _ _ => (trodAll_cons_mk (shut_bool Try.underlying4 _) trodAll_mk0)) (fun sp hsp => by
      have := (trodAll_cons_mk (WideElems.Trod_stays (sp' := sp) laidOut (by kernel_rfl) (of_decide_eq_true (by kernel_rfl)) h0 (fun x hx => hb.same (hlt x (by simp [hx]))) (fun x hx => hsp x (by simp [hx]))) (trodAll_cons_mk (WideElems.Trod_stays (sp' := sp) laidOut (by kernel_rfl) (of_decide_eq_true (by kernel_rfl)) h1 (fun x hx => hb.same (hlt x (by simp [hx]))) (fun x hx => hsp x (by simp [hx]))) trodAll_mk0))
      show DataW.TrodAll enc Try.prog W' 0 sp true Try.f3.params.toList [_, _] [d0, d1] (p0 ++ p1)
      rw [Try.params3]
      simpa using this) (fun _ _ => rfl) (by simp)
    hb (ok_one (by kernel_rfl) rfl (okWide_bool_mk Try.underlying4 _))⟩

theorem holds : Rows.FnExactCommonPatternSaid :=
  OpenClaim.holds_of_wide 3 Try.f3 rfl rfl rfl rfl rfl rfl rfl ⟨rfl, rfl, rfl, rfl, rfl⟩ rfl rfl rfl rfl rfl (by kernel_rfl) Try.func3 (by kernel_rfl)
    (of_decide_eq_true (by kernel_rfl)) (by unfold Func.isWrapper; first | (rw [if_pos (by decide +kernel)]; kernel_rfl) | (rw [if_neg (by decide +kernel)]; exact ⟨rfl, rfl⟩))
    (fun os started H enc _ => lifted os started H enc)
end Go.Proofs.Ytgmljpmnfncceaa.lCommonPattern
