/-
  Texts that are common to the laws: CmpI, CmpL, CmpP. No condition.
-/
import Derived.Test.YtgmljpmnfncceaaK2
import Derived.Test.YtgmljpmnfncceaaK4
import Derived.Test.YtgmljpmnfncceaaK5
import Derived.Test.YtgmljpmnfncceaaK8
import Derived.Test.YtgmljpmnfncceaaK26
import Derived.Test.YtgmljpmnfncceaaK28
import Derived.Test.YtgmljpmnfncceaaK31

namespace Go.Proofs.Ytgmljpmnfncceaa
open Go.RowKit
set_option linter.unusedSimpArgs false
set_option linter.unusedVariables false

theorem holeI_good : ∀ i, i ≤ 100000 → nbd (holeI i) = true ∧ (holeI i).size = 1 := fun i hi => ⟨by simp [holeI, nbd, nbd.nbds]; omega, by simp [holeI, Tm.size, sizes]⟩
theorem numI_size (h : Int) (t : Tm) : ∀ (d : Int), (numI h d t).size ≤ t.size := by
  refine (Tm.ind2 (p := fun t => ∀ d : Int, (numI h d t).size ≤ t.size) (q := fun ts => ∀ (k d : Int) (i : Nat), sizes (numIL h k d i ts) ≤ sizes ts) ?_ ?_ ?_).1 t
  · intro k n ks ih d
    rw [numI]
    split
    · simp [Tm.size, sizes]
    · split
      · simp [Tm.size, sizes]
      · rw [Tm.size, Tm.size]; have := ih k d 0; omega
  · intro k d i; rw [numIL]; exact Nat.le_refl _
  · intro t ts h1 h2 k d i; rw [numIL, sizes, sizes]; have := h1 (d + under k i); have := h2 k d (i + 1); omega
theorem sizes_mul {ks : List Tm} (h : ∀ x, x ∈ ks → x.size ≤ 400) : sizes ks ≤ 400 * ks.length := by
  induction ks with
  | nil => simp [sizes]
  | cons a ts ih => rw [sizes, List.length_cons]; have := h a (by simp); have := ih (fun x hx => h x (by simp [hx])); omega
/-- what CommonPattern of the program answers -/
def cpI (a b : Tm) : Option (Tm × Prs) :=
  if validT a = true ∧ validT b = true then
    match cm holeI 0 a b ([], []) with
    | none => none
    | some (t, st) => if st.1.length ≤ 6 ∧ validT (numI st.1.length 0 t) = true then some (numI st.1.length 0 t, st) else none
  else none
def cpF : Option (Tm × Prs) → Option (Tm × Prs)
  | none => none
  | some (t, st) => if st.1.length ≤ 6 ∧ validT (numI st.1.length 0 t) = true then some (numI st.1.length 0 t, st) else none
theorem cpI_eq {a b : Tm} {res : Option (Tm × Prs)} (h1 : validT a = true) (h2 : validT b = true) (h : cm holeI 0 a b ([], []) = res) : cpI a b = cpF res := by
  subst h
  rw [cpI, if_pos ⟨h1, h2⟩]
  cases cm holeI 0 a b ([], []) with
  | none => rfl
  | some r => obtain ⟨t, st⟩ := r; rfl
theorem Chg.low {gf W c1 c2 : Nat} {w w' : World} (h : Chg gf (.slice none 0 c1) (.slice none 0 c2) w w') (h1 : W ≤ gf) (h2 : W ≤ w.heap.size) : Below W w w' :=
  ⟨h.os, h.tape, h.output, h.size, fun b hb => h.block b (by omega) (by omega) (by simp [Value.ownBlock]) (by simp [Value.ownBlock])⟩
/-- the answer, in blocks of its own -/
def CpF (w : World) (r : Option (Tm × Prs)) (e : Ending) (w' : World) : Prop :=
  match r with
  | none => e = .returned (.tuple #[.agg #[.int .i64 0, .int .i64 0, .slice none 0 0], .slice none 0 0, .slice none 0 0, .bool false]) ∧ Below w.heap.size w w'
  | some (t, st) => ∃ A c L cl R cr f0 f1 f2 a0 b0 a1 b1 a2 b2, e = .returned (.tuple #[.agg #[.int .i64 t.k, .int .i64 t.n, .slice A t.ks.length c], .slice L st.1.length cl, .slice R st.1.length cr, .bool true]) ∧ t.ks.length ≤ 9223372036854775807 ∧ st.2.length = st.1.length ∧
      OwF w' A t.ks f0 a0 b0 ∧ OwF w' L st.1 f1 a1 b1 ∧ OwF w' R st.2 f2 a2 b2 ∧ (w.heap.size ≤ a0 ∧ w.heap.size ≤ a1 ∧ w.heap.size ≤ a2 ∧ b0 ≤ a1 ∧ b0 ≤ a2 ∧ b1 ≤ a2) ∧ Below w.heap.size w w'
theorem OwF.rdpC {w : World} {A : Option Addr} {ks : List Tm} {fp : List Nat} {lo hi B : Nat} (h : OwF w A ks fp lo hi) (hB : B ≤ lo) : RdP (fun b => B ≤ b) w A 0 ks :=
  (Fresh.rdp (⟨fp, h.ow, h.nodup, fun b hb => Nat.le_trans hB (h.lo b hb)⟩ : Fresh B w A ks)).mono (fun b h => h.1)
theorem CpF.cpS {w : World} {r : Option (Tm × Prs)} {e : Ending} {w' : World} (h : CpF w r e w') : CpS w r e w' := by
  cases r with
  | none => exact ⟨⟨none, 0, h.1⟩, h.2⟩
  | some r =>
    obtain ⟨t, st⟩ := r
    obtain ⟨A, c, L, cl, R, cr, f0, f1, f2, a0, b0, a1, b1, a2, b2, he, hl, -, h0, h1, h2, hh, hb⟩ := h
    exact ⟨A, c, L, cl, R, cr, he, hl, h0.rdpC hh.1, h1.rdpC hh.2.1, h2.rdpC hh.2.2.1, hb⟩
theorem OwF.set3 {w : World} {A : Option Addr} {ks : List Tm} {fp : List Nat} {lo hi g : Nat} (h : OwF w A ks fp lo hi) (hg : g < lo ∨ hi ≤ g) (x y z : Value) : OwF (((w.setCell ⟨g, 0, none⟩ x).setCell ⟨g, 1, none⟩ y).setCell ⟨g, 2, none⟩ z) A ks fp lo hi := by
  have ne : ∀ b, b ∈ fp → b ≠ g := fun b hb e => by have h1 := h.lo b hb; have h2 := h.hi b hb; omega
  exact ⟨h.ow.frame fun b hb => (Below.heap_setCell _ _ z b (ne b hb)).trans ((Below.heap_setCell _ _ y b (ne b hb)).trans (Below.heap_setCell w _ x b (ne b hb))), h.nodup, h.lo, h.hi⟩
theorem cpS_none {w : World} {e : Ending} {w' : World} (he : e = .returned (.tuple #[.agg #[.int .i64 0, .int .i64 0, .slice none 0 0], .slice none 0 0, .slice none 0 0, .bool false])) (hb : Below w.heap.size w w') : CpF w none e w' := ⟨he, hb⟩
set_option maxHeartbeats 8000000 in
set_option maxRecDepth 100000 in
theorem iCommonPattern_any (k n : Int) (ks : List Tm) (A : Option Addr) (c : Nat) (ku nu : Int) (us : List Tm) (U : Option Addr) (cu : Nat) (w : World) (hM : sizes ks ≤ 1000000000) (hMu : sizes us ≤ 1000000000) (hr : Rd w A 0 ks) (hru : Rd w U 0 us) :
    Calls Try.prog 8 #[.agg #[.int .i64 k, .int .i64 n, .slice A ks.length c], .agg #[.int .i64 ku, .int .i64 nu, .slice U us.length cu]] w (CpF w (cpI (.mk k n ks) (.mk ku nu us))) := by
  have hlen := length_le_sizes ks
  have hlenu := length_le_sizes us
  go_enter Try.func8, Try.ntmps8
  go_upto_region 1 with fail
  refine name_world ?_
  intro w0 hw0
  have hF0 : Fr w k n ks A c ku nu us U cu w0 := by
    rw [hw0]
    exact ⟨((Blk.new_ _ 28 _ rfl).alloc _).alloc _, (Blk.new_ _ 28 _ (by simp)).alloc _, Blk.new_ _ 28 _ (by simp), by_alloc (by_alloc (by_alloc (by_refl _) _) _) _⟩
  have hsz0 := hF0.size
  clear hw0
  obtain ⟨x0, x1, x2⟩ := hF0.h0.three
  obtain ⟨y0, y1, y2⟩ := hF0.h1.three
  cases hva : validT (.mk k n ks) with
  | false =>
    have hz : cpI (.mk k n ks) (.mk ku nu us) = none := by rw [cpI, hva, if_neg (by simp)]
    have hz' := hide hz
    have hva' := hide hva
    clear hz hva
    go_wp2_with (go_at_call 19; refine (iTermValid_any k n ks A c _ (by omega) (hr.below hF0.hb)).mono ?_; rw [hva'.out]; rintro e w1 ⟨rfl, hb1⟩; have hF1 := hF0.below hb1; obtain ⟨d0, d1, d2⟩ := hF1.h2.three; have e0 := hF1.h2.frozen 0; have e1 := hF1.h2.frozen 1; have e2 := hF1.h2.frozen 2)
    refine bodyPost_ret (v := .tuple #[.agg #[.int .i64 0, .int .i64 0, .slice none 0 0], .slice none 0 0, .slice none 0 0, .bool false]) ?_ rfl ?_
    · simp [results, Try.results8, go_sem, d0, d1, d2]
    · rw [hz'.out]
      exact cpS_none rfl (by_set3 hF1.hb (by omega) _ _ _)
  | true =>
    cases hvb : validT (.mk ku nu us) with
    | false =>
      have hz : cpI (.mk k n ks) (.mk ku nu us) = none := by rw [cpI, hvb, if_neg (by simp)]
      have hz' := hide hz
      have hva' := hide hva
      have hvb' := hide hvb
      clear hz hva hvb
      go_wp2_with (first
        | (go_at_call 19; have _t := tok1; refine (iTermValid_any ku nu us U cu _ (by omega) (hru.below hF1.hb)).mono ?_; rw [hvb'.out]; rintro e w2 ⟨rfl, hb2⟩; have hF2 := hF1.below hb2; obtain ⟨d0, d1, d2⟩ := hF2.h2.three; have e0 := hF2.h2.frozen 0; have e1 := hF2.h2.frozen 1; have e2 := hF2.h2.frozen 2)
        | (go_at_call 19; refine (iTermValid_any k n ks A c _ (by omega) (hr.below hF0.hb)).mono ?_; rw [hva'.out]; rintro e w1 ⟨rfl, hb1⟩; have hF1 := hF0.below hb1; clear x0 x1 x2 y0 y1 y2; obtain ⟨x0, x1, x2⟩ := hF1.h0.three; obtain ⟨y0, y1, y2⟩ := hF1.h1.three; have tok1 := trivial))
      refine bodyPost_ret (v := .tuple #[.agg #[.int .i64 0, .int .i64 0, .slice none 0 0], .slice none 0 0, .slice none 0 0, .bool false]) ?_ rfl ?_
      · simp [results, Try.results8, go_sem, d0, d1, d2]
      · rw [hz'.out]
        exact cpS_none rfl (by_set3 hF2.hb (by omega) _ _ _)
    | true =>
      have hzk := validT_size hva
      have hzu := validT_size hvb
      have hsa : shape 30 (.mk k n ks) = true := by simp only [validT, Bool.and_eq_true] at hva; exact hva.1
      have hsh := hide hsa
      clear hsa
      rw [Tm.size] at hzk hzu
      have prs0 : PrsOk 0 ([], []) := ⟨rfl, Nat.le_refl _, fun x hx => (by cases hx), fun x hx => (by cases hx)⟩
      have prs0' := hide prs0
      have hva' := hide hva
      have hvb' := hide hvb
      clear prs0
      obtain ⟨res, hcm⟩ : ∃ res, cm holeI 0 (.mk k n ks) (.mk ku nu us) ([], []) = res := ⟨_, rfl⟩
      have hcm' := hide hcm
      have hcp := cpI_eq hva hvb hcm
      have hcp' := hide hcp
      clear hva hvb hcm hcp
      go_upto_region 4 with (first
        | (go_at_call 19; have _t := tok1; refine (iTermValid_any ku nu us U cu _ (by omega) (hru.below hF1.hb)).mono ?_; rw [hvb'.out]; rintro e w2 ⟨rfl, hb2⟩; have hF2 := hF1.below hb2; have tok2 := trivial)
        | (go_at_call 19; refine (iTermValid_any k n ks A c _ (by omega) (hr.below hF0.hb)).mono ?_; rw [hva'.out]; rintro e w1 ⟨rfl, hb1⟩; have hF1 := hF0.below hb1; clear x0 x1 x2 y0 y1 y2; obtain ⟨x0, x1, x2⟩ := hF1.h0.three; obtain ⟨y0, y1, y2⟩ := hF1.h1.three; have tok1 := trivial))
      refine name_world ?_
      intro w3 hw3
      have hF3 : Fr w k n ks A c ku nu us U cu w3 := by rw [hw3]; exact hF2.alloc _
      have hfn : Blk w3 w2.heap.size #[.slice none 0 0, .slice none 0 0] := by rw [hw3]; exact Blk.new_ _ _ _ rfl
      have s32 : w2.heap.size + 1 ≤ w3.heap.size := by rw [hw3]; simp
      clear hw3 x0 x1 x2 y0 y1 y2
      have s2 := hF2.size
      obtain ⟨x0, x1, x2⟩ := hF3.h0.three
      obtain ⟨y0, y1, y2⟩ := hF3.h1.three
      have rA : RdP (fun b => b < w2.heap.size) w3 A 0 ks := (hr.rdp.mono (fun b hb => by have hb : b < w.heap.size := hb; omega)).below hF3.hb
      have rU : RdP (fun b => b < w2.heap.size) w3 U 0 us := (hru.rdp.mono (fun b hb => by have hb : b < w.heap.size := hb; omega)).below hF3.hb
      cases res with
      | none =>
        go_upto_region 5 with (go_at_call 25; refine (iCommon_any _ (w2.heap.size + 1) (fun _ => False) w2.heap.size (.slice none 0 0) (.slice none 0 0) k n ks A c ku nu us U cu 0 [] [] 0 _ (Nat.lt_succ_self _) (by omega) (by omega) (fun b h => h.elim) hva'.out hvb'.out (Int.le_refl 0) (by omega) prs0'.out (by omega) rA rU hfn Rows2.nil).mono ?_; rw [hcm'.out]; intro e w4 hgo; obtain ⟨v1', v2', hc4, o1, o2, hf4, rfl, hR4⟩ := fnGot_noneE hgo; have hF4 := hF3.far (hc4.low (W := w.heap.size + 3) (by omega) (by omega)))
        refine name_world ?_
        intro wq hwq
        have hFq : Fr w k n ks A c ku nu us U cu wq := by rw [hwq]; exact hF4.alloc _
        clear hwq
        obtain ⟨d0, d1, d2⟩ := hFq.h2.three
        have e0 := hFq.h2.frozen 0
        have e1 := hFq.h2.frozen 1
        have e2 := hFq.h2.frozen 2
        go_wp2_with fail
        have hz' : Hid (cpI (.mk k n ks) (.mk ku nu us) = none) := hcp'
        refine bodyPost_ret (v := .tuple #[.agg #[.int .i64 0, .int .i64 0, .slice none 0 0], .slice none 0 0, .slice none 0 0, .bool false]) ?_ rfl ?_
        · simp [results, Try.results8, go_sem, d0, d1, d2]
        · rw [hz'.out]
          exact cpS_none rfl (by_set3 hFq.hb (by omega) _ _ _)
      | some pr =>
        obtain ⟨⟨ko, no, kso⟩, l, r⟩ := pr
        have hg := cm_good holeI_good _ 30 _ _ 0 _ _ _ hsh.out prs0'.out (by rw [Tm.size]; omega) hcm'.out
        have hok := cm_ok holeI _ _ _ _ _ _ _ prs0'.out hcm'.out
        rw [Tm.size, Tm.size] at hg
        rw [Tm.size] at hok
        have hrl := hide hok.1
        have hll : l.length ≤ 400 := by have := hok.2.1; simp only at this; omega
        have hsl := sizes_mul hok.2.2.1
        have hsr := sizes_mul hok.2.2.2
        simp only at hsl hsr
        have hsr' : sizes r ≤ 160000 := by have := hok.1; simp only at this; omega
        have hsl' : sizes l ≤ 160000 := by omega
        have hnb := hide hg.1
        have hso : sizes kso ≤ 399 := by have := hg.2; omega
        clear hg hok hsl hsr
        by_cases h6 : l.length ≤ 6
        case neg =>
          have hz' : Hid (cpI (.mk k n ks) (.mk ku nu us) = none) := hide (hcp'.out.trans (if_neg (fun h => h6 h.1)))
          have f6 : decide ((l.length : Int) ≤ 6) = false := decide_eq_false (by omega)
          have f6' : decide (l.length ≤ 6) = false := decide_eq_false h6
          clear h6
          go_upto_region 6 with (first
            | (go_at_call 26; refine (isHoles_any _ _).mono ?_; rintro e w' ⟨rfl, rfl⟩)
            | (go_at_call 25; refine (iCommon_any _ (w2.heap.size + 1) (fun _ => False) w2.heap.size (.slice none 0 0) (.slice none 0 0) k n ks A c ku nu us U cu 0 [] [] 0 _ (Nat.lt_succ_self _) (by omega) (by omega) (fun b h => h.elim) hva'.out hvb'.out (Int.le_refl 0) (by omega) prs0'.out (by omega) rA rU hfn Rows2.nil).mono ?_; rw [hcm'.out]; intro e w4 hgo; obtain ⟨v1', v2', Ao, co, hc4, o1, o2, hf4, rfl, hlo, hko, hR4⟩ := fnGot_someE hgo; obtain ⟨L1, cl, L2, cr, hv1, hv2, rl4, rr4⟩ := hR4.rd; rw [← show l.length = r.length from hrl.out] at hv2; subst hv1 hv2; have lf4 := hf4.lt; have lf4' : w2.heap.size < w4.heap.size + 1 := (by omega); obtain ⟨f0, f1⟩ := hf4.two; have z0 := trivial; have z1 := trivial; have z2 := trivial; have hF4 := hF3.far (hc4.low (W := w.heap.size + 3) (by omega) (by omega))))
          refine name_world ?_
          intro wq hwq
          have hFq : Fr w k n ks A c ku nu us U cu wq := by rw [hwq]; exact hF4.alloc _
          clear hwq
          obtain ⟨d0, d1, d2⟩ := hFq.h2.three
          have e0 := hFq.h2.frozen 0
          have e1 := hFq.h2.frozen 1
          have e2 := hFq.h2.frozen 2
          go_wp2_with fail
          refine bodyPost_ret (v := .tuple #[.agg #[.int .i64 0, .int .i64 0, .slice none 0 0], .slice none 0 0, .slice none 0 0, .bool false]) ?_ rfl ?_
          · simp [results, Try.results8, go_sem, d0, d1, d2]
          · rw [hz'.out]
            exact cpS_none rfl (by_set3 hFq.hb (by omega) _ _ _)
        case pos =>
          have hns := numI_size (l.length : Int) (.mk ko no kso) 0
          obtain ⟨kk, nn, K, hnk⟩ : ∃ kk nn K, numI (l.length : Int) 0 (.mk ko no kso) = .mk kk nn K := by cases numI (l.length : Int) 0 (.mk ko no kso) with | mk a b c => exact ⟨a, b, c, rfl⟩
          rw [hnk, Tm.size, Tm.size] at hns
          have hsK : sizes K ≤ 399 := by omega
          have hKl := length_le_sizes K
          have hnk' := hide hnk
          have f6 : decide ((l.length : Int) ≤ 6) = true := decide_eq_true (by omega)
          have f6' : decide (l.length ≤ 6) = true := decide_eq_true h6
          clear hns hnk
          go_upto_region 7 with (first
            | (go_at_call 26; refine (isHoles_any _ _).mono ?_; rintro e w' ⟨rfl, rfl⟩)
            | (go_at_call 25; refine (iCommon_any _ (w2.heap.size + 1) (fun _ => False) w2.heap.size (.slice none 0 0) (.slice none 0 0) k n ks A c ku nu us U cu 0 [] [] 0 _ (Nat.lt_succ_self _) (by omega) (by omega) (fun b h => h.elim) hva'.out hvb'.out (Int.le_refl 0) (by omega) prs0'.out (by omega) rA rU hfn Rows2.nil).mono ?_; rw [hcm'.out]; intro e w4 hgo; obtain ⟨v1', v2', Ao, co, hc4, o1, o2, hf4, rfl, hlo, hko, hR4⟩ := fnGot_someE hgo; obtain ⟨L1, cl, L2, cr, hv1, hv2, rl4, rr4⟩ := hR4.rd; rw [← show l.length = r.length from hrl.out] at hv2; subst hv1 hv2; have lf4 := hf4.lt; have lf4' : w2.heap.size < w4.heap.size + 1 := (by omega); obtain ⟨f0, f1⟩ := hf4.two; have z0 := trivial; have z1 := trivial; have z2 := trivial; have hF4 := hF3.far (hc4.low (W := w.heap.size + 3) (by omega) (by omega))))
          refine name_world ?_
          intro wq hwq
          have hFq : Fr w k n ks A c ku nu us U cu wq := by rw [hwq]; exact hF4.alloc _
          have hTq : Blk wq w4.heap.size #[.int .i64 ko, .int .i64 no, .slice Ao kso.length co] := by rw [hwq]; exact Blk.new_ _ 28 _ rfl
          have hfq : Blk wq w2.heap.size #[.slice L1 l.length cl, .slice L2 l.length cr] := by rw [hwq]; exact hf4.alloc _
          have rk : Rd wq Ao 0 kso := by rw [hwq]; exact (hko.alloc _).rd
          have rl : Rd wq L1 0 l := by rw [hwq]; exact (rl4.alloc _).rd
          have rr : Rd wq L2 0 r := by rw [hwq]; exact (rr4.alloc _).rd
          clear hwq f0 f1 z0 z1 z2 x0 x1 x2 y0 y1 y2
          have g0 := rule_of hfq.two.1
          have t0 := rule_of hTq.three.1
          have t1 := rule_of hTq.three.2.1
          have t2 := rule_of hTq.three.2.2
          refine gC_start (fun w' => Below wq.heap.size wq w') [8, 9, 10, 12, 13] 14 (by kernel_rfl) rfl ?_
          refine gC_take [0, 1, 2, 3, 4, 5] (f := 8) (l' := #[true, true, true, true, true, true, false, false, false, false, false, false, false, false]) (lT := [_, _, _, _, _, _]) (Below.refl _ _).drew rfl (by kernel_rfl) (by kernel_rfl) (by kernel_rfl) rfl (fun _ _ d _ _ h => by cases d <;> exact h) ?_
          repeat (first | ((refine takeY_skip (a' := ?_) ?_ ?_ ?_); (rotate_left); (· (simp [Region.wanted, yielded]; done)); (· (simp only [List.getElem_toArray, List.getElem_cons_zero, List.getElem_cons_succ, Act.put, List.setIfInBounds_toArray, List.set_cons_zero, List.set_cons_succ]; exact rfl))) | ((refine takeY_step (v := ?_) (a' := ?_) ?_ ?_ ?_ ?_); (rotate_left 2); (· (simp [Region.wanted, yielded]; done)); (· (intro w' hS'; go_simp; try (with_reducible rfl))); (· (simp only [List.getElem_toArray, List.getElem_cons_zero, List.getElem_cons_succ, Act.put, List.setIfInBounds_toArray, List.set_cons_zero, List.set_cons_succ]; exact rfl))))
          refine takeY_nil ?_
          clear g0 t0 t1 t2
          cases hvo : validT (.mk kk nn K) with
          | false =>
            have hz' : Hid (cpI (.mk k n ks) (.mk ku nu us) = none) := by
              refine hide (hcp'.out.trans (if_neg (fun h => ?_)))
              have h2 := h.2
              simp only at h2
              rw [hnk'.out, hvo] at h2
              cases h2
            have hvo' := hide hvo
            clear hvo
            refine gC_two (i := 6) (j := 11) (by kernel_rfl) rfl rfl ?_ ?_
            · go_wp2_with (go_at_call 28; refine (iNumber_any (l.length : Int) (by omega) _ ko no kso Ao co 0 _ (Nat.lt_succ_self _) hnb.out (Int.le_refl 0) (by omega) (rk.below (by_drew (by_refl wq)))).mono ?_; rw [hnk'.out]; rintro e p1 ⟨A4, c4, rfl, hl4, hfr4, hx4⟩; obtain ⟨fp4, r4p1⟩ := Fresh.owf hfr4; have bp1 := (by_drew (by_refl wq)).trans (hx4.mono (by_drew (by_refl wq)).size); have s4 := (by_drew (by_refl wq)).size; have q4p1 := hx4.size)
              refine mid_intro bp1 ?_
              refine gC_two (i := 7) (j := 11) (by kernel_rfl) rfl rfl ?_ ?_
              · go_wp2_with (go_at_call 27; refine (valid_no kk nn K A4 c4 _ (by omega) r4p1.rd hvo'.out).mono ?_; (try unfold zeroV); rintro e p2 ⟨rfl, hx5⟩; have bp2 := bp1.trans (hx5.mono bp1.size))
                refine mid_intro bp2 ?_
                refine gC_takeT [8, 9, 10] (f := 3) (l' := #[true, true, true, true, true, true, true, true, true, true, true, false, false, false]) (lT := [_, _, _]) rfl (by kernel_rfl) (by kernel_rfl) (by kernel_rfl) rfl (fun _ _ d _ _ h => by cases d <;> exact h) ?_
                repeat (first | ((refine takeY_skip (a' := ?_) ?_ ?_ ?_); (rotate_left); (· (simp [Region.wanted, yielded]; done)); (· (simp only [List.getElem_toArray, List.getElem_cons_zero, List.getElem_cons_succ, Act.put, List.setIfInBounds_toArray, List.set_cons_zero, List.set_cons_succ]; exact rfl))) | ((refine takeY_step (v := ?_) (a' := ?_) ?_ ?_ ?_ ?_); (rotate_left 2); (· (simp [Region.wanted, yielded]; done)); (· (intro w' hS'; go_simp; try (with_reducible rfl))); (· (simp only [List.getElem_toArray, List.getElem_cons_zero, List.getElem_cons_succ, Act.put, List.setIfInBounds_toArray, List.set_cons_zero, List.set_cons_succ]; exact rfl))))
                refine takeY_nil ?_
                refine gC_one (i := 11) (by kernel_rfl) rfl ?_
                · go_wp2_with fail
                  refine name_midw ?_
                  intro p3 hn
                  have bp3 : Below wq.heap.size wq p3 := by rw [hn]; exact bp2.alloc bp2.size _
                  have hZp3 : Blk p3 p2.heap.size #[.int .i64 0, .int .i64 0, .slice none 0 0] := by rw [hn]; exact Blk.new_ _ 28 _ rfl
                  have szp3 := bp2.size
                  have zlp3 := hZp3.lt
                  clear hn
                  refine mid_intro bp3 ?_
                  refine gC_end [12, 13] (lB := [_, _]) (by simp) (by kernel_rfl) (by kernel_rfl) rfl ?_
                  have hFz := hFq.below bp3
                  have lz := hZp3.lt
                  have sF := hFq.size
                  obtain ⟨a0, a1, a2⟩ := hZp3.three
                  have i0 := hZp3.frozen 0
                  have i1 := hZp3.frozen 1
                  have i2 := hZp3.frozen 2
                  have hzW : w.heap.size + 1 + 1 < p2.heap.size := by omega
                  have hzW' : w.heap.size + 1 + 1 ≠ p2.heap.size := by omega
                  obtain ⟨d0, d1, d2⟩ := hFz.h2.three
                  have e0 := hFz.h2.frozen 0
                  have e1 := hFz.h2.frozen 1
                  have e2 := hFz.h2.frozen 2
                  go_wp2_with fail
                  refine bodyPost_ret (v := .tuple #[.agg #[.int .i64 0, .int .i64 0, .slice none 0 0], .slice none 0 0, .slice none 0 0, .bool false]) ?_ rfl ?_
                  · simp [results, Try.results8, go_sem, d0, d1, d2, hzW', Ne.symm hzW']
                  · rw [hz'.out]
                    exact cpS_none rfl (by_set3 (by_set3 hFz.hb (g := p2.heap.size) (by omega) _ _ _) (by omega) _ _ _)
              · go_wp2_with fail
                refine name_midw ?_
                intro p4 hn
                have bp4 : Below wq.heap.size wq p4 := by rw [hn]; exact bp1.alloc bp1.size _
                have hZp4 : Blk p4 p1.heap.size #[.int .i64 0, .int .i64 0, .slice none 0 0] := by rw [hn]; exact Blk.new_ _ 28 _ rfl
                have szp4 := bp1.size
                have zlp4 := hZp4.lt
                have r6p4 := r4p1.alloc (.cells #[.int .i64 0, .int .i64 0, .slice none 0 0] 28)
                rw [← hn] at r6p4
                clear hn
                refine mid_intro bp4 ?_
                refine gC_one (i := 7) (by kernel_rfl) rfl ?_
                · go_wp2_with (go_at_call 27; refine (valid_no kk nn K A4 c4 _ (by omega) r6p4.rd hvo'.out).mono ?_; (try unfold zeroV); rintro e p5 ⟨rfl, hx5⟩; have bp5 := bp4.trans (hx5.mono bp4.size))
                  refine mid_intro bp5 ?_
                  have hZp5 := hZp4.keep hx5
                  refine gC_takeT [8, 9, 10] (f := 2) (l' := #[true, true, true, true, true, true, true, true, true, true, true, true, false, false]) (lT := [_, _, _]) rfl (by kernel_rfl) (by kernel_rfl) (by kernel_rfl) rfl (fun _ _ d _ _ h => by cases d <;> exact h) ?_
                  repeat (first | ((refine takeY_skip (a' := ?_) ?_ ?_ ?_); (rotate_left); (· (simp [Region.wanted, yielded]; done)); (· (simp only [List.getElem_toArray, List.getElem_cons_zero, List.getElem_cons_succ, Act.put, List.setIfInBounds_toArray, List.set_cons_zero, List.set_cons_succ]; exact rfl))) | ((refine takeY_step (v := ?_) (a' := ?_) ?_ ?_ ?_ ?_); (rotate_left 2); (· (simp [Region.wanted, yielded]; done)); (· (intro w' hS'; go_simp; try (with_reducible rfl))); (· (simp only [List.getElem_toArray, List.getElem_cons_zero, List.getElem_cons_succ, Act.put, List.setIfInBounds_toArray, List.set_cons_zero, List.set_cons_succ]; exact rfl))))
                  refine takeY_nil ?_
                  refine gC_end [12, 13] (lB := [_, _]) (by simp) (by kernel_rfl) (by kernel_rfl) rfl ?_
                  have hFz := hFq.below bp5
                  have lz := hZp5.lt
                  have sF := hFq.size
                  obtain ⟨a0, a1, a2⟩ := hZp5.three
                  have i0 := hZp5.frozen 0
                  have i1 := hZp5.frozen 1
                  have i2 := hZp5.frozen 2
                  have hzW : w.heap.size + 1 + 1 < p1.heap.size := by omega
                  have hzW' : w.heap.size + 1 + 1 ≠ p1.heap.size := by omega
                  obtain ⟨d0, d1, d2⟩ := hFz.h2.three
                  have e0 := hFz.h2.frozen 0
                  have e1 := hFz.h2.frozen 1
                  have e2 := hFz.h2.frozen 2
                  go_wp2_with fail
                  refine bodyPost_ret (v := .tuple #[.agg #[.int .i64 0, .int .i64 0, .slice none 0 0], .slice none 0 0, .slice none 0 0, .bool false]) ?_ rfl ?_
                  · simp [results, Try.results8, go_sem, d0, d1, d2, hzW', Ne.symm hzW']
                  · rw [hz'.out]
                    exact cpS_none rfl (by_set3 (by_set3 hFz.hb (g := p1.heap.size) (by omega) _ _ _) (by omega) _ _ _)
            · go_wp2_with fail
              refine name_midw ?_
              intro p6 hn
              have bp6 : Below wq.heap.size wq p6 := by rw [hn]; exact (by_drew (by_refl wq)).alloc (by_drew (by_refl wq)).size _
              have hZp6 : Blk p6 wq.heap.size #[.int .i64 0, .int .i64 0, .slice none 0 0] := by rw [hn]; exact Blk.new_ _ 28 _ rfl
              have szp6 := (by_drew (by_refl wq)).size
              have zlp6 := hZp6.lt
              clear hn
              refine mid_intro bp6 ?_
              refine gC_one (i := 6) (by kernel_rfl) rfl ?_
              · go_wp2_with (go_at_call 28; refine (iNumber_any (l.length : Int) (by omega) _ ko no kso Ao co 0 _ (Nat.lt_succ_self _) hnb.out (Int.le_refl 0) (by omega) (rk.below bp6)).mono ?_; rw [hnk'.out]; rintro e p7 ⟨A4, c4, rfl, hl4, hfr4, hx4⟩; obtain ⟨fp4, r4p7⟩ := Fresh.owf hfr4; have bp7 := bp6.trans (hx4.mono bp6.size); have s4 := bp6.size; have q4p7 := hx4.size)
                refine mid_intro bp7 ?_
                have hZp7 := hZp6.keep hx4
                refine gC_one (i := 7) (by kernel_rfl) rfl ?_
                · go_wp2_with (go_at_call 27; refine (valid_no kk nn K A4 c4 _ (by omega) r4p7.rd hvo'.out).mono ?_; (try unfold zeroV); rintro e p8 ⟨rfl, hx5⟩; have bp8 := bp7.trans (hx5.mono bp7.size))
                  refine mid_intro bp8 ?_
                  have hZp8 := hZp7.keep hx5
                  refine gC_takeT [8, 9, 10] (f := 2) (l' := #[true, true, true, true, true, true, true, true, true, true, true, true, false, false]) (lT := [_, _, _]) rfl (by kernel_rfl) (by kernel_rfl) (by kernel_rfl) rfl (fun _ _ d _ _ h => by cases d <;> exact h) ?_
                  repeat (first | ((refine takeY_skip (a' := ?_) ?_ ?_ ?_); (rotate_left); (· (simp [Region.wanted, yielded]; done)); (· (simp only [List.getElem_toArray, List.getElem_cons_zero, List.getElem_cons_succ, Act.put, List.setIfInBounds_toArray, List.set_cons_zero, List.set_cons_succ]; exact rfl))) | ((refine takeY_step (v := ?_) (a' := ?_) ?_ ?_ ?_ ?_); (rotate_left 2); (· (simp [Region.wanted, yielded]; done)); (· (intro w' hS'; go_simp; try (with_reducible rfl))); (· (simp only [List.getElem_toArray, List.getElem_cons_zero, List.getElem_cons_succ, Act.put, List.setIfInBounds_toArray, List.set_cons_zero, List.set_cons_succ]; exact rfl))))
                  refine takeY_nil ?_
                  refine gC_end [12, 13] (lB := [_, _]) (by simp) (by kernel_rfl) (by kernel_rfl) rfl ?_
                  have hFz := hFq.below bp8
                  have lz := hZp8.lt
                  have sF := hFq.size
                  obtain ⟨a0, a1, a2⟩ := hZp8.three
                  have i0 := hZp8.frozen 0
                  have i1 := hZp8.frozen 1
                  have i2 := hZp8.frozen 2
                  have hzW : w.heap.size + 1 + 1 < wq.heap.size := by omega
                  have hzW' : w.heap.size + 1 + 1 ≠ wq.heap.size := by omega
                  obtain ⟨d0, d1, d2⟩ := hFz.h2.three
                  have e0 := hFz.h2.frozen 0
                  have e1 := hFz.h2.frozen 1
                  have e2 := hFz.h2.frozen 2
                  go_wp2_with fail
                  refine bodyPost_ret (v := .tuple #[.agg #[.int .i64 0, .int .i64 0, .slice none 0 0], .slice none 0 0, .slice none 0 0, .bool false]) ?_ rfl ?_
                  · simp [results, Try.results8, go_sem, d0, d1, d2, hzW', Ne.symm hzW']
                  · rw [hz'.out]
                    exact cpS_none rfl (by_set3 (by_set3 hFz.hb (g := wq.heap.size) (by omega) _ _ _) (by omega) _ _ _)
          | true =>
            have hz' : Hid (cpI (.mk k n ks) (.mk ku nu us) = some (.mk kk nn K, (l, r))) := by
              refine hide (hcp'.out.trans ?_)
              show (if l.length ≤ 6 ∧ validT (numI (l.length : Int) 0 (.mk ko no kso)) = true then some (numI (l.length : Int) 0 (.mk ko no kso), (l, r)) else none) = _
              rw [hnk'.out, if_pos ⟨h6, hvo⟩]
            have hvo' := hide hvo
            clear hvo
            refine gC_two (i := 6) (j := 11) (by kernel_rfl) rfl rfl ?_ ?_
            · go_wp2_with (go_at_call 28; refine (iNumber_any (l.length : Int) (by omega) _ ko no kso Ao co 0 _ (Nat.lt_succ_self _) hnb.out (Int.le_refl 0) (by omega) (rk.below (by_drew (by_refl wq)))).mono ?_; rw [hnk'.out]; rintro e p1 ⟨A4, c4, rfl, hl4, hfr4, hx4⟩; obtain ⟨fp4, r4p1⟩ := Fresh.owf hfr4; have bp1 := (by_drew (by_refl wq)).trans (hx4.mono (by_drew (by_refl wq)).size); have s4 := (by_drew (by_refl wq)).size; have q4p1 := hx4.size)
              refine mid_intro bp1 ?_
              refine gC_two (i := 7) (j := 11) (by kernel_rfl) rfl rfl ?_ ?_
              · go_wp2_with (go_at_call 27; refine (valid_yes kk nn K A4 c4 _ (by omega) r4p1.rd hvo'.out).mono ?_; rintro e p2 ⟨rfl, hx5⟩; have r5p2 := r4p1.keep hx5; have q5p2 := hx5.size; have bp2 := bp1.trans (hx5.mono bp1.size))
                refine mid_intro bp2 ?_
                refine gC_takeT [8, 9, 10] (f := 3) (l' := #[true, true, true, true, true, true, true, true, true, true, true, false, false, false]) (lT := [_, _, _]) rfl (by kernel_rfl) (by kernel_rfl) (by kernel_rfl) rfl (fun _ _ d _ _ h => by cases d <;> exact h) ?_
                repeat (first | ((refine takeY_skip (a' := ?_) ?_ ?_ ?_); (rotate_left); (· (simp [Region.wanted, yielded]; done)); (· (simp only [List.getElem_toArray, List.getElem_cons_zero, List.getElem_cons_succ, Act.put, List.setIfInBounds_toArray, List.set_cons_zero, List.set_cons_succ]; exact rfl))) | ((refine takeY_step (v := ?_) (a' := ?_) ?_ ?_ ?_ ?_); (rotate_left 2); (· (simp [Region.wanted, yielded]; done)); (· (intro w' hS'; go_simp; try (with_reducible rfl))); (· (simp only [List.getElem_toArray, List.getElem_cons_zero, List.getElem_cons_succ, Act.put, List.setIfInBounds_toArray, List.set_cons_zero, List.set_cons_succ]; exact rfl))))
                refine takeY_nil ?_
                refine gC_one (i := 11) (by kernel_rfl) rfl ?_
                · go_wp2_with fail
                  refine name_midw ?_
                  intro p3 hn
                  have bp3 : Below wq.heap.size wq p3 := by rw [hn]; exact bp2.alloc bp2.size _
                  have hZp3 : Blk p3 p2.heap.size #[.int .i64 0, .int .i64 0, .slice none 0 0] := by rw [hn]; exact Blk.new_ _ 28 _ rfl
                  have szp3 := bp2.size
                  have zlp3 := hZp3.lt
                  have r6p3 := r5p2.alloc (.cells #[.int .i64 0, .int .i64 0, .slice none 0 0] 28)
                  rw [← hn] at r6p3
                  clear hn
                  refine mid_intro bp3 ?_
                  refine gC_end [12, 13] (lB := [_, _]) (by simp) (by kernel_rfl) (by kernel_rfl) rfl ?_
                  have hFz := hFq.below bp3
                  have lz := hZp3.lt
                  have sF := hFq.size
                  obtain ⟨a0, a1, a2⟩ := hZp3.three
                  have i0 := hZp3.frozen 0
                  have i1 := hZp3.frozen 1
                  have i2 := hZp3.frozen 2
                  have hzW : w.heap.size + 1 + 1 < p2.heap.size := by omega
                  have hzW' : w.heap.size + 1 + 1 ≠ p2.heap.size := by omega
                  have rz : OwF p3 A4 K fp4 wq.drew.heap.size p1.heap.size := r6p3
                  go_upto_region 10 with fail
                  refine name_world ?_
                  intro wy hwy
                  have By : Below wq.heap.size wq wy := by rw [hwy]; exact by_set3 bp3 (by omega) _ _ _
                  have hZy : Blk wy p2.heap.size #[.int .i64 kk, .int .i64 nn, .slice A4 K.length c4] := by rw [hwy]; exact ((hZp3.set_ 0 _).set_ 1 _).set_ 2 _
                  have rKy : OwF wy A4 K fp4 wq.drew.heap.size p1.heap.size := by rw [hwy]; exact rz.set3 (by omega) _ _ _
                  have syw : p3.heap.size ≤ wy.heap.size := by rw [hwy]; simp
                  clear hwy a0 a1 a2 i0 i1 i2
                  have hFy := hFq.below By
                  have rly := rl.below By
                  have rry := rr.below By
                  have sy := By.size
                  have g0 := rule_of (hfq.keep By).two.1
                  have g1 := rule_of (hfq.keep By).two.2
                  have t0 := rule_of hZy.three.1
                  have t1 := rule_of hZy.three.2.1
                  have t2 := rule_of hZy.three.2.2
                  refine wp_region_firstY (fun w' => Below wy.heap.size wy w') [0, 1, 2, 3, 4, 6, 7, 8, 9] [5, 10] [11, 12, 13, 14] [_, _, _, _, _, _, _, _, _] [_, _] [_, _, _, _] (by kernel_rfl) (by kernel_rfl) rfl rfl rfl (fun _ _ d _ _ h => by cases d <;> exact h) (Below.refl _ _).drew ?_
                  repeat (first | ((refine takeY_skip (a' := ?_) ?_ ?_ ?_); (rotate_left); (· (simp [Region.wanted, yielded]; done)); (· (simp only [List.getElem_toArray, List.getElem_cons_zero, List.getElem_cons_succ, Act.put, List.setIfInBounds_toArray, List.set_cons_zero, List.set_cons_succ]; exact rfl))) | ((refine takeY_step (v := ?_) (a' := ?_) ?_ ?_ ?_ ?_); (rotate_left 2); (· (simp [Region.wanted, yielded]; done)); (· (intro w' hS'; go_simp; try (with_reducible rfl))); (· (simp only [List.getElem_toArray, List.getElem_cons_zero, List.getElem_cons_succ, Act.put, List.setIfInBounds_toArray, List.set_cons_zero, List.set_cons_succ]; exact rfl))))
                  refine takeY_nil (then_cons ?_)
                  clear g0 g1 t0 t1 t2
                  go_wp2_with (go_at_call 29; refine (ownAll_any l L1 cl _ (by omega) (rly.below (by_drew (by_refl wy)))).mono ?_; rintro e wm ⟨Lo, clo, rfl, hfl, hxm⟩; obtain ⟨fpl, rlm⟩ := Fresh.owf hfl; have bm : Below wy.heap.size wy wm := (by_drew (by_refl wy)).trans (hxm.mono (Nat.le_refl _)))
                  refine mid_intro bm ?_
                  refine then_cons ?_
                  go_wp2_with (go_at_call 29; rw [show l.length = r.length from hrl.out]; refine (ownAll_any r L2 cr _ (by omega) (rry.below bm)).mono ?_; rintro e wn ⟨Ro, cro, rfl, hfr, hxn⟩; obtain ⟨fpr, rrn⟩ := Fresh.owf hfr; have rln := rlm.keep hxn; have bn : Below wy.heap.size wy wn := bm.trans (hxn.mono bm.size))
                  refine mid_intro bn ?_
                  refine then_nil ?_
                  have hFn := hFy.below bn
                  have rKn := rKy.keep bn
                  have smn := bm.size
                  obtain ⟨d0, d1, d2⟩ := hFn.h2.three
                  have e0 := hFn.h2.frozen 0
                  have e1 := hFn.h2.frozen 1
                  have e2 := hFn.h2.frozen 2
                  go_wp2_with fail
                  refine bodyPost_ret (v := .tuple #[.agg #[.int .i64 kk, .int .i64 nn, .slice A4 K.length c4], .slice Lo l.length clo, .slice Ro l.length cro, .bool true]) ?_ rfl ?_
                  · simp [results, Try.results8, go_sem, d0, d1, d2, show r.length = l.length from hrl.out.symm]
                  · rw [hz'.out]
                    refine ⟨A4, c4, Lo, clo, Ro, cro, _, _, _, _, _, _, _, _, _, rfl, by show K.length ≤ _; omega, hrl.out.symm, rKn.set3 (by omega) _ _ _, rln.set3 (.inl (by show w.heap.size + 1 + 1 < wy.heap.size; omega)) _ _ _, rrn.set3 (.inl (by omega)) _ _ _, ⟨by have : wq.drew.heap.size = wq.heap.size := rfl; omega, by show w.heap.size ≤ wy.heap.size; omega, by omega, by show _ ≤ wy.heap.size; omega, by omega, by omega⟩, by_set3 hFn.hb (by omega) _ _ _⟩
              · go_wp2_with fail
                refine name_midw ?_
                intro p4 hn
                have bp4 : Below wq.heap.size wq p4 := by rw [hn]; exact bp1.alloc bp1.size _
                have hZp4 : Blk p4 p1.heap.size #[.int .i64 0, .int .i64 0, .slice none 0 0] := by rw [hn]; exact Blk.new_ _ 28 _ rfl
                have szp4 := bp1.size
                have zlp4 := hZp4.lt
                have r6p4 := r4p1.alloc (.cells #[.int .i64 0, .int .i64 0, .slice none 0 0] 28)
                rw [← hn] at r6p4
                clear hn
                refine mid_intro bp4 ?_
                refine gC_one (i := 7) (by kernel_rfl) rfl ?_
                · go_wp2_with (go_at_call 27; refine (valid_yes kk nn K A4 c4 _ (by omega) r6p4.rd hvo'.out).mono ?_; rintro e p5 ⟨rfl, hx5⟩; have r5p5 := r6p4.keep hx5; have q5p5 := hx5.size; have bp5 := bp4.trans (hx5.mono bp4.size))
                  refine mid_intro bp5 ?_
                  have hZp5 := hZp4.keep hx5
                  refine gC_takeT [8, 9, 10] (f := 2) (l' := #[true, true, true, true, true, true, true, true, true, true, true, true, false, false]) (lT := [_, _, _]) rfl (by kernel_rfl) (by kernel_rfl) (by kernel_rfl) rfl (fun _ _ d _ _ h => by cases d <;> exact h) ?_
                  repeat (first | ((refine takeY_skip (a' := ?_) ?_ ?_ ?_); (rotate_left); (· (simp [Region.wanted, yielded]; done)); (· (simp only [List.getElem_toArray, List.getElem_cons_zero, List.getElem_cons_succ, Act.put, List.setIfInBounds_toArray, List.set_cons_zero, List.set_cons_succ]; exact rfl))) | ((refine takeY_step (v := ?_) (a' := ?_) ?_ ?_ ?_ ?_); (rotate_left 2); (· (simp [Region.wanted, yielded]; done)); (· (intro w' hS'; go_simp; try (with_reducible rfl))); (· (simp only [List.getElem_toArray, List.getElem_cons_zero, List.getElem_cons_succ, Act.put, List.setIfInBounds_toArray, List.set_cons_zero, List.set_cons_succ]; exact rfl))))
                  refine takeY_nil ?_
                  refine gC_end [12, 13] (lB := [_, _]) (by simp) (by kernel_rfl) (by kernel_rfl) rfl ?_
                  have hFz := hFq.below bp5
                  have lz := hZp5.lt
                  have sF := hFq.size
                  obtain ⟨a0, a1, a2⟩ := hZp5.three
                  have i0 := hZp5.frozen 0
                  have i1 := hZp5.frozen 1
                  have i2 := hZp5.frozen 2
                  have hzW : w.heap.size + 1 + 1 < p1.heap.size := by omega
                  have hzW' : w.heap.size + 1 + 1 ≠ p1.heap.size := by omega
                  have rz : OwF p5 A4 K fp4 wq.drew.heap.size p1.heap.size := r5p5
                  go_upto_region 10 with fail
                  refine name_world ?_
                  intro wy hwy
                  have By : Below wq.heap.size wq wy := by rw [hwy]; exact by_set3 bp5 (by omega) _ _ _
                  have hZy : Blk wy p1.heap.size #[.int .i64 kk, .int .i64 nn, .slice A4 K.length c4] := by rw [hwy]; exact ((hZp5.set_ 0 _).set_ 1 _).set_ 2 _
                  have rKy : OwF wy A4 K fp4 wq.drew.heap.size p1.heap.size := by rw [hwy]; exact rz.set3 (by omega) _ _ _
                  have syw : p5.heap.size ≤ wy.heap.size := by rw [hwy]; simp
                  clear hwy a0 a1 a2 i0 i1 i2
                  have hFy := hFq.below By
                  have rly := rl.below By
                  have rry := rr.below By
                  have sy := By.size
                  have g0 := rule_of (hfq.keep By).two.1
                  have g1 := rule_of (hfq.keep By).two.2
                  have t0 := rule_of hZy.three.1
                  have t1 := rule_of hZy.three.2.1
                  have t2 := rule_of hZy.three.2.2
                  refine wp_region_firstY (fun w' => Below wy.heap.size wy w') [0, 1, 2, 3, 4, 6, 7, 8, 9] [5, 10] [11, 12, 13, 14] [_, _, _, _, _, _, _, _, _] [_, _] [_, _, _, _] (by kernel_rfl) (by kernel_rfl) rfl rfl rfl (fun _ _ d _ _ h => by cases d <;> exact h) (Below.refl _ _).drew ?_
                  repeat (first | ((refine takeY_skip (a' := ?_) ?_ ?_ ?_); (rotate_left); (· (simp [Region.wanted, yielded]; done)); (· (simp only [List.getElem_toArray, List.getElem_cons_zero, List.getElem_cons_succ, Act.put, List.setIfInBounds_toArray, List.set_cons_zero, List.set_cons_succ]; exact rfl))) | ((refine takeY_step (v := ?_) (a' := ?_) ?_ ?_ ?_ ?_); (rotate_left 2); (· (simp [Region.wanted, yielded]; done)); (· (intro w' hS'; go_simp; try (with_reducible rfl))); (· (simp only [List.getElem_toArray, List.getElem_cons_zero, List.getElem_cons_succ, Act.put, List.setIfInBounds_toArray, List.set_cons_zero, List.set_cons_succ]; exact rfl))))
                  refine takeY_nil (then_cons ?_)
                  clear g0 g1 t0 t1 t2
                  go_wp2_with (go_at_call 29; refine (ownAll_any l L1 cl _ (by omega) (rly.below (by_drew (by_refl wy)))).mono ?_; rintro e wm ⟨Lo, clo, rfl, hfl, hxm⟩; obtain ⟨fpl, rlm⟩ := Fresh.owf hfl; have bm : Below wy.heap.size wy wm := (by_drew (by_refl wy)).trans (hxm.mono (Nat.le_refl _)))
                  refine mid_intro bm ?_
                  refine then_cons ?_
                  go_wp2_with (go_at_call 29; rw [show l.length = r.length from hrl.out]; refine (ownAll_any r L2 cr _ (by omega) (rry.below bm)).mono ?_; rintro e wn ⟨Ro, cro, rfl, hfr, hxn⟩; obtain ⟨fpr, rrn⟩ := Fresh.owf hfr; have rln := rlm.keep hxn; have bn : Below wy.heap.size wy wn := bm.trans (hxn.mono bm.size))
                  refine mid_intro bn ?_
                  refine then_nil ?_
                  have hFn := hFy.below bn
                  have rKn := rKy.keep bn
                  have smn := bm.size
                  obtain ⟨d0, d1, d2⟩ := hFn.h2.three
                  have e0 := hFn.h2.frozen 0
                  have e1 := hFn.h2.frozen 1
                  have e2 := hFn.h2.frozen 2
                  go_wp2_with fail
                  refine bodyPost_ret (v := .tuple #[.agg #[.int .i64 kk, .int .i64 nn, .slice A4 K.length c4], .slice Lo l.length clo, .slice Ro l.length cro, .bool true]) ?_ rfl ?_
                  · simp [results, Try.results8, go_sem, d0, d1, d2, show r.length = l.length from hrl.out.symm]
                  · rw [hz'.out]
                    refine ⟨A4, c4, Lo, clo, Ro, cro, _, _, _, _, _, _, _, _, _, rfl, by show K.length ≤ _; omega, hrl.out.symm, rKn.set3 (by omega) _ _ _, rln.set3 (.inl (by show w.heap.size + 1 + 1 < wy.heap.size; omega)) _ _ _, rrn.set3 (.inl (by omega)) _ _ _, ⟨by have : wq.drew.heap.size = wq.heap.size := rfl; omega, by show w.heap.size ≤ wy.heap.size; omega, by omega, by show _ ≤ wy.heap.size; omega, by omega, by omega⟩, by_set3 hFn.hb (by omega) _ _ _⟩
            · go_wp2_with fail
              refine name_midw ?_
              intro p6 hn
              have bp6 : Below wq.heap.size wq p6 := by rw [hn]; exact (by_drew (by_refl wq)).alloc (by_drew (by_refl wq)).size _
              have hZp6 : Blk p6 wq.heap.size #[.int .i64 0, .int .i64 0, .slice none 0 0] := by rw [hn]; exact Blk.new_ _ 28 _ rfl
              have szp6 := (by_drew (by_refl wq)).size
              have zlp6 := hZp6.lt
              clear hn
              refine mid_intro bp6 ?_
              refine gC_one (i := 6) (by kernel_rfl) rfl ?_
              · go_wp2_with (go_at_call 28; refine (iNumber_any (l.length : Int) (by omega) _ ko no kso Ao co 0 _ (Nat.lt_succ_self _) hnb.out (Int.le_refl 0) (by omega) (rk.below bp6)).mono ?_; rw [hnk'.out]; rintro e p7 ⟨A4, c4, rfl, hl4, hfr4, hx4⟩; obtain ⟨fp4, r4p7⟩ := Fresh.owf hfr4; have bp7 := bp6.trans (hx4.mono bp6.size); have s4 := bp6.size; have q4p7 := hx4.size)
                refine mid_intro bp7 ?_
                have hZp7 := hZp6.keep hx4
                refine gC_one (i := 7) (by kernel_rfl) rfl ?_
                · go_wp2_with (go_at_call 27; refine (valid_yes kk nn K A4 c4 _ (by omega) r4p7.rd hvo'.out).mono ?_; rintro e p8 ⟨rfl, hx5⟩; have r5p8 := r4p7.keep hx5; have q5p8 := hx5.size; have bp8 := bp7.trans (hx5.mono bp7.size))
                  refine mid_intro bp8 ?_
                  have hZp8 := hZp7.keep hx5
                  refine gC_takeT [8, 9, 10] (f := 2) (l' := #[true, true, true, true, true, true, true, true, true, true, true, true, false, false]) (lT := [_, _, _]) rfl (by kernel_rfl) (by kernel_rfl) (by kernel_rfl) rfl (fun _ _ d _ _ h => by cases d <;> exact h) ?_
                  repeat (first | ((refine takeY_skip (a' := ?_) ?_ ?_ ?_); (rotate_left); (· (simp [Region.wanted, yielded]; done)); (· (simp only [List.getElem_toArray, List.getElem_cons_zero, List.getElem_cons_succ, Act.put, List.setIfInBounds_toArray, List.set_cons_zero, List.set_cons_succ]; exact rfl))) | ((refine takeY_step (v := ?_) (a' := ?_) ?_ ?_ ?_ ?_); (rotate_left 2); (· (simp [Region.wanted, yielded]; done)); (· (intro w' hS'; go_simp; try (with_reducible rfl))); (· (simp only [List.getElem_toArray, List.getElem_cons_zero, List.getElem_cons_succ, Act.put, List.setIfInBounds_toArray, List.set_cons_zero, List.set_cons_succ]; exact rfl))))
                  refine takeY_nil ?_
                  refine gC_end [12, 13] (lB := [_, _]) (by simp) (by kernel_rfl) (by kernel_rfl) rfl ?_
                  have hFz := hFq.below bp8
                  have lz := hZp8.lt
                  have sF := hFq.size
                  obtain ⟨a0, a1, a2⟩ := hZp8.three
                  have i0 := hZp8.frozen 0
                  have i1 := hZp8.frozen 1
                  have i2 := hZp8.frozen 2
                  have hzW : w.heap.size + 1 + 1 < wq.heap.size := by omega
                  have hzW' : w.heap.size + 1 + 1 ≠ wq.heap.size := by omega
                  have rz : OwF p8 A4 K fp4 p6.heap.size p7.heap.size := r5p8
                  go_upto_region 10 with fail
                  refine name_world ?_
                  intro wy hwy
                  have By : Below wq.heap.size wq wy := by rw [hwy]; exact by_set3 bp8 (by omega) _ _ _
                  have hZy : Blk wy wq.heap.size #[.int .i64 kk, .int .i64 nn, .slice A4 K.length c4] := by rw [hwy]; exact ((hZp8.set_ 0 _).set_ 1 _).set_ 2 _
                  have rKy : OwF wy A4 K fp4 p6.heap.size p7.heap.size := by rw [hwy]; exact rz.set3 (by omega) _ _ _
                  have syw : p8.heap.size ≤ wy.heap.size := by rw [hwy]; simp
                  clear hwy a0 a1 a2 i0 i1 i2
                  have hFy := hFq.below By
                  have rly := rl.below By
                  have rry := rr.below By
                  have sy := By.size
                  have g0 := rule_of (hfq.keep By).two.1
                  have g1 := rule_of (hfq.keep By).two.2
                  have t0 := rule_of hZy.three.1
                  have t1 := rule_of hZy.three.2.1
                  have t2 := rule_of hZy.three.2.2
                  refine wp_region_firstY (fun w' => Below wy.heap.size wy w') [0, 1, 2, 3, 4, 6, 7, 8, 9] [5, 10] [11, 12, 13, 14] [_, _, _, _, _, _, _, _, _] [_, _] [_, _, _, _] (by kernel_rfl) (by kernel_rfl) rfl rfl rfl (fun _ _ d _ _ h => by cases d <;> exact h) (Below.refl _ _).drew ?_
                  repeat (first | ((refine takeY_skip (a' := ?_) ?_ ?_ ?_); (rotate_left); (· (simp [Region.wanted, yielded]; done)); (· (simp only [List.getElem_toArray, List.getElem_cons_zero, List.getElem_cons_succ, Act.put, List.setIfInBounds_toArray, List.set_cons_zero, List.set_cons_succ]; exact rfl))) | ((refine takeY_step (v := ?_) (a' := ?_) ?_ ?_ ?_ ?_); (rotate_left 2); (· (simp [Region.wanted, yielded]; done)); (· (intro w' hS'; go_simp; try (with_reducible rfl))); (· (simp only [List.getElem_toArray, List.getElem_cons_zero, List.getElem_cons_succ, Act.put, List.setIfInBounds_toArray, List.set_cons_zero, List.set_cons_succ]; exact rfl))))
                  refine takeY_nil (then_cons ?_)
                  clear g0 g1 t0 t1 t2
                  go_wp2_with (go_at_call 29; refine (ownAll_any l L1 cl _ (by omega) (rly.below (by_drew (by_refl wy)))).mono ?_; rintro e wm ⟨Lo, clo, rfl, hfl, hxm⟩; obtain ⟨fpl, rlm⟩ := Fresh.owf hfl; have bm : Below wy.heap.size wy wm := (by_drew (by_refl wy)).trans (hxm.mono (Nat.le_refl _)))
                  refine mid_intro bm ?_
                  refine then_cons ?_
                  go_wp2_with (go_at_call 29; rw [show l.length = r.length from hrl.out]; refine (ownAll_any r L2 cr _ (by omega) (rry.below bm)).mono ?_; rintro e wn ⟨Ro, cro, rfl, hfr, hxn⟩; obtain ⟨fpr, rrn⟩ := Fresh.owf hfr; have rln := rlm.keep hxn; have bn : Below wy.heap.size wy wn := bm.trans (hxn.mono bm.size))
                  refine mid_intro bn ?_
                  refine then_nil ?_
                  have hFn := hFy.below bn
                  have rKn := rKy.keep bn
                  have smn := bm.size
                  obtain ⟨d0, d1, d2⟩ := hFn.h2.three
                  have e0 := hFn.h2.frozen 0
                  have e1 := hFn.h2.frozen 1
                  have e2 := hFn.h2.frozen 2
                  go_wp2_with fail
                  refine bodyPost_ret (v := .tuple #[.agg #[.int .i64 kk, .int .i64 nn, .slice A4 K.length c4], .slice Lo l.length clo, .slice Ro l.length cro, .bool true]) ?_ rfl ?_
                  · simp [results, Try.results8, go_sem, d0, d1, d2, show r.length = l.length from hrl.out.symm]
                  · rw [hz'.out]
                    refine ⟨A4, c4, Lo, clo, Ro, cro, _, _, _, _, _, _, _, _, _, rfl, by show K.length ≤ _; omega, hrl.out.symm, rKn.set3 (by omega) _ _ _, rln.set3 (.inl (by show w.heap.size + 1 + 1 < wy.heap.size; omega)) _ _ _, rrn.set3 (.inl (by omega)) _ _ _, ⟨by have : wq.drew.heap.size = wq.heap.size := rfl; omega, by show w.heap.size ≤ wy.heap.size; omega, by omega, by show _ ≤ wy.heap.size; omega, by omega, by omega⟩, by_set3 hFn.hb (by omega) _ _ _⟩
end Go.Proofs.Ytgmljpmnfncceaa

namespace Go.Proofs.Ytgmljpmnfncceaa
open Go.RowKit
set_option linter.unusedSimpArgs false
set_option linter.unusedVariables false

mutual
/-- the program's holes as the reference's -/
def cv : Tm → Tm | .mk k n ks => if k = -1 then .mk 1 (100 + n) [] else .mk k n (cvL ks)
def cvL : List Tm → List Tm | [] => [] | t :: ts => cv t :: cvL ts
end
mutual
/-- variables have small numbers and no operands; other nodes are no holes, or holes without operands -/
def vok : Tm → Prop | .mk k n ks => (k = 1 → n < 100 ∧ ks = []) ∧ (k = -1 → 0 ≤ n ∧ ks = []) ∧ voks ks
def voks : List Tm → Prop | [] => True | t :: ts => vok t ∧ voks ts
end
theorem holeOf_cv {d : Int} {t u : Tm} {st : Prs} : holeOf holeS d t u st = (holeOf holeI d t u st).map (fun r => (cv r.1, r.2)) := by
  unfold holeOf
  cases shiftI (-d) 0 t with
  | none => rfl
  | some x =>
    cases shiftI (-d) 0 u with
    | none => rfl
    | some y =>
      simp only
      cases idx2 x y st.1 st.2 with
      | some i => simp [cv, holeS, holeI]
      | none => simp [cv, holeS, holeI]
theorem holeOf_vok {d : Int} {t u : Tm} {st : Prs} {o : Tm} {st' : Prs} (h : holeOf holeI d t u st = some (o, st')) : vok o := by
  unfold holeOf at h
  cases h1 : shiftI (-d) 0 t with
  | none => rw [h1] at h; cases h
  | some x =>
    cases h2 : shiftI (-d) 0 u with
    | none => rw [h1, h2] at h; cases h
    | some y =>
      rw [h1, h2] at h
      simp only at h
      cases hi : idx2 x y st.1 st.2 with
      | some i => rw [hi] at h; cases h; simp [vok, voks, holeI]
      | none => rw [hi] at h; cases h; simp [vok, voks, holeI]
theorem arity_neg : arity (-1) ≠ 0 ∨ True := .inr trivial
theorem cm_cv2 : (∀ t, ∀ (q : Nat) (d : Int) (u : Tm) (st : Prs), shape q t = true → cm holeS d t u st = (cm holeI d t u st).map (fun r => (cv r.1, r.2)) ∧ ∀ o st', cm holeI d t u st = some (o, st') → vok o) ∧
    (∀ ts, ∀ (q : Nat) (k d : Int) (i : Nat) (us : List Tm) (st : Prs), (∀ t, t ∈ ts → shape q t = true) → cmL holeS k d i ts us st = (cmL holeI k d i ts us st).map (fun r => (cvL r.1, r.2)) ∧ ∀ os st', cmL holeI k d i ts us st = some (os, st') → voks os ∧ (ts = [] → os = [])) := by
  refine Tm.ind2 ?_ ?_ ?_
  · intro k n ks ih q d u st hs
    obtain ⟨q, rfl, ha, hn0, hn1, hk⟩ := shape_pos hs
    have hk1 : k ≠ -1 := by
      rintro rfl
      have : arity (-1) = -1 := by decide
      omega
    rw [cm, cm]
    split
    · have i1 := (ih q k d 0 u.kids st hk).1
      have i2 := (ih q k d 0 u.kids st hk).2
      rw [i1]
      cases hc : cmL holeI k d 0 ks u.kids st with
      | none => exact ⟨holeOf_cv, fun o st' h => holeOf_vok h⟩
      | some r =>
        obtain ⟨os, s⟩ := r
        refine ⟨by simp [cv, hk1], fun o st' h => ?_⟩
        cases h
        have := i2 _ _ hc
        rw [vok]
        refine ⟨fun e => ?_, fun e => absurd e hk1, this.1⟩
        subst e
        have h0 := var_nil ha
        exact ⟨by simp [mostN] at hn1; omega, this.2 h0⟩
    · exact ⟨holeOf_cv, fun o st' h => holeOf_vok h⟩
  · intro q k d i us st _
    refine ⟨?_, fun os st' h => ?_⟩
    · rw [cmL, cmL]
      · simp [cvL]
      · simp
      · simp
    · rw [cmL] at h
      · cases h; exact ⟨trivial, fun _ => rfl⟩
      · simp
  · intro t ts h1 h2 q k d i us st hs
    cases us with
    | nil =>
      refine ⟨?_, fun os st' h => ?_⟩
      · rw [cmL, cmL]
        · simp [cvL]
        · simp
        · simp
      · rw [cmL] at h
        · cases h; exact ⟨trivial, fun _ => rfl⟩
        · simp
    | cons u us =>
      obtain ⟨a1, a2⟩ := h1 q (d + under k (i : Nat)) u st (hs t (by simp))
      rw [cmL, cmL, a1]
      cases hc1 : cm holeI (d + under k (i : Nat)) t u st with
      | none => exact ⟨rfl, fun os st' h => by cases h⟩
      | some r =>
        obtain ⟨o, s⟩ := r
        obtain ⟨b1, b2⟩ := h2 q k d (i + 1) us s (fun x hx => hs x (by simp [hx]))
        simp only [Option.map_some]
        rw [b1]
        cases hc2 : cmL holeI k d (i + 1) ts us s with
        | none => exact ⟨rfl, fun os st' h => by cases h⟩
        | some r2 =>
          obtain ⟨os2, s2⟩ := r2
          refine ⟨by simp [cvL], fun os st' h => ?_⟩
          cases h
          exact ⟨by rw [voks]; exact ⟨a2 _ _ hc1, (b2 _ _ hc2).1⟩, fun h => by cases h⟩
theorem num_cv2 (h : Int) : (∀ t, ∀ d : Int, vok t → numS h d (cv t) = numI h d t) ∧ (∀ ts, ∀ (k d : Int) (i : Nat), voks ts → numSL h k d i (cvL ts) = numIL h k d i ts) := by
  refine Tm.ind2 ?_ ?_ ?_
  · intro k n ks ih d hv
    rw [vok] at hv
    obtain ⟨v1, v2, v3⟩ := hv
    rw [cv, numI]
    by_cases hk : k = -1
    · subst hk
      obtain ⟨hn, rfl⟩ := v2 rfl
      rw [if_pos rfl, if_pos rfl, numS, numSL, if_pos ⟨rfl, by omega⟩]
      congr 1
      omega
    · rw [if_neg hk, if_neg hk, numS, ih k d 0 v3]
      by_cases hk1 : k = 1
      · obtain ⟨hn, rfl⟩ := v1 hk1
        rw [if_neg (by omega)]
        by_cases hd : d ≤ n
        · rw [if_pos ⟨hk1, hd⟩, if_pos ⟨hk1, hd⟩, numIL, hk1]
        · rw [if_neg (fun e => hd e.2), if_neg (fun e => hd e.2)]
      · rw [if_neg (fun e => hk1 e.1), if_neg (fun e => hk1 e.1), if_neg (fun e => hk1 e.1)]
  · intro k d i _; rw [cvL, numSL, numIL]
  · intro t ts h1 h2 k d i hv
    rw [voks] at hv
    rw [cvL, numSL, numIL, h1 _ hv.1, h2 _ _ _ hv.2]
end Go.Proofs.Ytgmljpmnfncceaa

namespace Go.Proofs.Ytgmljpmnfncceaa
open Go.RowKit
set_option linter.unusedSimpArgs false
set_option linter.unusedVariables false

theorem cp_eq (a b : Tm) : cpS a b = cpI a b := by
  unfold cpS cpI
  by_cases h : validT a = true ∧ validT b = true
  · rw [if_pos h, if_pos h]
    obtain ⟨h1, h2⟩ := cm_cv2.1 a 30 0 b ([], []) (validT_shape h.1)
    rw [h1]
    cases hc : cm holeI 0 a b ([], []) with
    | none => rfl
    | some r =>
      obtain ⟨o, st⟩ := r
      have hv := h2 o st hc
      simp only [Option.map_some]
      rw [(num_cv2 (st.1.length : Int)).1 o 0 hv]
  · rw [if_neg h, if_neg h]
theorem cm_self (H : Nat → Tm) : (∀ t, ∀ (d : Int) (st : Prs), cm H d t t st = some (t, st)) ∧ (∀ ts, ∀ (k d : Int) (i : Nat) (st : Prs), cmL H k d i ts ts st = some (ts, st)) := by
  refine Tm.ind2 ?_ ?_ ?_
  · intro k n ks ih d st
    rw [cm, if_pos ⟨rfl, rfl, rfl⟩, show (Tm.mk k n ks).kids = ks from rfl, ih]
  · intro k d i st
    rw [cmL]
    simp
  · intro t ts h1 h2 k d i st
    rw [cmL, h1]
    simp only
    rw [h2]
theorem numI_zero : (∀ t, ∀ (q : Nat) (d : Int), shape q t = true → numI 0 d t = t) ∧ (∀ ts, ∀ (q : Nat) (k d : Int) (i : Nat), (∀ t, t ∈ ts → shape q t = true) → numIL 0 k d i ts = ts) := by
  refine Tm.ind2 ?_ ?_ ?_
  · intro k n ks ih q d hs
    obtain ⟨q, rfl, ha, hn0, hn1, hk⟩ := shape_pos hs
    have hk1 : k ≠ -1 := by
      rintro rfl
      have : arity (-1) = -1 := by decide
      omega
    rw [numI, if_neg hk1, ih q k d 0 hk]
    split
    · rename_i h
      obtain ⟨rfl, -⟩ := h
      rw [var_nil ha, Int.add_zero]
    · rfl
  · intro q k d i _; rw [numIL]
  · intro t ts h1 h2 q k d i hs
    rw [numIL, h1 q _ (hs t (by simp)), h2 q k d (i + 1) (fun x hx => hs x (by simp [hx]))]
theorem cp_self (a : Tm) : cpI a a = if validT a = true then some (a, ([], [])) else none := by
  unfold cpI
  by_cases h : validT a = true
  · rw [if_pos ⟨h, h⟩, if_pos h, (cm_self holeI).1]
    simp only [List.length_nil, Int.ofNat_zero]
    have e : numI 0 0 a = a := (numI_zero).1 a 30 0 (validT_shape h)
    have e2 : numI ((0 : Nat) : Int) 0 a = a := e
    first | (rw [e, if_pos ⟨by omega, h⟩]) | (rw [e2, if_pos ⟨by omega, h⟩])
  · rw [if_neg (fun e => h e.1), if_neg h]

theorem idx2_at {x y : Tm} : ∀ {l r : List Tm} {i : Nat}, idx2 x y l r = some i → l[i]? = some x ∧ r[i]? = some y
  | [], _, i, h => by simp [idx2] at h
  | a :: l, [], i, h => by simp [idx2] at h
  | a :: l, b :: r, i, h => by
    rw [idx2] at h
    split at h
    · rename_i hh
      rw [Bool.and_eq_true] at hh
      injection h with h
      subst h
      exact ⟨by rw [tmEq_iff.1 hh.1]; rfl, by rw [tmEq_iff.1 hh.2]; rfl⟩
    · cases h2 : idx2 x y l r with
      | none => rw [h2] at h; cases h
      | some j =>
        rw [h2] at h
        simp only [Option.map_some, Option.some.injEq] at h
        subst h
        have := idx2_at h2
        simpa using this
theorem fl_hole {L : List Tm} {d : Int} {t x : Tm} {i : Nat} (hd : 0 ≤ d) (hv : validT t = true) (hx : shiftI (-d) 0 t = some x) (hi : L[i]? = some x) : flS L d (numI (L.length : Int) d (holeI i)) = t := by
  have hlt := (List.getElem?_eq_some_iff.1 hi).1
  rw [shiftI_down hd hv] at hx
  split at hx
  case isFalse => cases hx
  rename_i hk
  injection hx with hx
  rw [holeI, numI, if_pos rfl, flS, if_pos ⟨rfl, by omega⟩, if_pos (by omega)]
  have e : ((i : Int) + d - d).toNat = i := by omega
  rw [e, List.getD_eq_getElem?_getD, hi, Option.getD_some, ← hx]
  exact shS_up_down hd t 0 hk
theorem fl_var {L : List Tm} {d n : Int} : flS L d (numI (L.length : Int) d (.mk 1 n [])) = .mk 1 n [] := by
  rw [numI, if_neg (by decide)]
  by_cases h : d ≤ n
  · rw [if_pos ⟨rfl, h⟩, flS, if_pos ⟨rfl, by omega⟩, if_neg (by omega)]
    congr 1
    omega
  · rw [if_neg (fun e => h e.2), flS, if_neg (fun e => h e.2), numIL, flSL]
theorem fl_node {L : List Tm} {d k n : Int} {os ks : List Tm} (hk : k ≠ 1) (hk2 : k ≠ -1) (h : flSL L k d 0 (numIL (L.length : Int) k d 0 os) = ks) : flS L d (numI (L.length : Int) d (.mk k n os)) = .mk k n ks := by
  rw [numI, if_neg hk2, if_neg (fun e => hk e.1), flS, if_neg (fun e => hk e.1), h]
/-- the pattern, filled with either list, is the one term and the other -/
theorem cm_fill : (∀ t, ∀ (d : Int) (u : Tm) (st : Prs) (o : Tm) (st' : Prs) (L R : List Tm), validT t = true → validT u = true → 0 ≤ d → st.1.length = st.2.length → cm holeI d t u st = some (o, st') → (∃ m, L = st'.1 ++ m) → (∃ m, R = st'.2 ++ m) →
      flS L d (numI (L.length : Int) d o) = t ∧ flS R d (numI (R.length : Int) d o) = u ∧ st'.1.length = st'.2.length) ∧
    (∀ ts, ∀ (k d : Int) (i : Nat) (us : List Tm) (st : Prs) (os : List Tm) (st' : Prs) (L R : List Tm), (∀ t, t ∈ ts → validT t = true) → (∀ u, u ∈ us → validT u = true) → us.length = ts.length → 0 ≤ d → st.1.length = st.2.length → cmL holeI k d i ts us st = some (os, st') → (∃ m, L = st'.1 ++ m) → (∃ m, R = st'.2 ++ m) →
      flSL L k d i (numIL (L.length : Int) k d i os) = ts ∧ flSL R k d i (numIL (R.length : Int) k d i os) = us ∧ st'.1.length = st'.2.length) := by
  have hole : ∀ (d : Int) (t u : Tm) (st : Prs) (o : Tm) (st' : Prs) (L R : List Tm), validT t = true → validT u = true → 0 ≤ d → st.1.length = st.2.length → holeOf holeI d t u st = some (o, st') → (∃ m, L = st'.1 ++ m) → (∃ m, R = st'.2 ++ m) →
      flS L d (numI (L.length : Int) d o) = t ∧ flS R d (numI (R.length : Int) d o) = u ∧ st'.1.length = st'.2.length := by
    intro d t u st o st' L R hv hvu hd hl h hL hR
    unfold holeOf at h
    cases h1 : shiftI (-d) 0 t with
    | none => rw [h1] at h; cases h
    | some x =>
      cases h2 : shiftI (-d) 0 u with
      | none => rw [h1, h2] at h; cases h
      | some y =>
        rw [h1, h2] at h
        simp only at h
        obtain ⟨m1, rfl⟩ := hL
        obtain ⟨m2, rfl⟩ := hR
        cases hi : idx2 x y st.1 st.2 with
        | some i =>
          rw [hi] at h
          cases h
          obtain ⟨e1, e2⟩ := idx2_at hi
          have g1 := (List.getElem?_eq_some_iff.1 e1).1
          have g2 := (List.getElem?_eq_some_iff.1 e2).1
          exact ⟨fl_hole hd hv h1 (by rw [List.getElem?_append_left g1]; exact e1), fl_hole hd hvu h2 (by rw [List.getElem?_append_left g2]; exact e2), hl⟩
        | none =>
          rw [hi] at h
          cases h
          refine ⟨fl_hole hd hv h1 ?_, fl_hole hd hvu h2 ?_, by simp [hl]⟩
          · simp
          · rw [hl]; simp
  refine Tm.ind2 ?_ ?_ ?_
  · intro k n ks ih d u st o st' L R hv hvu hd hl h hL hR
    rw [cm] at h
    split at h
    case isFalse => exact hole _ _ _ _ _ _ _ _ hv hvu hd hl h hL hR
    rename_i hh
    obtain ⟨ku, nu, us⟩ := u
    obtain ⟨e1, e2, e3⟩ := hh
    have e1 : ku = k := e1
    have e2 : nu = n := e2
    have e3 : us.length = ks.length := e3
    subst e1 e2
    cases hc : cmL holeI ku d 0 ks us st with
    | none => rw [show (Tm.mk ku nu us).kids = us from rfl, hc] at h; exact hole _ _ _ _ _ _ _ _ hv hvu hd hl h hL hR
    | some r =>
      obtain ⟨os, s⟩ := r
      rw [show (Tm.mk ku nu us).kids = us from rfl, hc] at h
      cases h
      obtain ⟨f1, f2, f3⟩ := ih ku d 0 us st os _ L R (fun t ht => validT_kid hv ht) (fun u hu => validT_kid hvu hu) e3 hd hl hc hL hR
      obtain ⟨q, hq, ha, hn0, hn1, hk⟩ := shape_pos (validT_shape hv)
      have hk1 : ku ≠ -1 := by
        rintro rfl
        have : arity (-1) = -1 := by decide
        omega
      by_cases h1 : ku = 1
      · subst h1
        have hks := var_nil ha
        subst hks
        have hus : us = [] := List.eq_nil_of_length_eq_zero e3
        subst hus
        have hos : os = [] := List.eq_nil_of_length_eq_zero (cmL_length holeI 1 d [] [] 0 st os _ rfl hc)
        subst hos
        exact ⟨fl_var, fl_var, f3⟩
      · exact ⟨fl_node h1 hk1 f1, fl_node h1 hk1 f2, f3⟩
  · intro k d i us st os st' L R _ _ hul hd hl h _ _
    have : us = [] := List.eq_nil_of_length_eq_zero hul
    subst this
    rw [cmL] at h
    · cases h; simp [numIL, flSL, hl]
    · simp
  · intro t ts h1 h2 k d i us st os st' L R hvt hvu hul hd hl h hL hR
    cases us with
    | nil => simp at hul
    | cons u us =>
      rw [cmL] at h
      cases hc1 : cm holeI (d + under k (i : Nat)) t u st with
      | none => rw [hc1] at h; cases h
      | some r =>
        obtain ⟨o, s⟩ := r
        rw [hc1] at h
        simp only at h
        cases hc2 : cmL holeI k d (i + 1) ts us s with
        | none => rw [hc2] at h; cases h
        | some r2 =>
          obtain ⟨os2, s2⟩ := r2
          rw [hc2] at h
          cases h
          obtain ⟨b1, b2, x1, x2⟩ := (cm_ext2 holeI).2 _ _ _ _ _ _ _ _ hc2
          obtain ⟨mL, hmL⟩ := hL
          obtain ⟨mR, hmR⟩ := hR
          have hun := under_le k i
          obtain ⟨f1, f2, f3⟩ := h1 _ u st o s L R (hvt t (by simp)) (hvu u (by simp)) (by omega) hl hc1 ⟨b1 ++ mL, by rw [hmL, x1, List.append_assoc]⟩ ⟨b2 ++ mR, by rw [hmR, x2, List.append_assoc]⟩
          obtain ⟨g1, g2, g3⟩ := h2 k d (i + 1) us s os2 _ L R (fun x hx => hvt x (by simp [hx])) (fun x hx => hvu x (by simp [hx])) (by simpa using hul) hd f3 hc2 ⟨mL, hmL⟩ ⟨mR, hmR⟩
          exact ⟨by rw [numIL, flSL, f1, g1], by rw [numIL, flSL, f2, g2], g3⟩
def PrsV (st : Prs) : Prop := (∀ x, x ∈ st.1 → validT x = true) ∧ (∀ x, x ∈ st.2 → validT x = true)
theorem shiftI_valid {b c : Int} {t x : Tm} (h : shiftI b c t = some x) : validT x = true := by
  unfold shiftI at h
  split at h
  · split at h
    · rename_i hv; injection h with h; subst h; exact hv
    · cases h
  · cases h
theorem holeOf_valid {H : Nat → Tm} {d : Int} {t u : Tm} {st : Prs} {o : Tm} {st' : Prs} (hst : PrsV st) (h : holeOf H d t u st = some (o, st')) : PrsV st' := by
  unfold holeOf at h
  cases h1 : shiftI (-d) 0 t with
  | none => rw [h1] at h; cases h
  | some x =>
    cases h2 : shiftI (-d) 0 u with
    | none => rw [h1, h2] at h; cases h
    | some y =>
      rw [h1, h2] at h
      simp only at h
      cases hi : idx2 x y st.1 st.2 with
      | some i => rw [hi] at h; cases h; exact hst
      | none =>
        rw [hi] at h
        cases h
        refine ⟨fun z hz => ?_, fun z hz => ?_⟩
        · rcases List.mem_append.1 hz with hz | hz
          · exact hst.1 z hz
          · rw [List.mem_singleton] at hz; subst hz; exact shiftI_valid h1
        · rcases List.mem_append.1 hz with hz | hz
          · exact hst.2 z hz
          · rw [List.mem_singleton] at hz; subst hz; exact shiftI_valid h2
theorem cm_valid (H : Nat → Tm) : (∀ t, ∀ (d : Int) (u : Tm) (st : Prs) (o : Tm) (st' : Prs), PrsV st → cm H d t u st = some (o, st') → PrsV st') ∧
    (∀ ts, ∀ (k d : Int) (i : Nat) (us : List Tm) (st : Prs) (os : List Tm) (st' : Prs), PrsV st → cmL H k d i ts us st = some (os, st') → PrsV st') := by
  refine Tm.ind2 ?_ ?_ ?_
  · intro k n ks ih d u st o st' hst h
    rw [cm] at h
    split at h
    · cases hc : cmL H k d 0 ks u.kids st with
      | none => rw [hc] at h; exact holeOf_valid hst h
      | some r => obtain ⟨os, s⟩ := r; rw [hc] at h; cases h; exact ih _ _ _ _ _ _ _ hst hc
    · exact holeOf_valid hst h
  · intro k d i us st os st' hst h
    rw [cmL] at h
    · cases h; exact hst
    · simp
  · intro t ts h1 h2 k d i us st os st' hst h
    cases us with
    | nil => rw [cmL] at h; cases h; exact hst; simp
    | cons u us =>
      rw [cmL] at h
      cases hc1 : cm H (d + under k (i : Nat)) t u st with
      | none => rw [hc1] at h; cases h
      | some r =>
        obtain ⟨o, s⟩ := r
        rw [hc1] at h
        simp only at h
        cases hc2 : cmL H k d (i + 1) ts us s with
        | none => rw [hc2] at h; cases h
        | some r2 =>
          obtain ⟨os2, s2⟩ := r2
          rw [hc2] at h
          cases h
          exact h2 _ _ _ _ _ _ _ (h1 _ _ _ _ _ hst hc1) hc2
theorem any_false {args : List Tm} (h : ∀ x, x ∈ args → validT x = true) : (args.any fun a => !validT a) = false := by
  rw [Bool.eq_false_iff]
  intro e
  obtain ⟨x, hx, h2⟩ := List.any_eq_true.1 e
  rw [h x hx] at h2
  cases h2
theorem cp_fill {a b t : Tm} {st : Prs} (h : cpI a b = some (t, st)) : validT t = true ∧ validT a = true ∧ validT b = true ∧ st.1.length ≤ 6 ∧ st.1.length = st.2.length ∧ PrsV st ∧ fillTI t st.1 = some a ∧ fillTI t st.2 = some b := by
  unfold cpI at h
  split at h
  case isFalse => cases h
  rename_i hv
  cases hc : cm holeI 0 a b ([], []) with
  | none => rw [hc] at h; cases h
  | some r =>
    obtain ⟨o, s⟩ := r
    rw [hc] at h
    simp only at h
    split at h
    case isFalse => cases h
    rename_i h6
    injection h with h
    injection h with h1 h2
    subst h1 h2
    have hval := (cm_valid holeI).1 _ _ _ _ _ _ ⟨fun x hx => (by cases hx), fun x hx => (by cases hx)⟩ hc
    obtain ⟨f1, f2, f3⟩ := cm_fill.1 a 0 b ([], []) o s s.1 s.2 hv.1 hv.2 (Int.le_refl 0) rfl hc ⟨[], by simp⟩ ⟨[], by simp⟩
    rw [← f3] at f2
    refine ⟨h6.2, hv.1, hv.2, h6.1, f3, hval, ?_, ?_⟩
    · rw [← fill_same, fillTS, if_pos ⟨h6.2, h6.1, any_false hval.1, by rw [f1]; exact hv.1⟩, f1]
    · rw [← fill_same, fillTS, if_pos ⟨h6.2, by omega, any_false hval.2, by rw [f2]; exact hv.2⟩, f2]
end Go.Proofs.Ytgmljpmnfncceaa
