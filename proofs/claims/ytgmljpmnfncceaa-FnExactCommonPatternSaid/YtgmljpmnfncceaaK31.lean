/-
  Texts that are common to the laws: FCmnN, FCmn. No condition.
-/
import Derived.Test.YtgmljpmnfncceaaK29
import Derived.Test.YtgmljpmnfncceaaK30

namespace Go.Proofs.Ytgmljpmnfncceaa
open Go.RowKit
set_option linter.unusedSimpArgs false
set_option linter.unusedVariables false

set_option maxHeartbeats 8000000 in
set_option maxRecDepth 100000 in
theorem iCommon_neg (B : Nat) (E : Nat → Prop) (gf : Nat) (v1 v2 : Value) (k n : Int) (ks : List Tm) (A : Option Addr) (c : Nat) (ku nu : Int) (us : List Tm) (U : Option Addr) (cu : Nat) (d : Int) (l r : List Tm) (m : Nat) (w : World) (hgf : gf < B) (hB : B ≤ w.heap.size) (hE : ∀ b, E b → b < w.heap.size)
    (hv : validT (.mk k n ks) = true) (hvu : validT (.mk ku nu us) = true) (hd : 0 ≤ d) (hdq : d ≤ 900) (hst : PrsOk m (l, r)) (hm : m ≤ 100000) (hr : Rd w A 0 ks) (hru : Rd w U 0 us) (hf : Blk w gf #[v1, v2]) (hR : Rows2 B E w v1 v2 l r) (hne : ¬ (ku = k ∧ nu = n ∧ us.length = ks.length)) :
    Calls Try.prog 25 #[.pointer (some ⟨gf, 0, none⟩), .agg #[.int .i64 k, .int .i64 n, .slice A ks.length c], .agg #[.int .i64 ku, .int .i64 nu, .slice U us.length cu], .int .i64 d] w
      (FnGot B E gf v1 v2 w (l, r) (cm holeI d (.mk k n ks) (.mk ku nu us) (l, r))) := by
  rw [cm_neg hne]
  have facts : (k == ku) = false ∨ ((k == ku) = true ∧ (n == nu) = false) ∨ ((k == ku) = true ∧ (n == nu) = true ∧ ((ks.length : Int) == (us.length : Int)) = false) := by
    by_cases h1 : k = ku
    · by_cases h2 : n = nu
      · exact .inr (.inr ⟨by simpa using h1, by simpa using h2, by simp; intro h3; exact hne ⟨h1.symm, h2.symm, by omega⟩⟩)
      · exact .inr (.inl ⟨by simpa using h1, by simpa using h2⟩)
    · exact .inl (by simpa using h1)
  have hlen := length_le_sizes ks
  have hlenu := length_le_sizes us
  have hzk := validT_size hv
  have hzu := validT_size hvu
  rw [Tm.size] at hzk hzu
  have hv' := hide hv
  have hvu' := hide hvu
  have hst' := hide hst
  have hrl : r.length = l.length := hst.1.symm
  have hrl' := hide hrl
  have hll : l.length ≤ m := hst.2.1
  clear hne hst hv hvu hrl
  go_enter Try.func25, Try.ntmps25
  go_upto_region 1 with fail
  go_cut [35] (fun s35 wx => s35 = .bool false ∧ Fr w k n ks A c ku nu us U cu wx)
  case first =>
    have hF0 : Fr w k n ks A c ku nu us U cu (((w.alloc (.cells #[.int .i64 k, .int .i64 n, .slice A ks.length c] 28)).alloc (.cells #[.int .i64 ku, .int .i64 nu, .slice U us.length cu] 28)).alloc (.cells #[.int .i64 0, .int .i64 0, .slice none 0 0] 28)) :=
      ⟨((Blk.new_ _ 28 _ rfl).alloc _).alloc _, (Blk.new_ _ 28 _ (by simp)).alloc _, Blk.new_ _ 28 _ (by simp), by_alloc (by_alloc (by_alloc (by_refl _) _) _) _⟩
    rcases facts with f1 | ⟨f1, f2⟩ | ⟨f1, f2, f3⟩
    all_goals
      go_wp2_with fail
      go_meet
      exact ⟨rfl, hF0⟩
  case rest =>
    obtain ⟨rfl, hF⟩ := hcut
    clear facts
    go_upto_region 14 with fail
    refine name_world ?_
    intro wx hwx
    rw [← hwx] at hF
    clear hwx
    obtain ⟨x0, x1, x2⟩ := hF.h0.three
    obtain ⟨y0, y1, y2⟩ := hF.h1.three
    have hsz := hF.size
    have hgz : gf ≠ w.heap.size + 1 + 1 := by omega
    have hR1 : Rows2 B (fun b => E b ∨ (w.heap.size ≤ b ∧ b < w.heap.size + 3)) wx v1 v2 l r := (hR.mono (E' := (fun b => E b ∨ (w.heap.size ≤ b ∧ b < w.heap.size + 3))) (fun b hb h => h.elim id (fun h => by omega))).below hF.hb
    have hE1 : ∀ b, (fun b => E b ∨ (w.heap.size ≤ b ∧ b < w.heap.size + 3)) b → b < wx.heap.size := fun b h => h.elim (fun h => by have := hE b h; omega) (fun h => by omega)
    have ho1 : v1.ownBlock ≠ some (w.heap.size + 1 + 1) := fun e => hR1.e1 _ e (.inr (by omega))
    have ho2 : v2.ownBlock ≠ some (w.heap.size + 1 + 1) := fun e => hR1.e2 _ e (.inr (by omega))
    have hfx := hf.keep hF.hb
    cases hh : holeOf holeI d (.mk k n ks) (.mk ku nu us) (l, r) with
    | none =>
      have hh' := hide hh
      clear hh
      go_wp2_with (go_at_call 56; refine (iHole_any B (fun b => E b ∨ (w.heap.size ≤ b ∧ b < w.heap.size + 3)) gf v1 v2 k n ks A c ku nu us U cu d l r m _ hgf (by omega) hE1 hv'.out hvu'.out hd (by omega) hst'.out (by omega) (hr.below hF.hb) (hru.below hF.hb) hfx hR1).mono ?_; rw [hh'.out]; intro e w4 hgo; obtain ⟨v1', v2', hc4, o1, o2, hf4, rfl, hR4⟩ := fnGot_noneE hgo; have hZ4 := hc4.blk hF.h2 (Ne.symm hgz) ho1 ho2; obtain ⟨d0, d1, d2⟩ := hZ4.three; have e0 := hZ4.frozen 0; have e1 := hZ4.frozen 1; have e2 := hZ4.frozen 2)
      refine bodyPost_ret (v := .tuple #[.agg #[.int .i64 0, .int .i64 0, .slice none 0 0], .bool false]) ?_ rfl ?_
      · simp [results, Try.results25, go_sem, d0, d1, d2]
      · rw [hh'.out]
        exact FnGot.noneI ((Chg.of_below hF.hb : Chg gf v1 v2 w wx).trans (OwnTo.refl w v1) (OwnTo.refl w v2) hc4) ((OwnTo.refl w v1).trans o1 (Chg.of_below hF.hb : Chg gf v1 v2 w wx).size) ((OwnTo.refl w v2).trans o2 (Chg.of_below hF.hb : Chg gf v1 v2 w wx).size) hf4 hR4 (fun b h => .inl h) hgz (by omega) (.inr (by omega)) _ _ _
    | some res =>
      obtain ⟨⟨ko, no, kso⟩, l2, r2⟩ := res
      have hh' := hide hh
      clear hh
      go_wp2_with (go_at_call 56; refine (iHole_any B (fun b => E b ∨ (w.heap.size ≤ b ∧ b < w.heap.size + 3)) gf v1 v2 k n ks A c ku nu us U cu d l r m _ hgf (by omega) hE1 hv'.out hvu'.out hd (by omega) hst'.out (by omega) (hr.below hF.hb) (hru.below hF.hb) hfx hR1).mono ?_; rw [hh'.out]; intro e w4 hgo; obtain ⟨v1', v2', Ao, co, hc4, o1, o2, hf4, rfl, hlo, hko, hR4⟩ := fnGot_someE hgo; have hZ4 := hc4.blk hF.h2 (Ne.symm hgz) ho1 ho2; obtain ⟨d0, d1, d2⟩ := hZ4.three; have e0 := hZ4.frozen 0; have e1 := hZ4.frozen 1; have e2 := hZ4.frozen 2)
      refine bodyPost_ret (v := .tuple #[.agg #[.int .i64 ko, .int .i64 no, .slice Ao kso.length co], .bool true]) ?_ rfl ?_
      · simp [results, Try.results25, go_sem, d0, d1, d2]
      · rw [hh'.out]
        exact FnGot.someI ((Chg.of_below hF.hb : Chg gf v1 v2 w wx).trans (OwnTo.refl w v1) (OwnTo.refl w v2) hc4) ((OwnTo.refl w v1).trans o1 (Chg.of_below hF.hb : Chg gf v1 v2 w wx).size) ((OwnTo.refl w v2).trans o2 (Chg.of_below hF.hb : Chg gf v1 v2 w wx).size) hf4 hR4 hlo (hko.mono (fun b h => ⟨⟨by omega, h.2⟩, by omega⟩)) (fun b h => .inl h) hgz (by omega) (.inr (by omega)) _ _ _
end Go.Proofs.Ytgmljpmnfncceaa

namespace Go.Proofs.Ytgmljpmnfncceaa
open Go.RowKit
set_option linter.unusedSimpArgs false
set_option linter.unusedVariables false

set_option maxHeartbeats 16000000 in
set_option maxRecDepth 100000 in
theorem iCommon_any (N : Nat) : ∀ (B : Nat) (E : Nat → Prop) (gf : Nat) (v1 v2 : Value) (k n : Int) (ks : List Tm) (A : Option Addr) (c : Nat) (ku nu : Int) (us : List Tm) (U : Option Addr) (cu : Nat) (d : Int) (l r : List Tm) (m : Nat) (w : World), sizes ks < N → gf < B → B ≤ w.heap.size → (∀ b, E b → b < w.heap.size) →
    validT (.mk k n ks) = true → validT (.mk ku nu us) = true → 0 ≤ d → d + sizes ks ≤ 900 → PrsOk m (l, r) → m + sizes ks + 1 ≤ 100000 → RdP (fun b => b < gf) w A 0 ks → RdP (fun b => b < gf) w U 0 us → Blk w gf #[v1, v2] → Rows2 B E w v1 v2 l r →
    Calls Try.prog 25 #[.pointer (some ⟨gf, 0, none⟩), .agg #[.int .i64 k, .int .i64 n, .slice A ks.length c], .agg #[.int .i64 ku, .int .i64 nu, .slice U us.length cu], .int .i64 d] w
      (FnGot B E gf v1 v2 w (l, r) (cm holeI d (.mk k n ks) (.mk ku nu us) (l, r))) := by
  induction N with
  | zero => intro B E gf v1 v2 k n ks A c ku nu us U cu d l r m w hN; exact absurd hN (Nat.not_lt_zero _)
  | succ N ih =>
  intro B E gf v1 v2 k n ks A c ku nu us U cu d l r m w hN hgf hB hE hv hvu hd hdq hst hm hr hru hf hR
  by_cases hne : ku = k ∧ nu = n ∧ us.length = ks.length
  case neg => exact iCommon_neg B E gf v1 v2 k n ks A c ku nu us U cu d l r m w hgf hB hE hv hvu hd (by omega) hst (by omega) hr.rd hru.rd hf hR hne
  case pos =>
    obtain ⟨h1, h2, hul⟩ := hne
    have h1 := h1.symm
    have h2 := h2.symm
    subst h1 h2
    have hlen := length_le_sizes ks
    have hlenu := length_le_sizes us
    have hzk := validT_size hv
    have hzu := validT_size hvu
    rw [Tm.size] at hzk hzu
    have hv' := hide hv
    have hvu' := hide hvu
    have hst' := hide hst
    have hrl : r.length = l.length := hst.1.symm
    have hrl' := hide hrl
    have hll : l.length ≤ m := hst.2.1
    have hvk := hide (fun t (ht : t ∈ ks) => validT_kid hv ht)
    have hvuk := hide (fun t (ht : t ∈ us) => validT_kid hvu ht)
    have hul' := hide hul
    have f3 : ((ks.length : Int) == (us.length : Int)) = true := by rw [hul]; simp
    obtain ⟨A1, cv1, A2, cv2, hv1, hv2, -, -⟩ := hR.rd
    rw [hrl] at hv2
    subst hv1 hv2
    have hgl := hf.lt
    have hgl1 : gf < w.heap.size + 1 := by omega
    have hgl2 : gf < w.heap.size + 1 + 1 := by omega
    have hgl3 : gf < w.heap.size + 1 + 1 + 1 := by omega
    obtain ⟨f0, f1⟩ := hf.two
    clear hst hv hvu hrl hul
    go_enter Try.func25, Try.ntmps25
    go_wp2_with fail
    clear f3 f0 f1
    go_loopw [49] (fun iv wr => ∃ (j : Nat) (v1' v2' v : Value) (l1 r1 os : List Tm), j ≤ ks.length ∧ iv = .int .i64 j ∧ cmL holeI k d 0 (ks.take j) (us.take j) (l, r) = some (os, (l1, r1)) ∧ PrsOk (m + sizes (ks.take j)) (l1, r1) ∧ Com B gf E (.slice A1 l.length cv1) (.slice A2 l.length cv2) w #[.int .i64 k, .int .i64 n, .slice A ks.length c] #[.int .i64 k, .int .i64 n, .slice U us.length cu] k n (fun _ => False) v1' v2' v l1 r1 os wr)
      (fun iv _ => ks.length - (intOf iv).toNat)
    case atStart =>
      have h4 : Below w.heap.size w ((((w.alloc (.cells #[.int .i64 k, .int .i64 n, .slice A ks.length c] 28)).alloc (.cells #[.int .i64 k, .int .i64 n, .slice U us.length cu] 28)).alloc (.cells #[.int .i64 0, .int .i64 0, .slice none 0 0] 28)).alloc (.cells #[.int .i64 k, .int .i64 n, .slice none 0 0] 28)) := by_alloc (by_alloc (by_alloc (by_alloc (by_refl _) _) _) _) _
      exact ⟨0, _, _, .slice none 0 0, l, r, [], Nat.zero_le _, rfl, by simp [cmL], by simpa [sizes] using hst'.out, Com.begin hgf hB hE hf hR h4 ((((Blk.new_ _ 28 _ rfl).alloc _).alloc _).alloc _) (((Blk.new_ _ 28 _ (by simp)).alloc _).alloc _) ((Blk.new_ _ 28 _ (by simp)).alloc _) (Blk.new_ _ 28 _ (by simp))⟩
    case round =>
      obtain ⟨j, v1', v2', v, l1, r1, os, hj, rfl, hcml0, hprs0, hC⟩ := hrel
      have hcml := hide hcml0
      have hprs := hide hprs0
      have hosj : os.length = j := by have := cmL_length holeI k d _ _ 0 _ _ _ (by simp; have := hul'.out; omega) hcml0; rw [List.length_take] at this; omega
      obtain ⟨Av, cv, hvs⟩ := hC.out.shape
      subst hvs
      have hsz := hC.size
      have hrw := hr.low hC.chg hR hgf
      have hruw := hru.low hC.chg hR hgf
      have hown := hC.out.own
      clear hcml0 hprs0
      by_cases hlt : j < ks.length
      · obtain ⟨b, off, k', n', ks', A', c', rfl, hkj, hbl, hc1, hc2, hc3, hl', hr'⟩ := hrw.atp hlt
        obtain ⟨b2', off2, k2, n2, ks2, A2', c2, rfl, hkj2, hbl2, hd1, hd2, hd3, hl2, hr2⟩ := hruw.atp (j := j) (by have := hul'.out; omega)
        have hszj := sizes_takeC hlt
        have hle := sizes_take_leC ks (j + 1)
        have hv1 := hvk.out _ (List.getElem_mem hlt)
        have hv2 := hvuk.out _ (List.getElem_mem (show j < us.length by have := hul'.out; omega))
        rw [hkj] at hszj hv1
        rw [hkj2] at hv2
        simp only [Tm.size] at hszj
        have H1 := hide hv1
        have H2 := hide hv2
        have hcm0 := cmL_take holeI k d hlt hul'.out hcml.out
        rw [hkj, hkj2] at hcm0
        have Hsz := hide hszj
        clear hkj hkj2 hv1 hv2 hszj
        have hosj' := hide hosj
        have hlos : os.length ≤ 900 := by omega
        have hun := under_le k j
        have hltu : j < us.length := by have := hul'.out; omega
        have kd1 : IntKind.i64.wrap (d + under k j) = d + under k j := IntWalk.i64_in _ (by omega)
        have kd2 : wrap64 (d + under k j) = d + under k j := IntWalk.wrap64_in _ (by omega)
        have hlj : (j : Int) < (ks.length : Int) := by omega
        have hlj2 : (j : Int) < (us.length : Int) := by omega
        clear hosj
        have hS0 : (KS w.heap.size #[.int .i64 k, .int .i64 n, .slice (some ⟨b, off, none⟩) ks.length c] #[.int .i64 k, .int .i64 n, .slice (some ⟨b2', off2, none⟩) us.length cu] b (off + j * 3) (.int .i64 k') (.int .i64 n') (.slice A' ks'.length c') b2' (off2 + j * 3) (.int .i64 k2) (.int .i64 n2) (.slice A2' ks2.length c2)) wr := ⟨hC.b0, hC.b1, hc1, hc2, hc3, hd1, hd2, hd3⟩
        have s0 : ∀ w', (KS w.heap.size #[.int .i64 k, .int .i64 n, .slice (some ⟨b, off, none⟩) ks.length c] #[.int .i64 k, .int .i64 n, .slice (some ⟨b2', off2, none⟩) us.length cu] b (off + j * 3) (.int .i64 k') (.int .i64 n') (.slice A' ks'.length c') b2' (off2 + j * 3) (.int .i64 k2) (.int .i64 n2) (.slice A2' ks2.length c2)) w' → w'.cell? ⟨w.heap.size, 0, none⟩ = some (.int .i64 k) := fun w' h => h.h0.three.1
        have s1 : ∀ w', (KS w.heap.size #[.int .i64 k, .int .i64 n, .slice (some ⟨b, off, none⟩) ks.length c] #[.int .i64 k, .int .i64 n, .slice (some ⟨b2', off2, none⟩) us.length cu] b (off + j * 3) (.int .i64 k') (.int .i64 n') (.slice A' ks'.length c') b2' (off2 + j * 3) (.int .i64 k2) (.int .i64 n2) (.slice A2' ks2.length c2)) w' → w'.cell? ⟨w.heap.size, 2, none⟩ = some (.slice (some ⟨b, off, none⟩) ks.length c) := fun w' h => h.h0.three.2.2
        have s2 : ∀ w', (KS w.heap.size #[.int .i64 k, .int .i64 n, .slice (some ⟨b, off, none⟩) ks.length c] #[.int .i64 k, .int .i64 n, .slice (some ⟨b2', off2, none⟩) us.length cu] b (off + j * 3) (.int .i64 k') (.int .i64 n') (.slice A' ks'.length c') b2' (off2 + j * 3) (.int .i64 k2) (.int .i64 n2) (.slice A2' ks2.length c2)) w' → w'.cell? ⟨w.heap.size + 1, 2, none⟩ = some (.slice (some ⟨b2', off2, none⟩) us.length cu) := fun w' h => h.h1.three.2.2
        have s3 : ∀ w', (KS w.heap.size #[.int .i64 k, .int .i64 n, .slice (some ⟨b, off, none⟩) ks.length c] #[.int .i64 k, .int .i64 n, .slice (some ⟨b2', off2, none⟩) us.length cu] b (off + j * 3) (.int .i64 k') (.int .i64 n') (.slice A' ks'.length c') b2' (off2 + j * 3) (.int .i64 k2) (.int .i64 n2) (.slice A2' ks2.length c2)) w' → w'.cell? ⟨b, off + j * 3, none⟩ = some (.int .i64 k') := fun w' h => h.p0
        have s4 : ∀ w', (KS w.heap.size #[.int .i64 k, .int .i64 n, .slice (some ⟨b, off, none⟩) ks.length c] #[.int .i64 k, .int .i64 n, .slice (some ⟨b2', off2, none⟩) us.length cu] b (off + j * 3) (.int .i64 k') (.int .i64 n') (.slice A' ks'.length c') b2' (off2 + j * 3) (.int .i64 k2) (.int .i64 n2) (.slice A2' ks2.length c2)) w' → w'.cell? ⟨b, off + j * 3 + 1, none⟩ = some (.int .i64 n') := fun w' h => h.p1
        have s5 : ∀ w', (KS w.heap.size #[.int .i64 k, .int .i64 n, .slice (some ⟨b, off, none⟩) ks.length c] #[.int .i64 k, .int .i64 n, .slice (some ⟨b2', off2, none⟩) us.length cu] b (off + j * 3) (.int .i64 k') (.int .i64 n') (.slice A' ks'.length c') b2' (off2 + j * 3) (.int .i64 k2) (.int .i64 n2) (.slice A2' ks2.length c2)) w' → w'.cell? ⟨b, off + j * 3 + 2, none⟩ = some (.slice A' ks'.length c') := fun w' h => h.p2
        have s6 : ∀ w', (KS w.heap.size #[.int .i64 k, .int .i64 n, .slice (some ⟨b, off, none⟩) ks.length c] #[.int .i64 k, .int .i64 n, .slice (some ⟨b2', off2, none⟩) us.length cu] b (off + j * 3) (.int .i64 k') (.int .i64 n') (.slice A' ks'.length c') b2' (off2 + j * 3) (.int .i64 k2) (.int .i64 n2) (.slice A2' ks2.length c2)) w' → w'.cell? ⟨b2', off2 + j * 3, none⟩ = some (.int .i64 k2) := fun w' h => h.q0
        have s7 : ∀ w', (KS w.heap.size #[.int .i64 k, .int .i64 n, .slice (some ⟨b, off, none⟩) ks.length c] #[.int .i64 k, .int .i64 n, .slice (some ⟨b2', off2, none⟩) us.length cu] b (off + j * 3) (.int .i64 k') (.int .i64 n') (.slice A' ks'.length c') b2' (off2 + j * 3) (.int .i64 k2) (.int .i64 n2) (.slice A2' ks2.length c2)) w' → w'.cell? ⟨b2', off2 + j * 3 + 1, none⟩ = some (.int .i64 n2) := fun w' h => h.q1
        have s8 : ∀ w', (KS w.heap.size #[.int .i64 k, .int .i64 n, .slice (some ⟨b, off, none⟩) ks.length c] #[.int .i64 k, .int .i64 n, .slice (some ⟨b2', off2, none⟩) us.length cu] b (off + j * 3) (.int .i64 k') (.int .i64 n') (.slice A' ks'.length c') b2' (off2 + j * 3) (.int .i64 k2) (.int .i64 n2) (.slice A2' ks2.length c2)) w' → w'.cell? ⟨b2', off2 + j * 3 + 2, none⟩ = some (.slice A2' ks2.length c2) := fun w' h => h.q2
        clear hc1 hc2 hc3 hd1 hd2 hd3
        go_upto_region 7 with fail
        obtain ⟨q0, hq0⟩ : ∃ q0, q0 = wr.drew := ⟨_, rfl⟩
        have hCq : Com B gf E (.slice A1 l.length cv1) (.slice A2 l.length cv2) w #[.int .i64 k, .int .i64 n, .slice (some ⟨b, off, none⟩) ks.length c] #[.int .i64 k, .int .i64 n, .slice (some ⟨b2', off2, none⟩) us.length cu] k n (fun _ => False) v1' v2' (.slice Av os.length cv) l1 r1 os q0 := by rw [hq0]; exact hC.drew
        have hSq : (KS w.heap.size #[.int .i64 k, .int .i64 n, .slice (some ⟨b, off, none⟩) ks.length c] #[.int .i64 k, .int .i64 n, .slice (some ⟨b2', off2, none⟩) us.length cu] b (off + j * 3) (.int .i64 k') (.int .i64 n') (.slice A' ks'.length c') b2' (off2 + j * 3) (.int .i64 k2) (.int .i64 n2) (.slice A2' ks2.length c2)) q0 := by rw [hq0]; exact hS0.below (by_drew (by_refl _))
        have sq : wr.heap.size ≤ q0.heap.size := by rw [hq0]; exact Nat.le_refl _
        have rq1 : RdP (fun b => b < gf) q0 A' 0 ks' := by rw [hq0]; exact hr'.drew
        have rq2 : RdP (fun b => b < gf) q0 A2' 0 ks2 := by rw [hq0]; exact hr2.drew
        have hrq1 : Rd q0 A' 0 ks' := rq1.rd
        refine gC_start (KS w.heap.size #[.int .i64 k, .int .i64 n, .slice (some ⟨b, off, none⟩) ks.length c] #[.int .i64 k, .int .i64 n, .slice (some ⟨b2', off2, none⟩) us.length cu] b (off + j * 3) (.int .i64 k') (.int .i64 n') (.slice A' ks'.length c') b2' (off2 + j * 3) (.int .i64 k2) (.int .i64 n2) (.slice A2' ks2.length c2)) [18, 19, 20, 22, 23] 24 (by kernel_rfl) rfl ?_
        refine gC_take [0, 1, 2, 3, 4, 5, 6, 7, 8, 9, 10, 11, 12, 13, 14, 15, 16] (f := 7) (l' := #[true, true, true, true, true, true, true, true, true, true, true, true, true, true, true, true, true, false, false, false, false, false, false, false]) (lT := [_, _, _, _, _, _, _, _, _, _, _, _, _, _, _, _, _]) (by rw [← hq0]; exact hSq) rfl (by kernel_rfl) (by kernel_rfl) (by kernel_rfl) rfl (fun _ _ d _ _ h => by cases d <;> exact h) ?_
        repeat (first | ((refine takeY_skip (a' := ?_) ?_ ?_ ?_); (rotate_left); (· (simp [Region.wanted, yielded]; done)); (· (simp only [List.getElem_toArray, List.getElem_cons_zero, List.getElem_cons_succ, Act.put, List.setIfInBounds_toArray, List.set_cons_zero, List.set_cons_succ]; exact rfl))) | ((refine takeY_step (v := ?_) (a' := ?_) ?_ ?_ ?_ ?_); (rotate_left 2); (· (simp [Region.wanted, yielded]; done)); (· (intro w' hS'; go_simp; try (with_reducible rfl))); (· (simp only [List.getElem_toArray, List.getElem_cons_zero, List.getElem_cons_succ, Act.put, List.setIfInBounds_toArray, List.set_cons_zero, List.set_cons_succ]; exact rfl))) | ((refine takeY_call (v := ?_) (a' := ?_) 55 ?_ ?_ ?_ ?_ ?_ ?_); (rotate_left 3); (· (simp [Region.wanted, yielded]; done)); (· (intro w' hS'; go_simp; try (with_reducible rfl))); (· (intro w' hS'; exact iUnder_any _ _ _)); (· (simp only [List.getElem_toArray, List.getElem_cons_zero, List.getElem_cons_succ, Act.put, List.setIfInBounds_toArray, List.set_cons_zero, List.set_cons_succ]; exact rfl))))
        refine takeY_nil ?_
        rw [← hq0]
        clear hq0 s0 s1 s2 s3 s4 s5 s6 s7 s8
        have fb := hCq.free (b := w.heap.size) (by omega)
        have fb1 := hCq.free (b := w.heap.size + 1) (by omega)
        have ow := hCq.rows.own
        have f2 : b ≠ gf ∧ v1'.ownBlock ≠ some b ∧ v2'.ownBlock ≠ some b := ⟨by omega, fun e => by have := (ow.1 b e).1; omega, fun e => by have := (ow.2 b e).1; omega⟩
        have f2' : b2' ≠ gf ∧ v1'.ownBlock ≠ some b2' ∧ v2'.ownBlock ≠ some b2' := ⟨by omega, fun e => by have := (ow.1 b2' e).1; omega, fun e => by have := (ow.2 b2' e).1; omega⟩
        cases hcm : cm holeI (d + under k j) (.mk k' n' ks') (.mk k2 n2 ks2) (l1, r1) with
        | none =>
          have Hcm := hide hcm
          have Hno : Hid (cmL holeI k d 0 ks us (l, r) = none) := by refine hide (cmL_no holeI k d hlt hul'.out ?_); rw [hcm0, hcm]
          clear hcm hcm0
          refine gC_two (i := 17) (j := 21) (by kernel_rfl) rfl rfl ?_ ?_
          · go_wp2_with (go_at_call 25; refine (ih B (FE E w.heap.size (.slice Av os.length cv) (fun _ => False)) gf v1' v2' k' n' ks' A' c' k2 n2 ks2 A2' c2 (d + under k j) l1 r1 (m + sizes (ks.take j)) _ (by have := Hsz.out; omega) hgf (by omega) (hCq.lt hE (fun _ h => h.elim)) H1.out H2.out (by omega) (by have := Hsz.out; omega) hprs.out (by have := Hsz.out; omega) rq1 rq2 hCq.fin hCq.rows).mono ?_; rw [Hcm.out]; intro e w1 hgo; obtain ⟨v1'', v2'', hc4, o1, o2, hf4, rfl, hR4⟩ := fnGot_noneE hgo)
            have hC1 : Com B gf E (.slice A1 l.length cv1) (.slice A2 l.length cv2) w #[.int .i64 k, .int .i64 n, .slice (some ⟨b, off, none⟩) ks.length c] #[.int .i64 k, .int .i64 n, .slice (some ⟨b2', off2, none⟩) us.length cu] k n (fun _ => False) v1'' v2'' (.slice Av os.length cv) l1 r1 os w1 := hCq.got hgf hB hc4 o1 o2 hf4 hR4
            have hS1 := hSq.chg hc4 ⟨by omega, fb.1, fb.2⟩ ⟨by omega, fb1.1, fb1.2⟩ f2 f2'
            have s1 := hc4.size
            refine mid_intro hS1 ?_
            refine gC_takeT [18, 19, 20] (f := 3) (l' := #[true, true, true, true, true, true, true, true, true, true, true, true, true, true, true, true, true, true, true, true, true, false, false, false]) (lT := [_, _, _]) rfl (by kernel_rfl) (by kernel_rfl) (by kernel_rfl) rfl (fun _ _ d _ _ h => by cases d <;> exact h) ?_
            repeat (first | ((refine takeY_skip (a' := ?_) ?_ ?_ ?_); (rotate_left); (· (simp [Region.wanted, yielded]; done)); (· (simp only [List.getElem_toArray, List.getElem_cons_zero, List.getElem_cons_succ, Act.put, List.setIfInBounds_toArray, List.set_cons_zero, List.set_cons_succ]; exact rfl))) | ((refine takeY_step (v := ?_) (a' := ?_) ?_ ?_ ?_ ?_); (rotate_left 2); (· (simp [Region.wanted, yielded]; done)); (· (intro w' hS'; go_simp; try (with_reducible rfl))); (· (simp only [List.getElem_toArray, List.getElem_cons_zero, List.getElem_cons_succ, Act.put, List.setIfInBounds_toArray, List.set_cons_zero, List.set_cons_succ]; exact rfl))))
            refine takeY_nil ?_
            refine gC_one (i := 21) (by kernel_rfl) rfl ?_
            go_wp2_with fail
            refine name_midw ?_
            intro wz hwz
            have hCz : Com B gf E (.slice A1 l.length cv1) (.slice A2 l.length cv2) w #[.int .i64 k, .int .i64 n, .slice (some ⟨b, off, none⟩) ks.length c] #[.int .i64 k, .int .i64 n, .slice (some ⟨b2', off2, none⟩) us.length cu] k n (fun b => b = w1.heap.size) v1'' v2'' (.slice Av os.length cv) l1 r1 os wz := by rw [hwz]; exact (hC1.toX (fun b hb => .inr (by omega))).alloc _
            have hSz := hS1.alloc (.cells #[.int .i64 0, .int .i64 0, .slice none 0 0] 28)
            rw [← hwz] at hSz
            have hZz : Blk wz w1.heap.size #[.int .i64 0, .int .i64 0, .slice none 0 0] := by rw [hwz]; exact Blk.new_ _ 28 _ rfl
            have hz4 : w.heap.size + 4 ≤ w1.heap.size := by omega
            have hzv : (Value.slice Av os.length cv).ownBlock ≠ some w1.heap.size := fun e => by have := (hown _ e).2; omega
            clear hwz
            refine mid_intro hSz ?_
            refine gC_end [22, 23] (lB := [_, _]) (by simp) (by kernel_rfl) (by kernel_rfl) rfl ?_
            have lz := hZz.lt
            obtain ⟨d0, d1, d2⟩ := hZz.three
            have e0 := hZz.frozen 0
            have e1 := hZz.frozen 1
            have e2 := hZz.frozen 2
            obtain ⟨t0, t1, t2⟩ := hCz.b3.three
            have sz3 := hCz.size
            obtain ⟨x0, x1, x2⟩ := hCz.b0.three
            obtain ⟨y0, y1, y2⟩ := hCz.b1.three
            have f4 : ((os.length : Int) == (ks.length : Int)) = false := by have := hosj'.out; simp; omega
            go_upto_region 13 with fail
            refine name_world ?_
            intro wy hwy
            have hCy : Com B gf E (.slice A1 l.length cv1) (.slice A2 l.length cv2) w #[.int .i64 k, .int .i64 n, .slice (some ⟨b, off, none⟩) ks.length c] #[.int .i64 k, .int .i64 n, .slice (some ⟨b2', off2, none⟩) us.length cu] k n (fun b => b = w1.heap.size) v1'' v2'' (.slice Av os.length cv) l1 r1 os wy := by rw [hwy]; exact ((hCz.setX hgf hB rfl hz4 hzv _).setX hgf hB rfl hz4 hzv _).setX hgf hB rfl hz4 hzv _
            have szw : wz.heap.size ≤ wy.heap.size := by rw [hwy]; simp
            have sy3 := hCy.size
            clear hwy f4 x0 x1 x2 y0 y1 y2 t0 t1 t2 d0 d1 d2 e0 e1 e2
            obtain ⟨B1, cb1, B2, cb2, hvb1, hvb2, -, -⟩ := hCy.rows.rd
            subst hvb1 hvb2
            obtain ⟨m1, m2, hm1, hm2⟩ := cmL_ext hcml.out
            have Hm1 := hide hm1
            have Hm2 := hide hm2
            obtain ⟨⟨u1, u2⟩, u3, u4⟩ := hCy.rows.cut
            have hl1 : l.length ≤ cb1 := by rw [hm1] at u2; simp at u2; omega
            have hl2' : l.length ≤ cb2 := by rw [hm2] at u4; simp at u4; have := hrl'.out; omega
            have k1 := run_cut (n := l1.length) u1 hl1
            have k2' := run_cut (n := r1.length) u3 hl2'
            clear hm1 hm2 u1 u2 u3 u4
            obtain ⟨f0, f1⟩ := hCy.fin.two
            have i0 := hCy.fin.frozen 0
            have i1 := hCy.fin.frozen 1
            refine gC_start (fun _ => True) [0, 1, 2, 3, 4, 5, 6, 7, 8, 9, 10, 11, 12, 13, 14, 15, 16, 17, 18, 19] 20 (by kernel_rfl) rfl ?_
            refine gC_takeT [0, 1, 2, 3, 4, 6, 8, 9, 10, 12] (f := 10) (l' := #[true, true, true, true, true, false, true, false, true, true, true, false, true, false, false, false, false, false, false, false]) (lT := [_, _, _, _, _, _, _, _, _, _]) rfl (by kernel_rfl) (by kernel_rfl) (by kernel_rfl) rfl (fun _ _ d _ _ h => by cases d <;> exact h) ?_
            repeat (first | ((refine takeY_skip (a' := ?_) ?_ ?_ ?_); (rotate_left); (· (simp [Region.wanted, yielded]; done)); (· (simp only [List.getElem_toArray, List.getElem_cons_zero, List.getElem_cons_succ, Act.put, List.setIfInBounds_toArray, List.set_cons_zero, List.set_cons_succ]; exact rfl))) | ((refine takeY_step (v := ?_) (a' := ?_) ?_ ?_ ?_ ?_); (rotate_left 2); (· (simp [Region.wanted, yielded]; done)); (· (intro w' hS'; go_simp; try (with_reducible rfl))); (· (simp only [List.getElem_toArray, List.getElem_cons_zero, List.getElem_cons_succ, Act.put, List.setIfInBounds_toArray, List.set_cons_zero, List.set_cons_succ]; exact rfl))))
            refine takeY_nil ?_
            refine gC_two (i := 5) (j := 11) (by kernel_rfl) rfl rfl ?_ ?_
            · go_wp2_with fail
              refine mid_intro trivial ?_
              refine gC_takeT [7] (f := 8) (l' := #[true, true, true, true, true, true, true, true, true, true, true, false, true, false, false, false, false, false, false, false]) (lT := [_]) rfl (by kernel_rfl) (by kernel_rfl) (by kernel_rfl) rfl (fun _ _ d _ _ h => by cases d <;> exact h) ?_
              repeat (first | ((refine takeY_skip (a' := ?_) ?_ ?_ ?_); (rotate_left); (· (simp [Region.wanted, yielded]; done)); (· (simp only [List.getElem_toArray, List.getElem_cons_zero, List.getElem_cons_succ, Act.put, List.setIfInBounds_toArray, List.set_cons_zero, List.set_cons_succ]; exact rfl))) | ((refine takeY_step (v := ?_) (a' := ?_) ?_ ?_ ?_ ?_); (rotate_left 2); (· (simp [Region.wanted, yielded]; done)); (· (intro w' hS'; go_simp; try (with_reducible rfl))); (· (simp only [List.getElem_toArray, List.getElem_cons_zero, List.getElem_cons_succ, Act.put, List.setIfInBounds_toArray, List.set_cons_zero, List.set_cons_succ]; exact rfl))))
              refine takeY_nil ?_
              refine gC_one (i := 11) (by kernel_rfl) rfl ?_
              go_wp2_with fail
              refine mid_intro trivial ?_
              refine gC_takeT [13] (f := 6) (l' := #[true, true, true, true, true, true, true, true, true, true, true, true, true, true, false, false, false, false, false, false]) (lT := [_]) rfl (by kernel_rfl) (by kernel_rfl) (by kernel_rfl) rfl (fun _ _ d _ _ h => by cases d <;> exact h) ?_
              repeat (first | ((refine takeY_skip (a' := ?_) ?_ ?_ ?_); (rotate_left); (· (simp [Region.wanted, yielded]; done)); (· (simp only [List.getElem_toArray, List.getElem_cons_zero, List.getElem_cons_succ, Act.put, List.setIfInBounds_toArray, List.set_cons_zero, List.set_cons_succ]; exact rfl))) | ((refine takeY_step (v := ?_) (a' := ?_) ?_ ?_ ?_ ?_); (rotate_left 2); (· (simp [Region.wanted, yielded]; done)); (· (intro w' hS'; go_simp; try (with_reducible rfl))); (· (simp only [List.getElem_toArray, List.getElem_cons_zero, List.getElem_cons_succ, Act.put, List.setIfInBounds_toArray, List.set_cons_zero, List.set_cons_succ]; exact rfl))))
              refine takeY_nil ?_
              refine gC_end [14, 15, 16, 17, 18, 19] (lB := [_, _, _, _, _, _]) (by simp) (by kernel_rfl) (by kernel_rfl) rfl ?_
              clear k1 k2'
              go_upto_region 14 with fail
              refine name_world ?_
              intro wv hwv
              have hfx : Blk wv gf #[.slice B1 l.length cb1, .slice B2 l.length cb2] := by rw [hwv]; exact (hCy.fin.drew.set_ 0 _).set_ 1 _
              have hcv : Chg gf (.slice A1 l.length cv1) (.slice A2 l.length cv2) w wv := by rw [hwv]; exact (hCy.chg.drew.set (.inl rfl) _).set (.inl rfl) _
              have hR1 : Rows2 B (FE E w.heap.size (.slice Av os.length cv) (fun b => b = w1.heap.size)) wv (.slice B1 l.length cb1) (.slice B2 l.length cb2) l r := by
                rw [hwv]
                have h := hCy.rows
                rw [Hm1.out, Hm2.out] at h
                have h2 := h.take
                rw [hrl'.out] at h2
                exact ((h2.drew).setCell (.inl hgf) _).setCell (.inl hgf) _
              have ht1 : OwnTo w (.slice A1 l.length cv1) (.slice B1 l.length cb1) := by have h := hCy.o1; unfold OwnTo at *; cases B1 <;> exact h
              have ht2 : OwnTo w (.slice A2 l.length cv2) (.slice B2 l.length cb2) := by have h := hCy.o2; unfold OwnTo at *; cases B2 <;> exact h
              have hb0 : Blk wv w.heap.size #[.int .i64 k, .int .i64 n, .slice (some ⟨b, off, none⟩) ks.length c] := by rw [hwv]; exact (hCy.b0.drew.far (by show w.heap.size ≠ gf; omega) _).far (by show w.heap.size ≠ gf; omega) _
              have hb1 : Blk wv (w.heap.size + 1) #[.int .i64 k, .int .i64 n, .slice (some ⟨b2', off2, none⟩) us.length cu] := by rw [hwv]; exact (hCy.b1.drew.far (by show w.heap.size + 1 ≠ gf; omega) _).far (by show w.heap.size + 1 ≠ gf; omega) _
              have hb2 : Blk wv (w.heap.size + 1 + 1) #[.int .i64 0, .int .i64 0, .slice none 0 0] := by rw [hwv]; exact (hCy.b2.drew.far (by show w.heap.size + 1 + 1 ≠ gf; omega) _).far (by show w.heap.size + 1 + 1 ≠ gf; omega) _
              have szy : wy.heap.size ≤ wv.heap.size := by rw [hwv]; simp
              have hEy := hCy.lt hE (fun b h => by have h : b = w1.heap.size := h; omega)
              clear hwv f0 f1 i0 i1
              have hE1 : ∀ b, FE E w.heap.size (.slice Av os.length cv) (fun b => b = w1.heap.size) b → b < wv.heap.size := fun b h => Nat.lt_of_lt_of_le (hEy b h) szy
              obtain ⟨x0, x1, x2⟩ := hb0.three
              obtain ⟨y0, y1, y2⟩ := hb1.three
              have hgz : gf ≠ w.heap.size + 1 + 1 := by omega
              have ho1 : (Value.slice B1 l.length cb1).ownBlock ≠ some (w.heap.size + 1 + 1) := fun e => hR1.e1 _ e (.inr (.inl (by omega)))
              have ho2 : (Value.slice B2 l.length cb2).ownBlock ≠ some (w.heap.size + 1 + 1) := fun e => hR1.e2 _ e (.inr (.inl (by omega)))
              have hcmz := hide (cm_none (H := holeI) (d := d) (n := n) hul'.out Hno.out)
              have hra := (hr.low hcv hR hgf).rd
              have hrb := (hru.low hcv hR hgf).rd
              have swv := hcv.size
              cases hh : holeOf holeI d (.mk k n ks) (.mk k n us) (l, r) with
              | none =>
                have hh' := hide hh
                clear hh
                go_wp2_with (go_at_call 56; refine (iHole_any B (FE E w.heap.size (.slice Av os.length cv) (fun b => b = w1.heap.size)) gf (.slice B1 l.length cb1) (.slice B2 l.length cb2) k n ks _ c k n us _ cu d l r m _ hgf (by omega) hE1 hv'.out hvu'.out hd (by omega) hst'.out (by omega) hra hrb hfx hR1).mono ?_; rw [hh'.out]; intro e w4 hgo; obtain ⟨v1', v2', hc4, o1, o2, hf4, rfl, hR4⟩ := fnGot_noneE hgo; have hZ4 := hc4.blk hb2 (Ne.symm hgz) ho1 ho2; obtain ⟨d0, d1, d2⟩ := hZ4.three; have e0 := hZ4.frozen 0; have e1 := hZ4.frozen 1; have e2 := hZ4.frozen 2)
                refine bodyPost_ret (v := .tuple #[.agg #[.int .i64 0, .int .i64 0, .slice none 0 0], .bool false]) ?_ rfl ?_
                · simp [results, Try.results25, go_sem, d0, d1, d2]
                · rw [hcmz.out]; rw [hh'.out]
                  exact FnGot.noneI (hcv.trans ht1 ht2 hc4) (ht1.trans o1 hcv.size) (ht2.trans o2 hcv.size) hf4 hR4 (fun b h => .inl h) hgz (by omega) (.inr (.inl (by omega))) _ _ _
              | some res =>
                obtain ⟨⟨ko, no, kso⟩, l2, r2⟩ := res
                have hh' := hide hh
                clear hh
                go_wp2_with (go_at_call 56; refine (iHole_any B (FE E w.heap.size (.slice Av os.length cv) (fun b => b = w1.heap.size)) gf (.slice B1 l.length cb1) (.slice B2 l.length cb2) k n ks _ c k n us _ cu d l r m _ hgf (by omega) hE1 hv'.out hvu'.out hd (by omega) hst'.out (by omega) hra hrb hfx hR1).mono ?_; rw [hh'.out]; intro e w4 hgo; obtain ⟨v1', v2', Ao, co, hc4, o1, o2, hf4, rfl, hlo, hko, hR4⟩ := fnGot_someE hgo; have hZ4 := hc4.blk hb2 (Ne.symm hgz) ho1 ho2; obtain ⟨d0, d1, d2⟩ := hZ4.three; have e0 := hZ4.frozen 0; have e1 := hZ4.frozen 1; have e2 := hZ4.frozen 2)
                refine bodyPost_ret (v := .tuple #[.agg #[.int .i64 ko, .int .i64 no, .slice Ao kso.length co], .bool true]) ?_ rfl ?_
                · simp [results, Try.results25, go_sem, d0, d1, d2]
                · rw [hcmz.out]; rw [hh'.out]
                  exact FnGot.someI (hcv.trans ht1 ht2 hc4) (ht1.trans o1 hcv.size) (ht2.trans o2 hcv.size) hf4 hR4 hlo (hko.mono (fun b h => ⟨⟨by omega, h.2⟩, by omega⟩)) (fun b h => .inl h) hgz (by omega) (.inr (.inl (by omega))) _ _ _
            · go_wp2_with fail
              refine mid_intro trivial ?_
              refine gC_takeT [13] (f := 8) (l' := #[true, true, true, true, true, false, true, false, true, true, true, true, true, true, false, false, false, false, false, false]) (lT := [_]) rfl (by kernel_rfl) (by kernel_rfl) (by kernel_rfl) rfl (fun _ _ d _ _ h => by cases d <;> exact h) ?_
              repeat (first | ((refine takeY_skip (a' := ?_) ?_ ?_ ?_); (rotate_left); (· (simp [Region.wanted, yielded]; done)); (· (simp only [List.getElem_toArray, List.getElem_cons_zero, List.getElem_cons_succ, Act.put, List.setIfInBounds_toArray, List.set_cons_zero, List.set_cons_succ]; exact rfl))) | ((refine takeY_step (v := ?_) (a' := ?_) ?_ ?_ ?_ ?_); (rotate_left 2); (· (simp [Region.wanted, yielded]; done)); (· (intro w' hS'; go_simp; try (with_reducible rfl))); (· (simp only [List.getElem_toArray, List.getElem_cons_zero, List.getElem_cons_succ, Act.put, List.setIfInBounds_toArray, List.set_cons_zero, List.set_cons_succ]; exact rfl))))
              refine takeY_nil ?_
              refine gC_one (i := 5) (by kernel_rfl) rfl ?_
              go_wp2_with fail
              refine mid_intro trivial ?_
              refine gC_takeT [7] (f := 6) (l' := #[true, true, true, true, true, true, true, true, true, true, true, true, true, true, false, false, false, false, false, false]) (lT := [_]) rfl (by kernel_rfl) (by kernel_rfl) (by kernel_rfl) rfl (fun _ _ d _ _ h => by cases d <;> exact h) ?_
              repeat (first | ((refine takeY_skip (a' := ?_) ?_ ?_ ?_); (rotate_left); (· (simp [Region.wanted, yielded]; done)); (· (simp only [List.getElem_toArray, List.getElem_cons_zero, List.getElem_cons_succ, Act.put, List.setIfInBounds_toArray, List.set_cons_zero, List.set_cons_succ]; exact rfl))) | ((refine takeY_step (v := ?_) (a' := ?_) ?_ ?_ ?_ ?_); (rotate_left 2); (· (simp [Region.wanted, yielded]; done)); (· (intro w' hS'; go_simp; try (with_reducible rfl))); (· (simp only [List.getElem_toArray, List.getElem_cons_zero, List.getElem_cons_succ, Act.put, List.setIfInBounds_toArray, List.set_cons_zero, List.set_cons_succ]; exact rfl))))
              refine takeY_nil ?_
              refine gC_end [14, 15, 16, 17, 18, 19] (lB := [_, _, _, _, _, _]) (by simp) (by kernel_rfl) (by kernel_rfl) rfl ?_
              clear k1 k2'
              go_upto_region 14 with fail
              refine name_world ?_
              intro wv hwv
              have hfx : Blk wv gf #[.slice B1 l.length cb1, .slice B2 l.length cb2] := by rw [hwv]; exact (hCy.fin.drew.set_ 0 _).set_ 1 _
              have hcv : Chg gf (.slice A1 l.length cv1) (.slice A2 l.length cv2) w wv := by rw [hwv]; exact (hCy.chg.drew.set (.inl rfl) _).set (.inl rfl) _
              have hR1 : Rows2 B (FE E w.heap.size (.slice Av os.length cv) (fun b => b = w1.heap.size)) wv (.slice B1 l.length cb1) (.slice B2 l.length cb2) l r := by
                rw [hwv]
                have h := hCy.rows
                rw [Hm1.out, Hm2.out] at h
                have h2 := h.take
                rw [hrl'.out] at h2
                exact ((h2.drew).setCell (.inl hgf) _).setCell (.inl hgf) _
              have ht1 : OwnTo w (.slice A1 l.length cv1) (.slice B1 l.length cb1) := by have h := hCy.o1; unfold OwnTo at *; cases B1 <;> exact h
              have ht2 : OwnTo w (.slice A2 l.length cv2) (.slice B2 l.length cb2) := by have h := hCy.o2; unfold OwnTo at *; cases B2 <;> exact h
              have hb0 : Blk wv w.heap.size #[.int .i64 k, .int .i64 n, .slice (some ⟨b, off, none⟩) ks.length c] := by rw [hwv]; exact (hCy.b0.drew.far (by show w.heap.size ≠ gf; omega) _).far (by show w.heap.size ≠ gf; omega) _
              have hb1 : Blk wv (w.heap.size + 1) #[.int .i64 k, .int .i64 n, .slice (some ⟨b2', off2, none⟩) us.length cu] := by rw [hwv]; exact (hCy.b1.drew.far (by show w.heap.size + 1 ≠ gf; omega) _).far (by show w.heap.size + 1 ≠ gf; omega) _
              have hb2 : Blk wv (w.heap.size + 1 + 1) #[.int .i64 0, .int .i64 0, .slice none 0 0] := by rw [hwv]; exact (hCy.b2.drew.far (by show w.heap.size + 1 + 1 ≠ gf; omega) _).far (by show w.heap.size + 1 + 1 ≠ gf; omega) _
              have szy : wy.heap.size ≤ wv.heap.size := by rw [hwv]; simp
              have hEy := hCy.lt hE (fun b h => by have h : b = w1.heap.size := h; omega)
              clear hwv f0 f1 i0 i1
              have hE1 : ∀ b, FE E w.heap.size (.slice Av os.length cv) (fun b => b = w1.heap.size) b → b < wv.heap.size := fun b h => Nat.lt_of_lt_of_le (hEy b h) szy
              obtain ⟨x0, x1, x2⟩ := hb0.three
              obtain ⟨y0, y1, y2⟩ := hb1.three
              have hgz : gf ≠ w.heap.size + 1 + 1 := by omega
              have ho1 : (Value.slice B1 l.length cb1).ownBlock ≠ some (w.heap.size + 1 + 1) := fun e => hR1.e1 _ e (.inr (.inl (by omega)))
              have ho2 : (Value.slice B2 l.length cb2).ownBlock ≠ some (w.heap.size + 1 + 1) := fun e => hR1.e2 _ e (.inr (.inl (by omega)))
              have hcmz := hide (cm_none (H := holeI) (d := d) (n := n) hul'.out Hno.out)
              have hra := (hr.low hcv hR hgf).rd
              have hrb := (hru.low hcv hR hgf).rd
              have swv := hcv.size
              cases hh : holeOf holeI d (.mk k n ks) (.mk k n us) (l, r) with
              | none =>
                have hh' := hide hh
                clear hh
                go_wp2_with (go_at_call 56; refine (iHole_any B (FE E w.heap.size (.slice Av os.length cv) (fun b => b = w1.heap.size)) gf (.slice B1 l.length cb1) (.slice B2 l.length cb2) k n ks _ c k n us _ cu d l r m _ hgf (by omega) hE1 hv'.out hvu'.out hd (by omega) hst'.out (by omega) hra hrb hfx hR1).mono ?_; rw [hh'.out]; intro e w4 hgo; obtain ⟨v1', v2', hc4, o1, o2, hf4, rfl, hR4⟩ := fnGot_noneE hgo; have hZ4 := hc4.blk hb2 (Ne.symm hgz) ho1 ho2; obtain ⟨d0, d1, d2⟩ := hZ4.three; have e0 := hZ4.frozen 0; have e1 := hZ4.frozen 1; have e2 := hZ4.frozen 2)
                refine bodyPost_ret (v := .tuple #[.agg #[.int .i64 0, .int .i64 0, .slice none 0 0], .bool false]) ?_ rfl ?_
                · simp [results, Try.results25, go_sem, d0, d1, d2]
                · rw [hcmz.out]; rw [hh'.out]
                  exact FnGot.noneI (hcv.trans ht1 ht2 hc4) (ht1.trans o1 hcv.size) (ht2.trans o2 hcv.size) hf4 hR4 (fun b h => .inl h) hgz (by omega) (.inr (.inl (by omega))) _ _ _
              | some res =>
                obtain ⟨⟨ko, no, kso⟩, l2, r2⟩ := res
                have hh' := hide hh
                clear hh
                go_wp2_with (go_at_call 56; refine (iHole_any B (FE E w.heap.size (.slice Av os.length cv) (fun b => b = w1.heap.size)) gf (.slice B1 l.length cb1) (.slice B2 l.length cb2) k n ks _ c k n us _ cu d l r m _ hgf (by omega) hE1 hv'.out hvu'.out hd (by omega) hst'.out (by omega) hra hrb hfx hR1).mono ?_; rw [hh'.out]; intro e w4 hgo; obtain ⟨v1', v2', Ao, co, hc4, o1, o2, hf4, rfl, hlo, hko, hR4⟩ := fnGot_someE hgo; have hZ4 := hc4.blk hb2 (Ne.symm hgz) ho1 ho2; obtain ⟨d0, d1, d2⟩ := hZ4.three; have e0 := hZ4.frozen 0; have e1 := hZ4.frozen 1; have e2 := hZ4.frozen 2)
                refine bodyPost_ret (v := .tuple #[.agg #[.int .i64 ko, .int .i64 no, .slice Ao kso.length co], .bool true]) ?_ rfl ?_
                · simp [results, Try.results25, go_sem, d0, d1, d2]
                · rw [hcmz.out]; rw [hh'.out]
                  exact FnGot.someI (hcv.trans ht1 ht2 hc4) (ht1.trans o1 hcv.size) (ht2.trans o2 hcv.size) hf4 hR4 hlo (hko.mono (fun b h => ⟨⟨by omega, h.2⟩, by omega⟩)) (fun b h => .inl h) hgz (by omega) (.inr (.inl (by omega))) _ _ _
          · go_wp2_with fail
            refine name_midw ?_
            intro w2 hw2
            have hC2 : Com B gf E (.slice A1 l.length cv1) (.slice A2 l.length cv2) w #[.int .i64 k, .int .i64 n, .slice (some ⟨b, off, none⟩) ks.length c] #[.int .i64 k, .int .i64 n, .slice (some ⟨b2', off2, none⟩) us.length cu] k n (fun b => b = q0.heap.size) v1' v2' (.slice Av os.length cv) l1 r1 os w2 := by rw [hw2]; exact (hCq.toX (fun b hb => .inr (by omega))).alloc _
            have hS2 := hSq.alloc (.cells #[.int .i64 0, .int .i64 0, .slice none 0 0] 28)
            rw [← hw2] at hS2
            have hZ2 : Blk w2 q0.heap.size #[.int .i64 0, .int .i64 0, .slice none 0 0] := by rw [hw2]; exact Blk.new_ _ 28 _ rfl
            have r1q : RdP (fun b => b < gf) w2 A' 0 ks' := by rw [hw2]; exact rq1.alloc _
            have r2q : RdP (fun b => b < gf) w2 A2' 0 ks2 := by rw [hw2]; exact rq2.alloc _
            have hl2z := hZ2.lt
            clear hw2
            refine mid_intro hS2 ?_
            refine gC_one (i := 17) (by kernel_rfl) rfl ?_
            go_wp2_with (go_at_call 25; refine (ih B (FE E w.heap.size (.slice Av os.length cv) (fun b => b = q0.heap.size)) gf v1' v2' k' n' ks' A' c' k2 n2 ks2 A2' c2 (d + under k j) l1 r1 (m + sizes (ks.take j)) _ (by have := Hsz.out; omega) hgf (by omega) (hC2.lt hE (fun b h => by omega)) H1.out H2.out (by omega) (by have := Hsz.out; omega) hprs.out (by have := Hsz.out; omega) r1q r2q hC2.fin hC2.rows).mono ?_; rw [Hcm.out]; intro e wz hgo; obtain ⟨v1'', v2'', hc4, o1, o2, hf4, rfl, hR4⟩ := fnGot_noneE hgo)
            have hCz : Com B gf E (.slice A1 l.length cv1) (.slice A2 l.length cv2) w #[.int .i64 k, .int .i64 n, .slice (some ⟨b, off, none⟩) ks.length c] #[.int .i64 k, .int .i64 n, .slice (some ⟨b2', off2, none⟩) us.length cu] k n (fun b => b = q0.heap.size) v1'' v2'' (.slice Av os.length cv) l1 r1 os wz := hC2.got hgf hB hc4 o1 o2 hf4 hR4
            have hS1 := hS2.chg hc4 ⟨by omega, fb.1, fb.2⟩ ⟨by omega, fb1.1, fb1.2⟩ f2 f2'
            have hZz := hc4.blk hZ2 (by omega) (fun e => hC2.rows.e1 _ e (.inr (.inr (.inr rfl)))) (fun e => hC2.rows.e2 _ e (.inr (.inr (.inr rfl))))
            have s1 := hc4.size
            have hz4 : w.heap.size + 4 ≤ q0.heap.size := by omega
            have hzv : (Value.slice Av os.length cv).ownBlock ≠ some q0.heap.size := fun e => by have := (hown _ e).2; omega
            refine mid_intro hS1 ?_
            refine gC_takeT [18, 19, 20] (f := 2) (l' := #[true, true, true, true, true, true, true, true, true, true, true, true, true, true, true, true, true, true, true, true, true, true, false, false]) (lT := [_, _, _]) rfl (by kernel_rfl) (by kernel_rfl) (by kernel_rfl) rfl (fun _ _ d _ _ h => by cases d <;> exact h) ?_
            repeat (first | ((refine takeY_skip (a' := ?_) ?_ ?_ ?_); (rotate_left); (· (simp [Region.wanted, yielded]; done)); (· (simp only [List.getElem_toArray, List.getElem_cons_zero, List.getElem_cons_succ, Act.put, List.setIfInBounds_toArray, List.set_cons_zero, List.set_cons_succ]; exact rfl))) | ((refine takeY_step (v := ?_) (a' := ?_) ?_ ?_ ?_ ?_); (rotate_left 2); (· (simp [Region.wanted, yielded]; done)); (· (intro w' hS'; go_simp; try (with_reducible rfl))); (· (simp only [List.getElem_toArray, List.getElem_cons_zero, List.getElem_cons_succ, Act.put, List.setIfInBounds_toArray, List.set_cons_zero, List.set_cons_succ]; exact rfl))))
            refine takeY_nil ?_
            refine gC_end [22, 23] (lB := [_, _]) (by simp) (by kernel_rfl) (by kernel_rfl) rfl ?_
            have lz := hZz.lt
            obtain ⟨d0, d1, d2⟩ := hZz.three
            have e0 := hZz.frozen 0
            have e1 := hZz.frozen 1
            have e2 := hZz.frozen 2
            obtain ⟨t0, t1, t2⟩ := hCz.b3.three
            have sz3 := hCz.size
            obtain ⟨x0, x1, x2⟩ := hCz.b0.three
            obtain ⟨y0, y1, y2⟩ := hCz.b1.three
            have f4 : ((os.length : Int) == (ks.length : Int)) = false := by have := hosj'.out; simp; omega
            go_upto_region 13 with fail
            refine name_world ?_
            intro wy hwy
            have hCy : Com B gf E (.slice A1 l.length cv1) (.slice A2 l.length cv2) w #[.int .i64 k, .int .i64 n, .slice (some ⟨b, off, none⟩) ks.length c] #[.int .i64 k, .int .i64 n, .slice (some ⟨b2', off2, none⟩) us.length cu] k n (fun b => b = q0.heap.size) v1'' v2'' (.slice Av os.length cv) l1 r1 os wy := by rw [hwy]; exact ((hCz.setX hgf hB rfl hz4 hzv _).setX hgf hB rfl hz4 hzv _).setX hgf hB rfl hz4 hzv _
            have szw : wz.heap.size ≤ wy.heap.size := by rw [hwy]; simp
            have sy3 := hCy.size
            clear hwy f4 x0 x1 x2 y0 y1 y2 t0 t1 t2 d0 d1 d2 e0 e1 e2
            obtain ⟨B1, cb1, B2, cb2, hvb1, hvb2, -, -⟩ := hCy.rows.rd
            subst hvb1 hvb2
            obtain ⟨m1, m2, hm1, hm2⟩ := cmL_ext hcml.out
            have Hm1 := hide hm1
            have Hm2 := hide hm2
            obtain ⟨⟨u1, u2⟩, u3, u4⟩ := hCy.rows.cut
            have hl1 : l.length ≤ cb1 := by rw [hm1] at u2; simp at u2; omega
            have hl2' : l.length ≤ cb2 := by rw [hm2] at u4; simp at u4; have := hrl'.out; omega
            have k1 := run_cut (n := l1.length) u1 hl1
            have k2' := run_cut (n := r1.length) u3 hl2'
            clear hm1 hm2 u1 u2 u3 u4
            obtain ⟨f0, f1⟩ := hCy.fin.two
            have i0 := hCy.fin.frozen 0
            have i1 := hCy.fin.frozen 1
            refine gC_start (fun _ => True) [0, 1, 2, 3, 4, 5, 6, 7, 8, 9, 10, 11, 12, 13, 14, 15, 16, 17, 18, 19] 20 (by kernel_rfl) rfl ?_
            refine gC_takeT [0, 1, 2, 3, 4, 6, 8, 9, 10, 12] (f := 10) (l' := #[true, true, true, true, true, false, true, false, true, true, true, false, true, false, false, false, false, false, false, false]) (lT := [_, _, _, _, _, _, _, _, _, _]) rfl (by kernel_rfl) (by kernel_rfl) (by kernel_rfl) rfl (fun _ _ d _ _ h => by cases d <;> exact h) ?_
            repeat (first | ((refine takeY_skip (a' := ?_) ?_ ?_ ?_); (rotate_left); (· (simp [Region.wanted, yielded]; done)); (· (simp only [List.getElem_toArray, List.getElem_cons_zero, List.getElem_cons_succ, Act.put, List.setIfInBounds_toArray, List.set_cons_zero, List.set_cons_succ]; exact rfl))) | ((refine takeY_step (v := ?_) (a' := ?_) ?_ ?_ ?_ ?_); (rotate_left 2); (· (simp [Region.wanted, yielded]; done)); (· (intro w' hS'; go_simp; try (with_reducible rfl))); (· (simp only [List.getElem_toArray, List.getElem_cons_zero, List.getElem_cons_succ, Act.put, List.setIfInBounds_toArray, List.set_cons_zero, List.set_cons_succ]; exact rfl))))
            refine takeY_nil ?_
            refine gC_two (i := 5) (j := 11) (by kernel_rfl) rfl rfl ?_ ?_
            · go_wp2_with fail
              refine mid_intro trivial ?_
              refine gC_takeT [7] (f := 8) (l' := #[true, true, true, true, true, true, true, true, true, true, true, false, true, false, false, false, false, false, false, false]) (lT := [_]) rfl (by kernel_rfl) (by kernel_rfl) (by kernel_rfl) rfl (fun _ _ d _ _ h => by cases d <;> exact h) ?_
              repeat (first | ((refine takeY_skip (a' := ?_) ?_ ?_ ?_); (rotate_left); (· (simp [Region.wanted, yielded]; done)); (· (simp only [List.getElem_toArray, List.getElem_cons_zero, List.getElem_cons_succ, Act.put, List.setIfInBounds_toArray, List.set_cons_zero, List.set_cons_succ]; exact rfl))) | ((refine takeY_step (v := ?_) (a' := ?_) ?_ ?_ ?_ ?_); (rotate_left 2); (· (simp [Region.wanted, yielded]; done)); (· (intro w' hS'; go_simp; try (with_reducible rfl))); (· (simp only [List.getElem_toArray, List.getElem_cons_zero, List.getElem_cons_succ, Act.put, List.setIfInBounds_toArray, List.set_cons_zero, List.set_cons_succ]; exact rfl))))
              refine takeY_nil ?_
              refine gC_one (i := 11) (by kernel_rfl) rfl ?_
              go_wp2_with fail
              refine mid_intro trivial ?_
              refine gC_takeT [13] (f := 6) (l' := #[true, true, true, true, true, true, true, true, true, true, true, true, true, true, false, false, false, false, false, false]) (lT := [_]) rfl (by kernel_rfl) (by kernel_rfl) (by kernel_rfl) rfl (fun _ _ d _ _ h => by cases d <;> exact h) ?_
              repeat (first | ((refine takeY_skip (a' := ?_) ?_ ?_ ?_); (rotate_left); (· (simp [Region.wanted, yielded]; done)); (· (simp only [List.getElem_toArray, List.getElem_cons_zero, List.getElem_cons_succ, Act.put, List.setIfInBounds_toArray, List.set_cons_zero, List.set_cons_succ]; exact rfl))) | ((refine takeY_step (v := ?_) (a' := ?_) ?_ ?_ ?_ ?_); (rotate_left 2); (· (simp [Region.wanted, yielded]; done)); (· (intro w' hS'; go_simp; try (with_reducible rfl))); (· (simp only [List.getElem_toArray, List.getElem_cons_zero, List.getElem_cons_succ, Act.put, List.setIfInBounds_toArray, List.set_cons_zero, List.set_cons_succ]; exact rfl))))
              refine takeY_nil ?_
              refine gC_end [14, 15, 16, 17, 18, 19] (lB := [_, _, _, _, _, _]) (by simp) (by kernel_rfl) (by kernel_rfl) rfl ?_
              clear k1 k2'
              go_upto_region 14 with fail
              refine name_world ?_
              intro wv hwv
              have hfx : Blk wv gf #[.slice B1 l.length cb1, .slice B2 l.length cb2] := by rw [hwv]; exact (hCy.fin.drew.set_ 0 _).set_ 1 _
              have hcv : Chg gf (.slice A1 l.length cv1) (.slice A2 l.length cv2) w wv := by rw [hwv]; exact (hCy.chg.drew.set (.inl rfl) _).set (.inl rfl) _
              have hR1 : Rows2 B (FE E w.heap.size (.slice Av os.length cv) (fun b => b = q0.heap.size)) wv (.slice B1 l.length cb1) (.slice B2 l.length cb2) l r := by
                rw [hwv]
                have h := hCy.rows
                rw [Hm1.out, Hm2.out] at h
                have h2 := h.take
                rw [hrl'.out] at h2
                exact ((h2.drew).setCell (.inl hgf) _).setCell (.inl hgf) _
              have ht1 : OwnTo w (.slice A1 l.length cv1) (.slice B1 l.length cb1) := by have h := hCy.o1; unfold OwnTo at *; cases B1 <;> exact h
              have ht2 : OwnTo w (.slice A2 l.length cv2) (.slice B2 l.length cb2) := by have h := hCy.o2; unfold OwnTo at *; cases B2 <;> exact h
              have hb0 : Blk wv w.heap.size #[.int .i64 k, .int .i64 n, .slice (some ⟨b, off, none⟩) ks.length c] := by rw [hwv]; exact (hCy.b0.drew.far (by show w.heap.size ≠ gf; omega) _).far (by show w.heap.size ≠ gf; omega) _
              have hb1 : Blk wv (w.heap.size + 1) #[.int .i64 k, .int .i64 n, .slice (some ⟨b2', off2, none⟩) us.length cu] := by rw [hwv]; exact (hCy.b1.drew.far (by show w.heap.size + 1 ≠ gf; omega) _).far (by show w.heap.size + 1 ≠ gf; omega) _
              have hb2 : Blk wv (w.heap.size + 1 + 1) #[.int .i64 0, .int .i64 0, .slice none 0 0] := by rw [hwv]; exact (hCy.b2.drew.far (by show w.heap.size + 1 + 1 ≠ gf; omega) _).far (by show w.heap.size + 1 + 1 ≠ gf; omega) _
              have szy : wy.heap.size ≤ wv.heap.size := by rw [hwv]; simp
              have hEy := hCy.lt hE (fun b h => by have h : b = q0.heap.size := h; omega)
              clear hwv f0 f1 i0 i1
              have hE1 : ∀ b, FE E w.heap.size (.slice Av os.length cv) (fun b => b = q0.heap.size) b → b < wv.heap.size := fun b h => Nat.lt_of_lt_of_le (hEy b h) szy
              obtain ⟨x0, x1, x2⟩ := hb0.three
              obtain ⟨y0, y1, y2⟩ := hb1.three
              have hgz : gf ≠ w.heap.size + 1 + 1 := by omega
              have ho1 : (Value.slice B1 l.length cb1).ownBlock ≠ some (w.heap.size + 1 + 1) := fun e => hR1.e1 _ e (.inr (.inl (by omega)))
              have ho2 : (Value.slice B2 l.length cb2).ownBlock ≠ some (w.heap.size + 1 + 1) := fun e => hR1.e2 _ e (.inr (.inl (by omega)))
              have hcmz := hide (cm_none (H := holeI) (d := d) (n := n) hul'.out Hno.out)
              have hra := (hr.low hcv hR hgf).rd
              have hrb := (hru.low hcv hR hgf).rd
              have swv := hcv.size
              cases hh : holeOf holeI d (.mk k n ks) (.mk k n us) (l, r) with
              | none =>
                have hh' := hide hh
                clear hh
                go_wp2_with (go_at_call 56; refine (iHole_any B (FE E w.heap.size (.slice Av os.length cv) (fun b => b = q0.heap.size)) gf (.slice B1 l.length cb1) (.slice B2 l.length cb2) k n ks _ c k n us _ cu d l r m _ hgf (by omega) hE1 hv'.out hvu'.out hd (by omega) hst'.out (by omega) hra hrb hfx hR1).mono ?_; rw [hh'.out]; intro e w4 hgo; obtain ⟨v1', v2', hc4, o1, o2, hf4, rfl, hR4⟩ := fnGot_noneE hgo; have hZ4 := hc4.blk hb2 (Ne.symm hgz) ho1 ho2; obtain ⟨d0, d1, d2⟩ := hZ4.three; have e0 := hZ4.frozen 0; have e1 := hZ4.frozen 1; have e2 := hZ4.frozen 2)
                refine bodyPost_ret (v := .tuple #[.agg #[.int .i64 0, .int .i64 0, .slice none 0 0], .bool false]) ?_ rfl ?_
                · simp [results, Try.results25, go_sem, d0, d1, d2]
                · rw [hcmz.out]; rw [hh'.out]
                  exact FnGot.noneI (hcv.trans ht1 ht2 hc4) (ht1.trans o1 hcv.size) (ht2.trans o2 hcv.size) hf4 hR4 (fun b h => .inl h) hgz (by omega) (.inr (.inl (by omega))) _ _ _
              | some res =>
                obtain ⟨⟨ko, no, kso⟩, l2, r2⟩ := res
                have hh' := hide hh
                clear hh
                go_wp2_with (go_at_call 56; refine (iHole_any B (FE E w.heap.size (.slice Av os.length cv) (fun b => b = q0.heap.size)) gf (.slice B1 l.length cb1) (.slice B2 l.length cb2) k n ks _ c k n us _ cu d l r m _ hgf (by omega) hE1 hv'.out hvu'.out hd (by omega) hst'.out (by omega) hra hrb hfx hR1).mono ?_; rw [hh'.out]; intro e w4 hgo; obtain ⟨v1', v2', Ao, co, hc4, o1, o2, hf4, rfl, hlo, hko, hR4⟩ := fnGot_someE hgo; have hZ4 := hc4.blk hb2 (Ne.symm hgz) ho1 ho2; obtain ⟨d0, d1, d2⟩ := hZ4.three; have e0 := hZ4.frozen 0; have e1 := hZ4.frozen 1; have e2 := hZ4.frozen 2)
                refine bodyPost_ret (v := .tuple #[.agg #[.int .i64 ko, .int .i64 no, .slice Ao kso.length co], .bool true]) ?_ rfl ?_
                · simp [results, Try.results25, go_sem, d0, d1, d2]
                · rw [hcmz.out]; rw [hh'.out]
                  exact FnGot.someI (hcv.trans ht1 ht2 hc4) (ht1.trans o1 hcv.size) (ht2.trans o2 hcv.size) hf4 hR4 hlo (hko.mono (fun b h => ⟨⟨by omega, h.2⟩, by omega⟩)) (fun b h => .inl h) hgz (by omega) (.inr (.inl (by omega))) _ _ _
            · go_wp2_with fail
              refine mid_intro trivial ?_
              refine gC_takeT [13] (f := 8) (l' := #[true, true, true, true, true, false, true, false, true, true, true, true, true, true, false, false, false, false, false, false]) (lT := [_]) rfl (by kernel_rfl) (by kernel_rfl) (by kernel_rfl) rfl (fun _ _ d _ _ h => by cases d <;> exact h) ?_
              repeat (first | ((refine takeY_skip (a' := ?_) ?_ ?_ ?_); (rotate_left); (· (simp [Region.wanted, yielded]; done)); (· (simp only [List.getElem_toArray, List.getElem_cons_zero, List.getElem_cons_succ, Act.put, List.setIfInBounds_toArray, List.set_cons_zero, List.set_cons_succ]; exact rfl))) | ((refine takeY_step (v := ?_) (a' := ?_) ?_ ?_ ?_ ?_); (rotate_left 2); (· (simp [Region.wanted, yielded]; done)); (· (intro w' hS'; go_simp; try (with_reducible rfl))); (· (simp only [List.getElem_toArray, List.getElem_cons_zero, List.getElem_cons_succ, Act.put, List.setIfInBounds_toArray, List.set_cons_zero, List.set_cons_succ]; exact rfl))))
              refine takeY_nil ?_
              refine gC_one (i := 5) (by kernel_rfl) rfl ?_
              go_wp2_with fail
              refine mid_intro trivial ?_
              refine gC_takeT [7] (f := 6) (l' := #[true, true, true, true, true, true, true, true, true, true, true, true, true, true, false, false, false, false, false, false]) (lT := [_]) rfl (by kernel_rfl) (by kernel_rfl) (by kernel_rfl) rfl (fun _ _ d _ _ h => by cases d <;> exact h) ?_
              repeat (first | ((refine takeY_skip (a' := ?_) ?_ ?_ ?_); (rotate_left); (· (simp [Region.wanted, yielded]; done)); (· (simp only [List.getElem_toArray, List.getElem_cons_zero, List.getElem_cons_succ, Act.put, List.setIfInBounds_toArray, List.set_cons_zero, List.set_cons_succ]; exact rfl))) | ((refine takeY_step (v := ?_) (a' := ?_) ?_ ?_ ?_ ?_); (rotate_left 2); (· (simp [Region.wanted, yielded]; done)); (· (intro w' hS'; go_simp; try (with_reducible rfl))); (· (simp only [List.getElem_toArray, List.getElem_cons_zero, List.getElem_cons_succ, Act.put, List.setIfInBounds_toArray, List.set_cons_zero, List.set_cons_succ]; exact rfl))))
              refine takeY_nil ?_
              refine gC_end [14, 15, 16, 17, 18, 19] (lB := [_, _, _, _, _, _]) (by simp) (by kernel_rfl) (by kernel_rfl) rfl ?_
              clear k1 k2'
              go_upto_region 14 with fail
              refine name_world ?_
              intro wv hwv
              have hfx : Blk wv gf #[.slice B1 l.length cb1, .slice B2 l.length cb2] := by rw [hwv]; exact (hCy.fin.drew.set_ 0 _).set_ 1 _
              have hcv : Chg gf (.slice A1 l.length cv1) (.slice A2 l.length cv2) w wv := by rw [hwv]; exact (hCy.chg.drew.set (.inl rfl) _).set (.inl rfl) _
              have hR1 : Rows2 B (FE E w.heap.size (.slice Av os.length cv) (fun b => b = q0.heap.size)) wv (.slice B1 l.length cb1) (.slice B2 l.length cb2) l r := by
                rw [hwv]
                have h := hCy.rows
                rw [Hm1.out, Hm2.out] at h
                have h2 := h.take
                rw [hrl'.out] at h2
                exact ((h2.drew).setCell (.inl hgf) _).setCell (.inl hgf) _
              have ht1 : OwnTo w (.slice A1 l.length cv1) (.slice B1 l.length cb1) := by have h := hCy.o1; unfold OwnTo at *; cases B1 <;> exact h
              have ht2 : OwnTo w (.slice A2 l.length cv2) (.slice B2 l.length cb2) := by have h := hCy.o2; unfold OwnTo at *; cases B2 <;> exact h
              have hb0 : Blk wv w.heap.size #[.int .i64 k, .int .i64 n, .slice (some ⟨b, off, none⟩) ks.length c] := by rw [hwv]; exact (hCy.b0.drew.far (by show w.heap.size ≠ gf; omega) _).far (by show w.heap.size ≠ gf; omega) _
              have hb1 : Blk wv (w.heap.size + 1) #[.int .i64 k, .int .i64 n, .slice (some ⟨b2', off2, none⟩) us.length cu] := by rw [hwv]; exact (hCy.b1.drew.far (by show w.heap.size + 1 ≠ gf; omega) _).far (by show w.heap.size + 1 ≠ gf; omega) _
              have hb2 : Blk wv (w.heap.size + 1 + 1) #[.int .i64 0, .int .i64 0, .slice none 0 0] := by rw [hwv]; exact (hCy.b2.drew.far (by show w.heap.size + 1 + 1 ≠ gf; omega) _).far (by show w.heap.size + 1 + 1 ≠ gf; omega) _
              have szy : wy.heap.size ≤ wv.heap.size := by rw [hwv]; simp
              have hEy := hCy.lt hE (fun b h => by have h : b = q0.heap.size := h; omega)
              clear hwv f0 f1 i0 i1
              have hE1 : ∀ b, FE E w.heap.size (.slice Av os.length cv) (fun b => b = q0.heap.size) b → b < wv.heap.size := fun b h => Nat.lt_of_lt_of_le (hEy b h) szy
              obtain ⟨x0, x1, x2⟩ := hb0.three
              obtain ⟨y0, y1, y2⟩ := hb1.three
              have hgz : gf ≠ w.heap.size + 1 + 1 := by omega
              have ho1 : (Value.slice B1 l.length cb1).ownBlock ≠ some (w.heap.size + 1 + 1) := fun e => hR1.e1 _ e (.inr (.inl (by omega)))
              have ho2 : (Value.slice B2 l.length cb2).ownBlock ≠ some (w.heap.size + 1 + 1) := fun e => hR1.e2 _ e (.inr (.inl (by omega)))
              have hcmz := hide (cm_none (H := holeI) (d := d) (n := n) hul'.out Hno.out)
              have hra := (hr.low hcv hR hgf).rd
              have hrb := (hru.low hcv hR hgf).rd
              have swv := hcv.size
              cases hh : holeOf holeI d (.mk k n ks) (.mk k n us) (l, r) with
              | none =>
                have hh' := hide hh
                clear hh
                go_wp2_with (go_at_call 56; refine (iHole_any B (FE E w.heap.size (.slice Av os.length cv) (fun b => b = q0.heap.size)) gf (.slice B1 l.length cb1) (.slice B2 l.length cb2) k n ks _ c k n us _ cu d l r m _ hgf (by omega) hE1 hv'.out hvu'.out hd (by omega) hst'.out (by omega) hra hrb hfx hR1).mono ?_; rw [hh'.out]; intro e w4 hgo; obtain ⟨v1', v2', hc4, o1, o2, hf4, rfl, hR4⟩ := fnGot_noneE hgo; have hZ4 := hc4.blk hb2 (Ne.symm hgz) ho1 ho2; obtain ⟨d0, d1, d2⟩ := hZ4.three; have e0 := hZ4.frozen 0; have e1 := hZ4.frozen 1; have e2 := hZ4.frozen 2)
                refine bodyPost_ret (v := .tuple #[.agg #[.int .i64 0, .int .i64 0, .slice none 0 0], .bool false]) ?_ rfl ?_
                · simp [results, Try.results25, go_sem, d0, d1, d2]
                · rw [hcmz.out]; rw [hh'.out]
                  exact FnGot.noneI (hcv.trans ht1 ht2 hc4) (ht1.trans o1 hcv.size) (ht2.trans o2 hcv.size) hf4 hR4 (fun b h => .inl h) hgz (by omega) (.inr (.inl (by omega))) _ _ _
              | some res =>
                obtain ⟨⟨ko, no, kso⟩, l2, r2⟩ := res
                have hh' := hide hh
                clear hh
                go_wp2_with (go_at_call 56; refine (iHole_any B (FE E w.heap.size (.slice Av os.length cv) (fun b => b = q0.heap.size)) gf (.slice B1 l.length cb1) (.slice B2 l.length cb2) k n ks _ c k n us _ cu d l r m _ hgf (by omega) hE1 hv'.out hvu'.out hd (by omega) hst'.out (by omega) hra hrb hfx hR1).mono ?_; rw [hh'.out]; intro e w4 hgo; obtain ⟨v1', v2', Ao, co, hc4, o1, o2, hf4, rfl, hlo, hko, hR4⟩ := fnGot_someE hgo; have hZ4 := hc4.blk hb2 (Ne.symm hgz) ho1 ho2; obtain ⟨d0, d1, d2⟩ := hZ4.three; have e0 := hZ4.frozen 0; have e1 := hZ4.frozen 1; have e2 := hZ4.frozen 2)
                refine bodyPost_ret (v := .tuple #[.agg #[.int .i64 ko, .int .i64 no, .slice Ao kso.length co], .bool true]) ?_ rfl ?_
                · simp [results, Try.results25, go_sem, d0, d1, d2]
                · rw [hcmz.out]; rw [hh'.out]
                  exact FnGot.someI (hcv.trans ht1 ht2 hc4) (ht1.trans o1 hcv.size) (ht2.trans o2 hcv.size) hf4 hR4 hlo (hko.mono (fun b h => ⟨⟨by omega, h.2⟩, by omega⟩)) (fun b h => .inl h) hgz (by omega) (.inr (.inl (by omega))) _ _ _

        | some res =>
          obtain ⟨⟨ko, no, kso⟩, l2, r2⟩ := res
          have Hcm := hide hcm
          have Hok := hide (cm_ok holeI _ _ _ _ _ _ _ hprs.out hcm)
          have Hso : Hid (cmL holeI k d 0 (ks.take (j + 1)) (us.take (j + 1)) (l, r) = some (os ++ [.mk ko no kso], (l2, r2))) := by refine hide ?_; rw [hcm0, hcm]
          clear hcm hcm0
          refine gC_two (i := 17) (j := 21) (by kernel_rfl) rfl rfl ?_ ?_
          · go_wp2_with (go_at_call 25; refine (ih B (FE E w.heap.size (.slice Av os.length cv) (fun _ => False)) gf v1' v2' k' n' ks' A' c' k2 n2 ks2 A2' c2 (d + under k j) l1 r1 (m + sizes (ks.take j)) _ (by have := Hsz.out; omega) hgf (by omega) (hCq.lt hE (fun _ h => h.elim)) H1.out H2.out (by omega) (by have := Hsz.out; omega) hprs.out (by have := Hsz.out; omega) rq1 rq2 hCq.fin hCq.rows).mono ?_; rw [Hcm.out]; intro e w1 hgo; obtain ⟨v1'', v2'', Ao, co, hc4, o1, o2, hf4, rfl, hlo, hko, hR4⟩ := fnGot_someE hgo)
            have hC1 : Com B gf E (.slice A1 l.length cv1) (.slice A2 l.length cv2) w #[.int .i64 k, .int .i64 n, .slice (some ⟨b, off, none⟩) ks.length c] #[.int .i64 k, .int .i64 n, .slice (some ⟨b2', off2, none⟩) us.length cu] k n (fun _ => False) v1'' v2'' (.slice Av os.length cv) l2 r2 os w1 := hCq.got hgf hB hc4 o1 o2 hf4 hR4
            have hS1 := hSq.chg hc4 ⟨by omega, fb.1, fb.2⟩ ⟨by omega, fb1.1, fb1.2⟩ f2 f2'
            have s1 := hc4.size
            refine mid_intro hS1 ?_
            refine gC_takeT [18, 19, 20] (f := 3) (l' := #[true, true, true, true, true, true, true, true, true, true, true, true, true, true, true, true, true, true, true, true, true, false, false, false]) (lT := [_, _, _]) rfl (by kernel_rfl) (by kernel_rfl) (by kernel_rfl) rfl (fun _ _ d _ _ h => by cases d <;> exact h) ?_
            repeat (first | ((refine takeY_skip (a' := ?_) ?_ ?_ ?_); (rotate_left); (· (simp [Region.wanted, yielded]; done)); (· (simp only [List.getElem_toArray, List.getElem_cons_zero, List.getElem_cons_succ, Act.put, List.setIfInBounds_toArray, List.set_cons_zero, List.set_cons_succ]; exact rfl))) | ((refine takeY_step (v := ?_) (a' := ?_) ?_ ?_ ?_ ?_); (rotate_left 2); (· (simp [Region.wanted, yielded]; done)); (· (intro w' hS'; go_simp; try (with_reducible rfl))); (· (simp only [List.getElem_toArray, List.getElem_cons_zero, List.getElem_cons_succ, Act.put, List.setIfInBounds_toArray, List.set_cons_zero, List.set_cons_succ]; exact rfl))))
            refine takeY_nil ?_
            refine gC_one (i := 21) (by kernel_rfl) rfl ?_
            go_wp2_with fail
            refine name_midw ?_
            intro wz hwz
            have hCz : Com B gf E (.slice A1 l.length cv1) (.slice A2 l.length cv2) w #[.int .i64 k, .int .i64 n, .slice (some ⟨b, off, none⟩) ks.length c] #[.int .i64 k, .int .i64 n, .slice (some ⟨b2', off2, none⟩) us.length cu] k n (fun b => b = w1.heap.size) v1'' v2'' (.slice Av os.length cv) l2 r2 os wz := by rw [hwz]; exact (hC1.toX (fun b hb => .inr (by omega))).alloc _
            have hSz := hS1.alloc (.cells #[.int .i64 0, .int .i64 0, .slice none 0 0] 28)
            rw [← hwz] at hSz
            have hZz : Blk wz w1.heap.size #[.int .i64 0, .int .i64 0, .slice none 0 0] := by rw [hwz]; exact Blk.new_ _ 28 _ rfl
            have hz4 : w.heap.size + 4 ≤ w1.heap.size := by omega
            have hzv : (Value.slice Av os.length cv).ownBlock ≠ some w1.heap.size := fun e => by have := (hown _ e).2; omega
            have rKz : RdP (fun b => (wr.heap.size ≤ b ∧ v1''.ownBlock ≠ some b ∧ v2''.ownBlock ≠ some b) ∧ b ≠ w1.heap.size) wz Ao 0 kso := by rw [hwz]; exact ((rdp_ltC.2 _ _ _ hko).mono (fun b h => ⟨⟨by omega, h.1.2⟩, by omega⟩)).alloc _
            clear hwz
            refine mid_intro hSz ?_
            refine gC_end [22, 23] (lB := [_, _]) (by simp) (by kernel_rfl) (by kernel_rfl) rfl ?_
            have lz := hZz.lt
            obtain ⟨d0, d1, d2⟩ := hZz.three
            have e0 := hZz.frozen 0
            have e1 := hZz.frozen 1
            have e2 := hZz.frozen 2
            obtain ⟨t0, t1, t2⟩ := hCz.b3.three
            have sz3 := hCz.size
            go_wp2_with (at_builtin; refine name_list ?_; intro wx hwx; have sx := congrArg (fun w : World => w.heap.size) hwx; (try simp at sx); have hCx : Com B gf E (.slice A1 l.length cv1) (.slice A2 l.length cv2) w #[.int .i64 k, .int .i64 n, .slice (some ⟨b, off, none⟩) ks.length c] #[.int .i64 k, .int .i64 n, .slice (some ⟨b2', off2, none⟩) us.length cu] k n (fun b => b = w1.heap.size) v1'' v2'' (.slice Av os.length cv) l2 r2 os wx := (by rw [hwx]; exact (((hCz.setX hgf hB rfl hz4 hzv _).setX hgf hB rfl hz4 hzv _).setX hgf hB rfl hz4 hzv _).alloc _); have hBx : Blk wx wz.heap.size #[.int .i64 ko, .int .i64 no, .slice Ao kso.length co] := (by rw [hwx]; exact Blk.new_ _ 28 _ (by simp)); have rKx : RdP (fun b => (wr.heap.size ≤ b ∧ v1''.ownBlock ≠ some b ∧ v2''.ownBlock ≠ some b) ∧ b ≠ w1.heap.size) wx Ao 0 kso := (by rw [hwx]; exact (rKz.set3 (fun h => h.2 rfl) _ _ _).alloc _); clear hwx; refine wpList_append_out (q := fun b => (fun b => (wr.heap.size ≤ b ∧ v1''.ownBlock ≠ some b ∧ v2''.ownBlock ≠ some b) ∧ b ≠ w1.heap.size) b ∧ b < wx.heap.size) hCx.out (by omega) (rdp_ltC.2 _ _ _ rKx) (fun b hb => ⟨by omega, hb.2, fun e => by have := (hown b e).2; omega, hb.1.1.2.1, hb.1.1.2.2, fun e => hb.1.2 e⟩) hlo rfl (by omega) _ 1 hBx rfl (.tmp 76) (.tmp 78) rfl rfl rfl ?_; intro A6 c6 w6 hO6 hg6 hat6; have hb36 := hCx.b3.grown hg6 (fun e => by have := (hCx.out.own _ e.symm).1; omega); clear t0 t1 t2 d0 d1 d2 e0 e1 e2; obtain ⟨t0, t1, t2⟩ := hb36.three; have e2 := hb36.frozen 2)
            go_roundw
            case rel =>
              refine ⟨j + 1, v1'', v2'', .slice A6 (os.length + 1) c6, l2, r2, os ++ [.mk ko no kso], hlt, by go_num, Hso.out, ?_, (hCx.appended hgf hB hg6 hat6 hO6).toX (fun b hb => hb.elim)⟩
              have := Hok.out
              rw [Hsz.out]
              simpa [Tm.size, Nat.add_assoc] using this
            case measure => simp [intOf]; omega
          · go_wp2_with fail
            refine name_midw ?_
            intro w2 hw2
            have hC2 : Com B gf E (.slice A1 l.length cv1) (.slice A2 l.length cv2) w #[.int .i64 k, .int .i64 n, .slice (some ⟨b, off, none⟩) ks.length c] #[.int .i64 k, .int .i64 n, .slice (some ⟨b2', off2, none⟩) us.length cu] k n (fun b => b = q0.heap.size) v1' v2' (.slice Av os.length cv) l1 r1 os w2 := by rw [hw2]; exact (hCq.toX (fun b hb => .inr (by omega))).alloc _
            have hS2 := hSq.alloc (.cells #[.int .i64 0, .int .i64 0, .slice none 0 0] 28)
            rw [← hw2] at hS2
            have hZ2 : Blk w2 q0.heap.size #[.int .i64 0, .int .i64 0, .slice none 0 0] := by rw [hw2]; exact Blk.new_ _ 28 _ rfl
            have r1q : RdP (fun b => b < gf) w2 A' 0 ks' := by rw [hw2]; exact rq1.alloc _
            have r2q : RdP (fun b => b < gf) w2 A2' 0 ks2 := by rw [hw2]; exact rq2.alloc _
            have hl2z := hZ2.lt
            clear hw2
            refine mid_intro hS2 ?_
            refine gC_one (i := 17) (by kernel_rfl) rfl ?_
            go_wp2_with (go_at_call 25; refine (ih B (FE E w.heap.size (.slice Av os.length cv) (fun b => b = q0.heap.size)) gf v1' v2' k' n' ks' A' c' k2 n2 ks2 A2' c2 (d + under k j) l1 r1 (m + sizes (ks.take j)) _ (by have := Hsz.out; omega) hgf (by omega) (hC2.lt hE (fun b h => by omega)) H1.out H2.out (by omega) (by have := Hsz.out; omega) hprs.out (by have := Hsz.out; omega) r1q r2q hC2.fin hC2.rows).mono ?_; rw [Hcm.out]; intro e wz hgo; obtain ⟨v1'', v2'', Ao, co, hc4, o1, o2, hf4, rfl, hlo, hko, hR4⟩ := fnGot_someE hgo)
            have hCz : Com B gf E (.slice A1 l.length cv1) (.slice A2 l.length cv2) w #[.int .i64 k, .int .i64 n, .slice (some ⟨b, off, none⟩) ks.length c] #[.int .i64 k, .int .i64 n, .slice (some ⟨b2', off2, none⟩) us.length cu] k n (fun b => b = q0.heap.size) v1'' v2'' (.slice Av os.length cv) l2 r2 os wz := hC2.got hgf hB hc4 o1 o2 hf4 hR4
            have hS1 := hS2.chg hc4 ⟨by omega, fb.1, fb.2⟩ ⟨by omega, fb1.1, fb1.2⟩ f2 f2'
            have hZz := hc4.blk hZ2 (by omega) (fun e => hC2.rows.e1 _ e (.inr (.inr (.inr rfl)))) (fun e => hC2.rows.e2 _ e (.inr (.inr (.inr rfl))))
            have s1 := hc4.size
            have hz4 : w.heap.size + 4 ≤ q0.heap.size := by omega
            have hzv : (Value.slice Av os.length cv).ownBlock ≠ some q0.heap.size := fun e => by have := (hown _ e).2; omega
            have rKz : RdP (fun b => (wr.heap.size ≤ b ∧ v1''.ownBlock ≠ some b ∧ v2''.ownBlock ≠ some b) ∧ b ≠ q0.heap.size) wz Ao 0 kso := hko.mono (fun b h => ⟨⟨by omega, h.2⟩, by omega⟩)
            refine mid_intro hS1 ?_
            refine gC_takeT [18, 19, 20] (f := 2) (l' := #[true, true, true, true, true, true, true, true, true, true, true, true, true, true, true, true, true, true, true, true, true, true, false, false]) (lT := [_, _, _]) rfl (by kernel_rfl) (by kernel_rfl) (by kernel_rfl) rfl (fun _ _ d _ _ h => by cases d <;> exact h) ?_
            repeat (first | ((refine takeY_skip (a' := ?_) ?_ ?_ ?_); (rotate_left); (· (simp [Region.wanted, yielded]; done)); (· (simp only [List.getElem_toArray, List.getElem_cons_zero, List.getElem_cons_succ, Act.put, List.setIfInBounds_toArray, List.set_cons_zero, List.set_cons_succ]; exact rfl))) | ((refine takeY_step (v := ?_) (a' := ?_) ?_ ?_ ?_ ?_); (rotate_left 2); (· (simp [Region.wanted, yielded]; done)); (· (intro w' hS'; go_simp; try (with_reducible rfl))); (· (simp only [List.getElem_toArray, List.getElem_cons_zero, List.getElem_cons_succ, Act.put, List.setIfInBounds_toArray, List.set_cons_zero, List.set_cons_succ]; exact rfl))))
            refine takeY_nil ?_
            refine gC_end [22, 23] (lB := [_, _]) (by simp) (by kernel_rfl) (by kernel_rfl) rfl ?_
            have lz := hZz.lt
            obtain ⟨d0, d1, d2⟩ := hZz.three
            have e0 := hZz.frozen 0
            have e1 := hZz.frozen 1
            have e2 := hZz.frozen 2
            obtain ⟨t0, t1, t2⟩ := hCz.b3.three
            have sz3 := hCz.size
            go_wp2_with (at_builtin; refine name_list ?_; intro wx hwx; have sx := congrArg (fun w : World => w.heap.size) hwx; (try simp at sx); have hCx : Com B gf E (.slice A1 l.length cv1) (.slice A2 l.length cv2) w #[.int .i64 k, .int .i64 n, .slice (some ⟨b, off, none⟩) ks.length c] #[.int .i64 k, .int .i64 n, .slice (some ⟨b2', off2, none⟩) us.length cu] k n (fun b => b = q0.heap.size) v1'' v2'' (.slice Av os.length cv) l2 r2 os wx := (by rw [hwx]; exact (((hCz.setX hgf hB rfl hz4 hzv _).setX hgf hB rfl hz4 hzv _).setX hgf hB rfl hz4 hzv _).alloc _); have hBx : Blk wx wz.heap.size #[.int .i64 ko, .int .i64 no, .slice Ao kso.length co] := (by rw [hwx]; exact Blk.new_ _ 28 _ (by simp)); have rKx : RdP (fun b => (wr.heap.size ≤ b ∧ v1''.ownBlock ≠ some b ∧ v2''.ownBlock ≠ some b) ∧ b ≠ q0.heap.size) wx Ao 0 kso := (by rw [hwx]; exact (rKz.set3 (fun h => h.2 rfl) _ _ _).alloc _); clear hwx; refine wpList_append_out (q := fun b => (fun b => (wr.heap.size ≤ b ∧ v1''.ownBlock ≠ some b ∧ v2''.ownBlock ≠ some b) ∧ b ≠ q0.heap.size) b ∧ b < wx.heap.size) hCx.out (by omega) (rdp_ltC.2 _ _ _ rKx) (fun b hb => ⟨by omega, hb.2, fun e => by have := (hown b e).2; omega, hb.1.1.2.1, hb.1.1.2.2, fun e => hb.1.2 e⟩) hlo rfl (by omega) _ 1 hBx rfl (.tmp 76) (.tmp 78) rfl rfl rfl ?_; intro A6 c6 w6 hO6 hg6 hat6; have hb36 := hCx.b3.grown hg6 (fun e => by have := (hCx.out.own _ e.symm).1; omega); clear t0 t1 t2 d0 d1 d2 e0 e1 e2; obtain ⟨t0, t1, t2⟩ := hb36.three; have e2 := hb36.frozen 2)
            go_roundw
            case rel =>
              refine ⟨j + 1, v1'', v2'', .slice A6 (os.length + 1) c6, l2, r2, os ++ [.mk ko no kso], hlt, by go_num, Hso.out, ?_, (hCx.appended hgf hB hg6 hat6 hO6).toX (fun b hb => hb.elim)⟩
              have := Hok.out
              rw [Hsz.out]
              simpa [Tm.size, Nat.add_assoc] using this
            case measure => simp [intOf]; omega

      · have hjl : j = ks.length := by omega
        subst hjl
        have Hc : Hid (cmL holeI k d 0 ks us (l, r) = some (os, (l1, r1))) := by
          refine hide ?_
          have h := hcml.out
          rw [List.take_length, ← hul'.out, List.take_length] at h
          exact h
        have f4 : ((os.length : Int) == (ks.length : Int)) = true := by rw [hosj]; simp
        have hrd := hC.out.rd (fun g hg => ⟨fun e => hC.rows.e1 g e (.inr (.inr (.inl hg))), fun e => hC.rows.e2 g e (.inr (.inr (.inl hg)))⟩)
        obtain ⟨Ax, cx, hvx, hro⟩ := hrd
        injection hvx with e1 e2 e3
        subst e1 e3
        have hosj' := hide hosj
        have hlos : os.length ≤ 900 := by omega
        clear hosj
        obtain ⟨x0, x1, x2⟩ := hC.b0.three
        obtain ⟨t0, t1, t2⟩ := hC.b3.three
        obtain ⟨d0, d1, d2⟩ := hC.b2.three
        have e0 := hC.b2.frozen 0
        have e1 := hC.b2.frozen 1
        have e2 := hC.b2.frozen 2
        have hgz : gf ≠ w.heap.size + 1 + 1 := by omega
        go_wp2_with fail
        refine bodyPost_ret (v := .tuple #[.agg #[.int .i64 k, .int .i64 n, .slice Av os.length cv], .bool true]) ?_ rfl ?_
        · simp [results, Try.results25, go_sem, d0, d1, d2]
        · rw [cm_some hul'.out Hc.out]
          exact FnGot.someI hC.chg hC.o1 hC.o2 hC.fin hC.rows (by omega) (hro.mono (fun b h => ⟨⟨by omega, h.2⟩, by omega⟩)) (fun b h => .inl h) hgz (by omega) (.inr (.inl (by omega))) _ _ _
end Go.Proofs.Ytgmljpmnfncceaa
