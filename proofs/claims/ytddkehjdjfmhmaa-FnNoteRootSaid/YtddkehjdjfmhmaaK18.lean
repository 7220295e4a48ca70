/-
 Contracts of the functions that the law reaches, and plain lemmas. No condition.
-/
import Derived.Test.YtddkehjdjfmhmaaK12
import Derived.Test.YtddkehjdjfmhmaaK14
import Derived.Test.YtddkehjdjfmhmaaK17
namespace Go.Proofs.Ytddkehjdjfmhmaa
set_option linter.unusedSimpArgs false
set_option linter.unusedVariables false
open Go.RowKit
theorem not_false_true {b : Bool} (h : (!b) = false) : b = true := by cases b with | true => rfl | false => cases h
theorem not_true_false {b : Bool} (h : (!b) = true) : b = false := by cases b with | false => rfl | true => cases h
def oneS (t : Tm) : Tm × Nat := match stepS t with | none => (t, 0) | some u => if validT u = true then (u, 1) else (.mk 0 0 [], 2)
theorem oneS_none {t : Tm} (h : stepS t = none) : oneS t = (t, 0) := by rw [oneS, h]
theorem oneS_took {t u : Tm} (h : stepS t = some u) (hv : validT u = true) : oneS t = (u, 1) := by rw [oneS, h]; exact if_pos hv
theorem oneS_large {t u : Tm} (h : stepS t = some u) (hv : validT u = false) : oneS t = (.mk 0 0 [], 2) := by rw [oneS, h]; exact if_neg (by simp [hv])
theorem normS_zero {t : Tm} {f : Nat} (h : (oneS t).2 = 0) : normS f t = (some (oneS t).1, 0) := by
 unfold oneS at h ⊢
 rw [normS]
 cases hs : stepS t with
 | none => rfl
 | some u => rw [hs] at h; simp only at h; split at h <;> cases h
theorem normS_fuel {t : Tm} (h : (oneS t).2 ≠ 0) : normS 0 t = (none, 1) := by
 unfold oneS at h
 rw [normS]
 cases hs : stepS t with
 | none => rw [hs] at h; exact absurd rfl h
 | some u => rfl
theorem normS_large {t : Tm} {f : Nat} (h : (oneS t).2 = 2) : normS (f + 1) t = (none, 2) := by
 unfold oneS at h
 rw [normS]
 cases hs : stepS t with
 | none => rw [hs] at h; cases h
 | some u =>
  rw [hs] at h
  simp only at h ⊢
  split at h
  ·cases h
  ·rename_i hv; rw [if_neg hv]
theorem normS_more {t : Tm} {f : Nat} (h0 : (oneS t).2 ≠ 0) (h2 : (oneS t).2 ≠ 2) : normS (f + 1) t = normS f (oneS t).1 := by
 unfold oneS at h0 h2 ⊢
 rw [normS]
 cases hs : stepS t with
 | none => rw [hs] at h0; exact absurd rfl h0
 | some u =>
  rw [hs] at h0 h2
  simp only at h0 h2 ⊢
  split at h2
  ·rename_i hv; simp only [if_pos hv]
  ·exact absurd rfl h2
def Normd (R : Option Tm × Int) (w : World) (e : Ending) (w' : World) : Prop :=
 ∃ (k n : Int) (ks : List Tm) (A : Option Addr) (c : Nat), R.1.getD (.mk 0 0 []) = .mk k n ks ∧ e = .returned (.tuple #[.agg #[.int .i64 k, .int .i64 n, .slice A ks.length c], .int .i64 R.2]) ∧ ks.length ≤ 9223372036854775807 ∧ RdP (fun x => w.heap.size ≤ x) w' A 0 ks ∧ Below w.heap.size w w'
def Oned (t0 : Tm) (w : World) (e : Ending) (w' : World) : Prop :=
 ∃ (k n : Int) (ks : List Tm) (A : Option Addr) (c code : Nat), .mk k n ks = (oneS t0).1 ∧ code = (oneS t0).2 ∧ e = .returned (.tuple #[.agg #[.int .i64 k, .int .i64 n, .slice A ks.length c], .int .i64 code]) ∧ code ≤ 2 ∧ ks.length ≤ 9223372036854775807 ∧ sizes ks ≤ 400 ∧ (code ≠ 2 → validT (.mk k n ks) = true) ∧ RdP (fun x => w.heap.size ≤ x) w' A 0 ks ∧ Below w.heap.size w w'
set_option maxHeartbeats 4000000 in
set_option maxRecDepth 100000 in
theorem sOne_any (hC : Contract3) (k n : Int) (ks : List Tm) (A : Option Addr) (c : Nat) (w : World) (hv : validT (.mk k n ks) = true) (hl : ks.length ≤ 9223372036854775807) (hr : Rd w A 0 ks) :
  Calls Try.prog 101 #[.agg #[.int .i64 k, .int .i64 n, .slice A ks.length c], .bool false] w (Oned (.mk k n ks) w) := by
 have hM := validT_size' hv
 have hsh := hide (validT_shape30 hv)
 have hv' := hide hv
 clear hv
 go_enter Try.func101, Try.ntmps101
 go_wp2_with (go_at_call 102; refine (sStep_any hC _ 30 k n ks A c _ (by omega) (Nat.lt_succ_self _) hM hsh.out (((hr.alloc _).alloc _))).mono ?_; rintro e w1 ⟨k2, n2, ks2, A2, c2, bb, hx2, hx3, rfl, hl2, hs2, hr2, hb1⟩; replace hx2 := hide hx2; replace hx3 := hide hx3; have hB := (((Blk.new_ w 25 #[.int .i64 k, .int .i64 n, .slice A ks.length c] rfl).alloc (.cells #[.int .i64 0, .int .i64 0, .slice none 0 0] 25)).keep hb1).alloc (.cells #[.int .i64 k2, .int .i64 n2, .slice A2 ks2.length c2] 25); have hZ : Blk (w1.alloc (.cells #[.int .i64 k2, .int .i64 n2, .slice A2 ks2.length c2] 25)) (w.heap.size + 1) #[.int .i64 0, .int .i64 0, .slice none 0 0] := ((Blk.new_ (w.alloc (.cells #[.int .i64 k, .int .i64 n, .slice A ks.length c] 25)) 25 #[.int .i64 0, .int .i64 0, .slice none 0 0] (by simp)).keep hb1).alloc _; have g1 : Below w.heap.size w w1 := (((Below.refl _ _).alloc (Nat.le_refl _) _).alloc (by simp) _).trans (hb1.mono (by simp; omega)); have s1 : w.heap.size + 2 ≤ w1.heap.size := (by have := hb1.size; simpa using this); have g2 := g1.alloc g1.size (.cells #[.int .i64 k2, .int .i64 n2, .slice A2 ks2.length c2] 25); have hK := Blk.new_ w1 25 #[.int .i64 k2, .int .i64 n2, .slice A2 ks2.length c2] rfl; obtain ⟨x0, x1, x2⟩ := hB.three; obtain ⟨y0, y1, y2⟩ := hK.three)
 ·have hbf : bb = false := not_true_false (by assumption)
  have ho := hide (oneS_none (none_of hx3.out hbf))
  refine (sCopy_any _ k n ks A c _ (Nat.lt_succ_self _) (by omega) ((hr.below g1).alloc _)).mono ?_
  rintro e w3 ⟨A3, c3, rfl, hl3, hf3, hb3⟩
  replace hZ := hZ.keep hb3
  obtain ⟨d0, d1, d2⟩ := hZ.three
  have e0 := hZ.frozen 0
  have e1 := hZ.frozen 1
  have e2 := hZ.frozen 2
  replace g2 := g2.trans (hb3.mono g2.size)
  go_wp2_with fail
  refine bodyPost_ret (v := .tuple #[.agg #[.int .i64 k, .int .i64 n, .slice A3 ks.length c3], .int .i64 0]) (by simp [results, Try.results101, go_sem, d0, d1, d2]) rfl ⟨k, n, ks, A3, c3, 0, (by rw [ho.out]), (by rw [ho.out]), rfl, by omega, hl3, by omega, fun _ => hv'.out, ?_, ?_⟩
  ·exact (Fresh.rdp (((hf3.setCell (by simp; omega) _).setCell (by simp; omega) _).setCell (by simp; omega) _)).mono (fun b hb => by have := hb.1; simp at this; omega)
  ·exact ((g2.setCell (by simp) _).setCell (by simp) _).setCell (by simp) _
 ·have hbb : bb = true := not_false_true (by assumption)
  have hst := hide (some_of hx2.out hx3.out hbb)
  have hrx : RdP (fun x => w.heap.size + 2 ≤ x) w1 A2 0 ks2 := hr2.mono (fun x hx => by rw [hbb] at hx; simp at hx; omega)
  clear hr2
  obtain ⟨vv, hvv0⟩ : ∃ vv, validT (.mk k2 n2 ks2) = vv := ⟨_, rfl⟩
  have hvv := hide hvv0
  refine (sTermValid_any k2 n2 ks2 A2 c2 _ (by omega) (hrx.alloc _).rd).mono ?_
  rw [hvv0]
  rintro e w3 ⟨rfl, hb3⟩
  clear hvv0
  replace hZ := hZ.keep hb3
  replace hK := hK.keep hb3
  clear y0 y1 y2
  obtain ⟨y0, y1, y2⟩ := hK.three
  obtain ⟨d0, d1, d2⟩ := hZ.three
  have e0 := hZ.frozen 0
  have e1 := hZ.frozen 1
  have e2 := hZ.frozen 2
  replace g2 := g2.trans (hb3.mono g2.size)
  have hrx3 := (hrx.alloc (.cells #[.int .i64 k2, .int .i64 n2, .slice A2 ks2.length c2] 25)).below hb3
  cases vv with
  | false =>
   go_wp2_with fail
   refine bodyPost_ret (v := .tuple #[.agg #[.int .i64 0, .int .i64 0, .slice none 0 0], .int .i64 2]) (by simp [results, Try.results101, go_sem, d0, d1, d2]) rfl ⟨0, 0, [], none, 0, 2, (by rw [oneS_large hst.out hvv.out]), (by rw [oneS_large hst.out hvv.out]), rfl, by omega, by simp, by simp [sizes], fun h => absurd rfl h, RdP.nil, ?_⟩
   exact ((g2.setCell (by simp) _).setCell (by simp) _).setCell (by simp) _
  | true =>
   have hs400 := validT_size' hvv.out
   go_wp2_with fail
   refine bodyPost_ret (v := .tuple #[.agg #[.int .i64 k2, .int .i64 n2, .slice A2 ks2.length c2], .int .i64 1]) (by simp [results, Try.results101, go_sem, d0, d1, d2]) rfl ⟨k2, n2, ks2, A2, c2, 1, (by rw [oneS_took hst.out hvv.out]), (by rw [oneS_took hst.out hvv.out]), rfl, by omega, hl2, hs400, fun _ => hvv.out, ?_, ?_⟩
   ·exact (((hrx3.setCell (by simp) _).setCell (by simp) _).setCell (by simp) _).mono (fun b hb => by omega)
   ·exact ((g2.setCell (by simp) _).setCell (by simp) _).setCell (by simp) _
set_option maxHeartbeats 4000000 in
set_option maxRecDepth 100000 in
theorem sNorm_any (hC : Contract3) (k n : Int) (ks : List Tm) (A : Option Addr) (c : Nat) (F : Nat) (hF : F ≤ 1000) (w : World) (hv : validT (.mk k n ks) = true) (hl : ks.length ≤ 9223372036854775807) (hr : Rd w A 0 ks) :
  Calls Try.prog 100 #[.agg #[.int .i64 k, .int .i64 n, .slice A ks.length c], .int .i64 F, .bool false] w (Normd (normS F (.mk k n ks)) w) := by
 obtain ⟨R, hR⟩ : ∃ R, normS F (.mk k n ks) = R := ⟨_, rfl⟩
 rw [hR]
 replace hR := hide hR
 go_enter Try.func100, Try.ntmps100
 go_wp2_with fail
 go_loopw [1, 8, 9] (fun fv _ _ wr => ∃ (f : Nat) (k n : Int) (ks : List Tm) (A : Option Addr) (c : Nat), f ≤ F ∧ Hid (normS f (.mk k n ks) = R) ∧ fv = .int .i64 f ∧ validT (.mk k n ks) = true ∧ ks.length ≤ 9223372036854775807 ∧ Blk wr w.heap.size #[.int .i64 k, .int .i64 n, .slice A ks.length c] ∧ Blk wr (w.heap.size + 1) #[.int .i64 0, .int .i64 0, .slice none 0 0] ∧ RdP (fun b => b < w.heap.size ∨ w.heap.size + 2 ≤ b) wr A 0 ks ∧ Below w.heap.size w wr)
  (fun fv _ _ _ => (intOf fv).toNat)
 case atStart => exact ⟨F, k, n, ks, A, c, Nat.le_refl _, hR, rfl, hv, hl, (Blk.new_ _ _ _ rfl).alloc _, Blk.new_ _ _ _ (by simp), ((hr.rdp.alloc _).alloc _).mono (fun b hb => .inl hb), ((Below.refl _ _).alloc (by simp) _).alloc (by simp) _⟩
 case round =>
  clear hv hl hr hR
  obtain ⟨f, k, n, ks, A, c, hf, hRf, rfl, hv, hl, hB, hZ, hrd, hb⟩ := hrel
  have hv' := hide hv
  clear hv
  obtain ⟨x0, x1, x2⟩ := hB.three
  have lz0 := hZ.lt
  go_wp2_with (go_at_call 101; refine (sOne_any hC k n ks A c _ hv'.out hl hrd.rd).mono ?_; rintro e w1 ⟨k2, n2, ks2, A2, c2, code, hx2, hx3, rfl, hcd, hl2, hs2, hv2, hr2, hb1⟩; replace hB := (hB.keep hb1).alloc (.cells #[.int .i64 k2, .int .i64 n2, .slice A2 ks2.length c2] 25); replace hZ := (hZ.keep hb1).alloc (.cells #[.int .i64 k2, .int .i64 n2, .slice A2 ks2.length c2] 25); have s1 := hb1.size; have g1 := (hb.trans (hb1.mono hb.size)).alloc (by have := hb.size; omega) (.cells #[.int .i64 k2, .int .i64 n2, .slice A2 ks2.length c2] 25); have hK := Blk.new_ w1 25 #[.int .i64 k2, .int .i64 n2, .slice A2 ks2.length c2] rfl; have hr3 := (hr2.alloc (.cells #[.int .i64 k2, .int .i64 n2, .slice A2 ks2.length c2] 25)).mono (q := fun b => w.heap.size + 2 ≤ b) (fun b hb => by omega); have hv3 := hide hv2; replace hx2 := hide hx2; replace hx3 := hide hx3; clear hv2 x0 x1 x2; obtain ⟨x0, x1, x2⟩ := hB.three; obtain ⟨y0, y1, y2⟩ := hK.three; obtain ⟨d0, d1, d2⟩ := hZ.three; have e0 := hZ.frozen 0; have e1 := hZ.frozen 1; have e2 := hZ.frozen 2; have z0 := hB.frozen 0; have z1 := hB.frozen 1; have z2 := hB.frozen 2)
  ·have hc0 : code = 0 := by rename_i h0; have := eq_of_beq h0; omega
   obtain rfl : R = (some (.mk k2 n2 ks2), 0) := by rw [← hRf.out, normS_zero (by rw [← hx3.out]; exact hc0), ← hx2.out]
   refine bodyPost_ret (v := .tuple #[.agg #[.int .i64 k2, .int .i64 n2, .slice A2 ks2.length c2], .int .i64 0]) (by simp [results, Try.results100, go_sem, d0, d1, d2]) rfl ⟨k2, n2, ks2, A2, c2, rfl, rfl, hl2, ?_, ?_⟩
   ·exact (((hr3.setCell (by simp) _).setCell (by simp) _).setCell (by simp) _).mono (fun b hb => by omega)
   ·exact ((g1.setCell (by simp) _).setCell (by simp) _).setCell (by simp) _
  ·have hcb : ((code : Int) == 0) = false := by assumption
   have hc0 : ¬ (code : Int) = 0 := ne_of_beq_false hcb
   obtain rfl : f = 0 := by omega
   obtain rfl : R = (none, 1) := by rw [← hRf.out, normS_fuel (by rw [← hx3.out]; omega)]
   refine bodyPost_ret (v := .tuple #[.agg #[.int .i64 0, .int .i64 0, .slice none 0 0], .int .i64 1]) (by simp [results, Try.results100, go_sem, d0, d1, d2]) rfl ⟨0, 0, [], none, 0, rfl, rfl, by simp, RdP.nil, ?_⟩
   exact ((g1.setCell (by simp) _).setCell (by simp) _).setCell (by simp) _
  ·have hc2 : (code : Int) = 2 := by rename_i h0; exact eq_of_beq h0
   obtain ⟨f, rfl⟩ : ∃ g, f = g + 1 := ⟨f - 1, by omega⟩
   obtain rfl : R = (none, 2) := by rw [← hRf.out, normS_large (by rw [← hx3.out]; omega)]
   refine bodyPost_ret (v := .tuple #[.agg #[.int .i64 0, .int .i64 0, .slice none 0 0], .int .i64 2]) (by simp [results, Try.results100, go_sem, d0, d1, d2]) rfl ⟨0, 0, [], none, 0, rfl, rfl, by simp, RdP.nil, ?_⟩
   exact ((g1.setCell (by simp) _).setCell (by simp) _).setCell (by simp) _
  ·have hc2 : ¬ (code : Int) = 2 := by rename_i h0; exact ne_of_beq_false h0
   have hcb : ((code : Int) == 0) = false := by assumption
   have hc0 : ¬ (code : Int) = 0 := ne_of_beq_false hcb
   have hf1 : 1 ≤ f := by omega
   have hRg : normS (f - 1) (.mk k2 n2 ks2) = R := by rw [← hRf.out, show f = (f - 1) + 1 from by omega, normS_more (by rw [← hx3.out]; omega) (by rw [← hx3.out]; omega), ← hx2.out]; rfl
   refine ⟨⟨f - 1, k2, n2, ks2, A2, c2, by omega, hide hRg, by go_num, hv3.out (by omega), hl2, ((hB.set_ 0 _).set_ 1 _).set_ 2 _, ((hZ.far (by simp) _).far (by simp) _).far (by simp) _, (((hr3.setCell (by simp) _).setCell (by simp) _).setCell (by simp) _).mono (fun b hb => .inr hb), ((g1.setCell (by simp) _).setCell (by simp) _).setCell (by simp) _⟩, by simp [intOf]; omega⟩
open Go.RowKit
theorem RdX.oneCell {p : Nat → Prop} {w : World} : ∀ {ts : List Tm} {xs : List Value}, RdX p w ts xs → ∀ u, u ∈ xs → u.oneCell' = true
 | [], xs, h, u, hu => by have h : xs = [] := h; subst h; cases hu
 | .mk k n ks :: ts, xs, h, u, hu => by
  obtain ⟨A, c, ys, rfl, hl, hr, hx⟩ := h
  simp only [List.mem_cons] at hu
  rcases hu with rfl | rfl | rfl | hu
  ·rfl
  ·rfl
  ·rfl
  ·exact hx.oneCell u hu
theorem run_append_nodeR {w : World} {us : List Tm} {x1 : List Value} {g : Nat} {lo : Nat → Prop} (hg : w.heap[g]? = some (.cells #[] 25 (0, 0))) (hlo : ∀ b, lo b → b < g) (hgw : g < w.heap.size)
  (ht : RdX lo w us x1) (hlen : us.length ≤ 1099511627776) (ad : Addr) (c : Nat) (hc : ∀ j u, x1[j]? = some u → w.cell? (ad.add j) = some u) (ty : TypeId) :
  ∃ A c' w', (Builtin.append_ #[23, 23] ty #[.slice (some ⟨g, 0, none⟩) 0 0, .slice (some ad) us.length c]).run Try.prog w = .ok (.slice A us.length c') w' ∧ RdP (fun b => lo b ∨ g ≤ b) w' A 0 us ∧ w.grownBy w' (some g) := by
 obtain ⟨i, hi, hz, hz1, hz2⟩ := info_parts tm_info
 have k1 : w.ownsRow g 25 3 (.slice (some ⟨g, 0, none⟩) 0 0) 0 [] := ⟨by simp, .inr ⟨g, 0, #[], rfl, Nat.le_refl _, hg, Nat.le_refl _, by simp [maxLen], by simp, by simp⟩⟩
 obtain ⟨v', w', hrun, hown, hgr, _, hat⟩ := run_append_own_at (P := Try.prog) w g 23 ty 25 i _ 3 40 Try.underlying23 hi hz hz1 hz2 rfl (by omega) _ 0 [] k1 ad us.length c x1 ht.length hc ht.oneCell
  (by simp only [maxLen]; omega) (by omega) (by omega)
 rw [Nat.zero_add, List.nil_append] at hown
 obtain ⟨h2, h3⟩ := hown
 rcases h3 with ⟨rfl, h0⟩ | ⟨g', cap, cur, rfl, hb', hg', _, _, _, htk⟩
 ·have : us = [] := List.eq_nil_of_length_eq_zero h0
  subst this
  exact ⟨none, 0, w', hrun, RdP.nil, hgr⟩
 ·refine ⟨_, _, w', hrun, RdX.rdp (.inr hb') (ht.keep (fun b hb => .inl hb) fun b hb hl => hgr.block b hl (fun e => by injection e with e; have e : b = g := e; have := hlo b hb; omega)) fun j u hu => ?_, hgr⟩
  rw [show 0 + 0 * 3 + j = j by omega, cell_of_row w' g' j cur 25 (0, 0) hg']
  rw [← htk, List.getElem?_take] at hu
  split at hu
  ·simpa using hu
  ·cases hu
theorem wpList_append_nodeR {w : World} {us : List Tm} {x1 : List Value} {g : Nat} {lo : Nat → Prop} (hg : w.heap[g]? = some (.cells #[] 25 (0, 0))) (hlo : ∀ b, lo b → b < g) (hgw : g < w.heap.size)
  (ht : RdX lo w us x1) (hlen : us.length ≤ 1099511627776) (ad : Addr) (c : Nat) (hc : ∀ j u, x1[j]? = some u → w.cell? (ad.add j) = some u)
  {ops : Array Oper} {rest : List Oper} {o : Oper} {a : Act} {Q : Exit → Act → World → Prop} (hgd : o.guard = none) (s x : Operand)
  (ho : o.op = .call { callee := .builtin .append, args := #[s, x], argTypes := #[23, 23] }) (hse : a.eval s = .slice (some ⟨g, 0, none⟩) 0 0) (hx : a.eval x = .slice (some ad) us.length c)
  (h : ∀ A' c' w', RdP (fun b => lo b ∨ g ≤ b) w' A' 0 us → w.grownBy w' (some g) → wpList Try.prog ops Q rest (a.put o.dst (.slice A' us.length c')) w') :
  wpList Try.prog ops Q (o :: rest) a w := by
 refine wpList_plain hgd fun K hK => ?_
 obtain ⟨A', c', w', hrun, h2, h3⟩ := run_append_nodeR hg hlo hgw ht hlen ad c hc o.type
 unfold Oper.wp execOp
 simp only [ho, resolve, invoke, builtin, Sem.run_bind, Sem.run_pure, Result.andThen_ok, List.map_toArray, List.map_cons, List.map_nil, hse, hx, hrun]
 exact hK _ _ (h A' c' w' h2 h3)
set_option maxHeartbeats 2000000 in
set_option maxRecDepth 100000 in
theorem l1NodeR_any {p : Nat → Prop} {w : World} {us : List Tm} {x1 : List Value} (k : Int) (ht : RdX p w us x1) (hpw : ∀ b, p b → b < w.heap.size) (hlen : us.length ≤ 1099511627776) (g c : Nat) (hb : Blk w g x1.toArray) :
  Calls Try.prog 46 #[.int .i64 k, .slice (some ⟨g, 0, none⟩) us.length c] w (GotR p w k 0 us) := by
 have hgl := hb.lt
 go_enter Try.func46, Try.ntmps46
 have H1 := hide (show ((w.alloc (.cells #[.int .i64 0, .int .i64 0, .slice none 0 0] 25)).alloc (.cells #[] 25)).heap[w.heap.size + 1]? = some (.cells #[] 25 (0, 0)) by simpa using heap_alloc_new (w.alloc (.cells #[.int .i64 0, .int .i64 0, .slice none 0 0] 25)) (.cells #[] 25))
 have H2 := hide (show RdX p ((w.alloc (.cells #[.int .i64 0, .int .i64 0, .slice none 0 0] 25)).alloc (.cells #[] 25)) us x1 from ht.keep (fun _ h => h) fun b hb _ => (Below.heap_alloc _ _ b (by have := hpw b hb; simp; omega)).trans (Below.heap_alloc _ _ b (hpw b hb)))
 have H3 := hide (show ∀ j u, x1[j]? = some u → ((w.alloc (.cells #[.int .i64 0, .int .i64 0, .slice none 0 0] 25)).alloc (.cells #[] 25)).cell? (Addr.add ⟨g, 0, none⟩ j) = some u from fun j u hj => by
  have := ((hb.alloc (.cells #[.int .i64 0, .int .i64 0, .slice none 0 0] 25)).alloc (.cells #[] 25)).at_ (i := j) (v := u) (by simpa using hj)
  rw [add_zero_]; exact this)
 go_wp2_with (at_builtin; (refine wpList_append_nodeR (us := us) (x1 := x1) (g := w.heap.size + 1) (lo := p) H1.out (fun b hb => by have := hpw b hb; omega) (by simp) H2.out hlen ⟨g, 0, none⟩ c H3.out rfl _ _ rfl rfl rfl ?_); intro A' c' w2 hfr hg2; have hT : Blk w2 w.heap.size #[.int .i64 0, .int .i64 0, .slice none 0 0] := ((Blk.new_ w 25 #[.int .i64 0, .int .i64 0, .slice none 0 0] rfl).alloc _).grown hg2 (by simp); have d0 := hT.at_ (i := 0) rfl; have d1 := hT.at_ (i := 1) rfl; have d2 := hT.at_ (i := 2) rfl; have e0 := hT.frozen 0; have e1 := hT.frozen 1; have e2 := hT.frozen 2; have hb2 : Below w.heap.size w w2 := (((Below.refl _ _).alloc (Nat.le_refl _) _).alloc (by simp) _).trans ⟨hg2.os, hg2.tape, hg2.output, hg2.size, fun b hb => hg2.block b (by simp; omega) (fun e => by injection e with e; omega)⟩)
 have hzz : ¬ (p w.heap.size ∨ w.heap.size + 1 ≤ w.heap.size) := fun h => h.elim (fun h => by have := hpw _ h; omega) (fun h => by omega)
 refine bodyPost_ret (v := .agg #[.int .i64 k, .int .i64 0, .slice A' us.length c']) (by simp [results, Try.results46, go_sem, d0, d1, d2]) rfl ⟨A', c', rfl, by omega, ?_, ((hb2.setCell (by simp) _).setCell (by simp) _).setCell (by simp) _⟩
 exact (((hfr.setCell hzz _).setCell hzz _).setCell hzz _).mono (fun b hb => hb.imp id (fun h => by omega))
end Go.Proofs.Ytddkehjdjfmhmaa
