/-
  The statement FnNeutralApplySaid, proved.
-/
import Derived.Test.YtodkenpmhhbppaaK1
import Derived.Test.YtodkenpmhhbppaaK2
import Derived.Test.YtodkenpmhhbppaaK4
import Derived.Test.YtodkenpmhhbppaaK6
import Derived.Test.YtodkenpmhhbppaaK12
import Derived.Test.YtodkenpmhhbppaaK21
import Derived.Test.YtodkenpmhhbppaaK23
import Derived.Test.YtodkenpmhhbppaaK24
import Derived.Test.YtodkenpmhhbppaaK25
import Derived.Deep.RegionHeld3

namespace Go.Proofs.Ytodkenpmhhbppaa
open Go.RowKit
set_option linter.unusedSimpArgs false
set_option linter.unusedVariables false

theorem chgs_len (f : Int → Int → Tm) (k d : Int) : ∀ (ts : List Tm) (i : Nat), (chgs f k d i ts).length = ts.length
  | [], i => by simp [chgs]
  | t :: ts, i => by rw [chgs, List.length_cons, List.length_cons, chgs_len f k d ts (i + 1)]
theorem chgs_nth (f : Int → Int → Tm) (k d : Int) : ∀ (ts : List Tm) (i j : Nat) (h : j < ts.length) (h' : j < (chgs f k d i ts).length), (chgs f k d i ts)[j] = chg f (d + under k ((i + j : Nat) : Int)) ts[j]
  | t :: ts, i, 0, _, _ => by simp [chgs]
  | t :: ts, i, j + 1, h, h' => by
    simp only [chgs, List.getElem_cons_succ]
    rw [chgs_nth f k d ts (i + 1) j (by simpa using h), show i + 1 + j = i + (j + 1) by omega]
theorem under_main {k : Int} (h : 0 ≤ mainI k) : under k (mainI k) = 0 := by
  by_cases hk : k = 5 ∨ k = 15 ∨ k = 16 ∨ k = 12 ∨ k = 9
  · rcases hk with rfl | rfl | rfl | rfl | rfl <;> rfl
  · rw [main_no hk] at h; omega
theorem blk_range (f : Nat) : ∀ (t : Tm) (q : Nat) (v : Int), shape q t = true → blk f t = some v → 0 ≤ v ∧ v ≤ 20 := by
  induction f with
  | zero => intro t q v _ h; simp [blk] at h
  | succ f ih =>
    intro t q v hs h
    obtain ⟨k, n, ks⟩ := t
    obtain ⟨q, rfl, ha, h0, h1, hk⟩ := shape_pos hs
    by_cases hk1 : k = 1
    · subst hk1
      rw [blk_var] at h
      injection h with h
      subst h
      have : mostN 1 = 20 := rfl
      omega
    · by_cases hm : mainI k < 0
      · rw [blk_no hk1 hm] at h; cases h
      · obtain ⟨j, hj, hjl⟩ := main_lt ha (by omega)
        rw [blk_step hj hjl] at h
        exact ih _ _ _ (hk _ (List.getElem_mem hjl)) h
theorem blk_sub (x : Int) (u : Tm) (f : Nat) : ∀ (t : Tm) (q : Nat) (v : Int), shape q t = true → blk f t = some v → v ≠ x → blk f (chg (sbF x u) 0 t) = some (if x < v then v - 1 else v) := by
  induction f with
  | zero => intro t q v _ h; simp [blk] at h
  | succ f ih =>
    intro t q v hs h hv
    obtain ⟨k, n, ks⟩ := t
    obtain ⟨q, rfl, ha, _, _, hk⟩ := shape_pos hs
    by_cases hk1 : k = 1
    · subst hk1
      rw [blk_var] at h
      injection h with h
      subst h
      rw [chg, if_pos rfl, sbF, if_neg (by omega)]
      by_cases hl : x < n
      · rw [if_pos (by omega), if_pos hl, blk_var]
      · rw [if_neg (by omega), if_neg hl, blk_var]
    · by_cases hm : mainI k < 0
      · rw [blk_no hk1 hm] at h; cases h
      · obtain ⟨j, hj, hjl⟩ := main_lt ha (by omega)
        rw [blk_step hj hjl] at h
        have hlen : j < (chgs (sbF x u) k 0 0 ks).length := by rw [chgs_len]; exact hjl
        have hun := under_main (k := k) (by omega)
        rw [hj] at hun
        rw [chg, if_neg hk1, blk_step hj hlen, chgs_nth _ _ _ _ _ _ hjl, Nat.zero_add, hun]
        exact ih _ _ _ (hk _ (List.getElem_mem hjl)) h hv
theorem bvar_range {t : Tm} {v : Int} (h : bvar t = some v) : 0 ≤ v ∧ v ≤ 20 := by
  unfold bvar at h
  split at h
  · rename_i hn; exact blk_range 30 t 30 v (nf_shape hn) h
  · cases h
/-- the law -/
theorem bvar_sub {t t' u : Tm} {x v : Int} (h : bvar t = some v) (hs : substTI x u t = some t') (hv : v ≠ x) (hn : nf t' = true) : bvar t' = some (if x < v then v - 1 else v) := by
  unfold bvar at h
  split at h
  · rename_i hn0
    have := blk_sub x u 30 t 30 v (nf_shape hn0) h hv
    unfold substTI at hs
    split at hs
    · unfold substI at hs
      split at hs
      · split at hs
        · injection hs with hs
          subst hs
          rw [bvar, if_pos hn, this]
        · cases hs
      · cases hs
    · cases hs
  · cases h
end Go.Proofs.Ytodkenpmhhbppaa

namespace Go.Proofs.Ytodkenpmhhbppaa
open Go.RowKit
set_option linter.unusedSimpArgs false
set_option linter.unusedVariables false

set_option maxHeartbeats 4000000 in
set_option maxRecDepth 100000 in
theorem iCountVar_any (k n : Int) (ks : List Tm) (A : Option Addr) (c : Nat) (x : Int) (w : World) (hv : validT (.mk k n ks) = true) (hx : 0 ≤ x ∧ x ≤ 20) (hr : Rd w A 0 ks) :
    Calls Try.prog 74 #[.agg #[.int .i64 k, .int .i64 n, .slice A ks.length c], .int .i64 x] w fun e w' => e = .returned (.int .i64 (cnV x 0 (.mk k n ks) : Nat)) ∧ Below w.heap.size w w' := by
  have hsz := validT_size hv
  rw [Tm.size] at hsz
  have hsh : shape 30 (.mk k n ks) = true := by simp only [validT, Bool.and_eq_true] at hv; exact hv.1
  have hv' := hide hv
  have hsh' := hide hsh
  have q1 : decide (0 ≤ x) = true := decide_eq_true hx.1
  have q2 : decide (x ≤ 20) = true := decide_eq_true hx.2
  clear hv hsh
  obtain ⟨N, hN⟩ : ∃ N, cnV x 0 (.mk k n ks) = N := ⟨_, rfl⟩
  rw [hN]
  have hN' := hide hN
  clear hN
  go_enter Try.func74, Try.ntmps74
  go_wp2_with (first
    | (go_at_call 115; refine (countVar_any k n ks A c x _ (by omega) hsh'.out ((hr.alloc _).below hb1)).mono ?_; rw [hN'.out]; rintro e w2 ⟨rfl, hb2⟩)
    | (go_at_call 69; refine (within_any _ _ _ _).mono ?_; rintro e w9 ⟨rfl, rfl⟩)
    | (go_at_call 34; refine (iTermValid_any k n ks A c _ (by omega) (hr.alloc _)).mono ?_; rw [hv'.out]; rintro e w1 ⟨rfl, hb1⟩; have hX := (Blk.new_ w 25 #[.int .i64 k, .int .i64 n, .slice A ks.length c] rfl).keep hb1; obtain ⟨x0, x1, x2⟩ := hX.three))
  go_ret
  exact ⟨rfl, (((Below.refl _ _).alloc (Nat.le_refl _) _).trans (hb1.mono (by simp))).trans (hb2.mono (by have := hb1.size; simp at this; omega))⟩
set_option maxHeartbeats 4000000 in
set_option maxRecDepth 100000 in
theorem iFreeAt_any (k n : Int) (ks : List Tm) (A : Option Addr) (c : Nat) (x : Int) (w : World) (hv : validT (.mk k n ks) = true) (hx : 0 ≤ x ∧ x ≤ 20) (hr : Rd w A 0 ks) :
    Calls Try.prog 30 #[.agg #[.int .i64 k, .int .i64 n, .slice A ks.length c], .int .i64 x] w fun e w' => e = .returned (.bool (decide (0 < cnV x 0 (.mk k n ks)))) ∧ Below w.heap.size w w' := by
  have hc := hide (fun (w : World) hr => iCountVar_any k n ks A c x w hv hx hr)
  generalize cnV x 0 (.mk k n ks) = N at *
  clear hv
  go_enter Try.func30, Try.ntmps30
  go_wp2_with (go_at_call 74; refine (hc.out _ (hr.alloc _)).mono ?_; rintro e w2 ⟨rfl, hb2⟩)
  go_ret
  exact ⟨ret_bool (by simp), ((Below.refl _ _).alloc (Nat.le_refl _) _).trans (hb2.mono (by simp))⟩
end Go.Proofs.Ytodkenpmhhbppaa

namespace Go.Proofs.Ytodkenpmhhbppaa
open Go.RowKit
set_option linter.unusedSimpArgs false
set_option linter.unusedVariables false

/-- the blocking variable is free -/
theorem blk_free (f : Nat) : ∀ (t : Tm) (q : Nat) (v : Int), shape q t = true → blk f t = some v → 0 < cnV v 0 t := by
  induction f with
  | zero => intro t q v _ h; simp [blk] at h
  | succ f ih =>
    intro t q v hs h
    obtain ⟨k, n, ks⟩ := t
    obtain ⟨q, rfl, ha, h0, h1, hk⟩ := shape_pos hs
    by_cases hk1 : k = 1
    · subst hk1
      rw [blk_var] at h
      injection h with h
      subst h
      rw [cnV, if_pos ⟨rfl, h0, by omega⟩]
      omega
    · by_cases hm : mainI k < 0
      · rw [blk_no hk1 hm] at h; cases h
      · obtain ⟨j, hj, hjl⟩ := main_lt ha (by omega)
        rw [blk_step hj hjl] at h
        have h2 := ih _ _ _ (hk _ (List.getElem_mem hjl)) h
        have hun := under_main (k := k) (by omega)
        rw [hj] at hun
        have h3 := cnVL_take v k 0 hjl
        rw [hun, Int.add_zero] at h3
        have h4 : cnVL v k 0 0 ks = cnVL v k 0 0 (ks.take (j + 1)) + cnVL v k 0 (0 + (ks.take (j + 1)).length) (ks.drop (j + 1)) := by
          rw [← cnVL_append, List.take_append_drop]
        rw [cnV]
        omega
theorem formOf_law (t : Tm) : (bvar t).isSome = (formOf t == 6) ∧ (formOf t ≠ 0 → nf t = true) ∧ (∀ v, bvar t = some v → validT t = true ∧ 0 < cnV v 0 t) := by
  unfold bvar formOf
  by_cases hn : nf t = true
  · rw [if_pos hn, if_pos hn]
    refine ⟨?_, fun _ => hn, fun v hv => ⟨by simp only [nf, Bool.and_eq_true] at hn; exact hn.1, blk_free 30 t 30 v (nf_shape hn) hv⟩⟩
    cases hb : blk 30 t with
    | none =>
      have := formC_lt t.k
      simp
      omega
    | some v => rfl
  · rw [if_neg hn, if_neg hn]
    exact ⟨rfl, fun h => absurd rfl h, fun v hv => by cases hv⟩
end Go.Proofs.Ytodkenpmhhbppaa

namespace Go.Proofs.Ytodkenpmhhbppaa
open Go.RowKit
set_option linter.unusedSimpArgs false
set_option linter.unusedVariables false

theorem blk_enough : ∀ (q : Nat) (t : Tm) (f : Nat), shape q t = true → q ≤ f → blk f t = blk q t := by
  intro q
  induction q with
  | zero => intro t f h _; simp [shape] at h
  | succ q ih =>
    intro t f h hf
    obtain ⟨f, rfl⟩ : ∃ f', f = f' + 1 := ⟨f - 1, by omega⟩
    obtain ⟨k, n, ks⟩ := t
    obtain ⟨q', e, ha, h0, h1, hk⟩ := shape_pos h
    have e : q = q' := by omega
    subst e
    by_cases hk1 : k = 1
    · subst hk1; rw [blk_var, blk_var]
    · by_cases hm : mainI k < 0
      · rw [blk_no hk1 hm, blk_no hk1 hm]
      · obtain ⟨j, hj, hjl⟩ := main_lt ha (by omega)
        rw [blk_step hj hjl, blk_step hj hjl]
        exact ih _ _ (hk _ (List.getElem_mem hjl)) (by omega)
theorem neut_app {k n : Int} {ks : List Tm} {v : Int} (h : bvar (.mk k n ks) = some v) (hx : validT (.mk 5 0 [.mk k n ks, .mk 7 0 []]) = true) : bvar (.mk 5 0 [.mk k n ks, .mk 7 0 []]) = some v := by
  unfold bvar at h
  split at h
  · rename_i hn
    have hs29 : shape 29 (.mk k n ks) = true := by
      obtain ⟨q, e, _, _, _, hk⟩ := shape_pos (validT_shape hx)
      have e : q = 29 := by omega
      subst e
      exact hk _ (by simp)
    have hno : k ≠ 4 := by rintro rfl; rw [blk_form (by unfold isForm; omega)] at h; cases h
    have hnr : nrm (.mk k n ks) = true := by simp only [nf, Bool.and_eq_true] at hn; exact hn.2
    have hr : rdx 5 [.mk k n ks, .mk 7 0 []] = 0 := by simp [rdx, kat, Tm.k, hno]
    have hnf : nf (.mk 5 0 [.mk k n ks, .mk 7 0 []]) = true := by
      rw [nf, hx, Bool.true_and, nrm, nrms, nrms, nrms, hnr, hr]
      rfl
    rw [bvar, if_pos hnf, blk_step (j := 0) rfl (by simp)]
    show blk 29 (.mk k n ks) = some v
    rw [← h, blk_enough 29 _ 30 hs29 (by omega)]
  · cases h
theorem neut_fst {k n : Int} {ks : List Tm} {v : Int} (h : bvar (.mk k n ks) = some v) (hx : validT (.mk 15 0 [.mk k n ks]) = true) : bvar (.mk 15 0 [.mk k n ks]) = some v := by
  unfold bvar at h
  split at h
  · rename_i hn
    have hs29 : shape 29 (.mk k n ks) = true := by
      obtain ⟨q, e, _, _, _, hk⟩ := shape_pos (validT_shape hx)
      have e : q = 29 := by omega
      subst e
      exact hk _ (by simp)
    have hno : k ≠ 14 := by rintro rfl; rw [blk_form (by unfold isForm; omega)] at h; cases h
    have hnr : nrm (.mk k n ks) = true := by simp only [nf, Bool.and_eq_true] at hn; exact hn.2
    have hr : rdx 15 [.mk k n ks] = 0 := by simp [rdx, kat, Tm.k, hno]
    have hnf : nf (.mk 15 0 [.mk k n ks]) = true := by
      rw [nf, hx, Bool.true_and, nrm, nrms, nrms, hnr, hr]
      rfl
    rw [bvar, if_pos hnf, blk_step (j := 0) rfl (by simp)]
    show blk 29 (.mk k n ks) = some v
    rw [← h, blk_enough 29 _ 30 hs29 (by omega)]
  · cases h
end Go.Proofs.Ytodkenpmhhbppaa

namespace Go.Proofs.Ytodkenpmhhbppaa
open Go.RowKit
set_option linter.unusedSimpArgs false
set_option linter.unusedVariables false

set_option maxHeartbeats 8000000 in
set_option maxRecDepth 100000 in
theorem lawNeutralApply_of (hN : NatOk) (hC : Contract3) (bs : List Int) (A : Option Addr) (c : Nat) (w : World) (hl : bs.length ≤ 9223372036854775807) (hc : bs.length ≤ c) (hr : RdY w A bs) :
    Calls Try.prog 12 #[.slice A bs.length c] w fun e w' => e = .returned (.bool true) ∧ Below w.heap.size w w' := by
  by_cases hbig : 1048576 < bs.length
  · go_enter Try.func12, Try.ntmps12
    go_wp2_with fail
    go_ret
    exact ⟨rfl, Below.refl _ _⟩
  · go_enter Try.func12, Try.ntmps12
    go_wp2_with (go_at_call 42; refine (drawNeutral_any hN hC bs A c _ hl hc hr).mono ?_; rintro e w1 ⟨k, n, ks, A1, c1, rfl, hlk, hsk, hrk, hb1⟩)
    refine name_calls ?_
    intro w2 hw2
    have hX : Blk w2 w1.heap.size #[.int .i64 k, .int .i64 n, .slice A1 ks.length c1] := by rw [hw2]; exact (Blk.new_ _ _ _ rfl)
    have rk : Rd w2 A1 0 ks := by rw [hw2]; exact (hrk.rd.alloc _)
    have gg : Below w.heap.size w w2 := by rw [hw2]; exact (hb1.alloc hb1.size _)
    clear hw2
    obtain ⟨x0, x1, x2⟩ := hX.three
    obtain ⟨l1, _, _⟩ := formOf_law (.mk k n ks)
    have tok0 := trivial
    cases hb0 : bvar (.mk k n ks) with
    | none =>
      have hG := hide (show (bvar (.mk k n ks)).getD 0 = 0 by rw [hb0]; rfl)
      have hS := hide (show (bvar (.mk k n ks)).isSome = false by rw [hb0]; rfl)
      have hb6' := hide (l1.symm.trans hS.out)
      clear hb0 l1
      go_wp2_with (first
        | (go_at_call 43; have _t := tok4; refine (sNeutral_any k n ks A1 c1 _ (by omega) rk).mono ?_; rw [hb6'.out]; rintro e w9 ⟨rfl, hb9⟩; clear tok4 _t; replace hX := hX.keep hb9; clear x0 x1 x2; obtain ⟨x0, x1, x2⟩ := hX.three; replace gg := gg.trans (hb9.mono gg.size); replace rk := rk.below hb9; have lx9 := hX.lt; have tok5 := trivial)
        | (go_at_call 43; have _t := tok3; refine (sNeutral_any k n ks A1 c1 _ (by omega) rk).mono ?_; rw [hb6'.out]; rintro e w4 ⟨rfl, hb4⟩; clear tok3 _t; replace hX := hX.keep hb4; clear x0 x1 x2; obtain ⟨x0, x1, x2⟩ := hX.three; replace gg := gg.trans (hb4.mono gg.size); replace rk := rk.below hb4; have lx4 := hX.lt; have tok4 := trivial)
        | (go_at_call 22; have _t := tok0; refine (iBlockingVar_any k n ks A1 c1 _ (by omega) rk).mono ?_; rw [hG.out, hS.out]; rintro e w3 ⟨rfl, hb3⟩; clear tok0 _t; replace hX := hX.keep hb3; clear x0 x1 x2; obtain ⟨x0, x1, x2⟩ := hX.three; replace gg := gg.trans (hb3.mono gg.size); replace rk := rk.below hb3; have tok3 := trivial))
      go_ret
      exact ⟨rfl, gg⟩
    | some v =>
      have hG := hide (show (bvar (.mk k n ks)).getD 0 = v by rw [hb0]; rfl)
      have hS := hide (show (bvar (.mk k n ks)).isSome = true by rw [hb0]; rfl)
      have hb6' := hide (l1.symm.trans hS.out)
      have hb0' := hide hb0
      clear hb0 l1
      go_wp2_with (first
        | (go_at_call 43; have _t := tok3; refine (sNeutral_any k n ks A1 c1 _ (by omega) rk).mono ?_; rw [hb6'.out]; rintro e w4 ⟨rfl, hb4⟩; clear tok3 _t; replace hX := hX.keep hb4; clear x0 x1 x2; obtain ⟨x0, x1, x2⟩ := hX.three; replace gg := gg.trans (hb4.mono gg.size); replace rk := rk.below hb4; have lx4 := hX.lt; have tok4 := trivial)
        | (go_at_call 22; have _t := tok0; refine (iBlockingVar_any k n ks A1 c1 _ (by omega) rk).mono ?_; rw [hG.out, hS.out]; rintro e w3 ⟨rfl, hb3⟩; clear tok0 _t; replace hX := hX.keep hb3; clear x0 x1 x2; obtain ⟨x0, x1, x2⟩ := hX.three; replace gg := gg.trans (hb3.mono gg.size); replace rk := rk.below hb3; have tok3 := trivial))
      refine name_calls ?_
      intro wz hwz
      have hS2 : Blk wz w4.heap.size #[.int .i64 k, .int .i64 n, .slice A1 ks.length c1, .int .i64 7, .int .i64 0, .slice none 0 0] := by rw [hwz]; exact (((Blk.new_ _ _ _ rfl).alloc _).alloc _).alloc _
      have hXx : Blk wz (w4.heap.size + 1) #[.int .i64 5, .int .i64 0, .slice (some ⟨w4.heap.size, 0, none⟩) 2 2] := by rw [hwz]; exact ((Blk.new_ _ _ _ (by simp)).alloc _).alloc _
      have hS1 : Blk wz (w4.heap.size + 1 + 1) #[.int .i64 k, .int .i64 n, .slice A1 ks.length c1] := by rw [hwz]; exact (Blk.new_ _ _ _ (by simp)).alloc _
      have hY : Blk wz (w4.heap.size + 1 + 1 + 1) #[.int .i64 15, .int .i64 0, .slice (some ⟨w4.heap.size + 1 + 1, 0, none⟩) 1 1] := by rw [hwz]; exact Blk.new_ _ _ _ (by simp)
      have rkz : Rd wz A1 0 ks := by rw [hwz]; exact (((rk.alloc _).alloc _).alloc _).alloc _
      have gz : Below w.heap.size w wz := by rw [hwz]; exact (((gg.alloc gg.size _).alloc (by have := gg.size; simp; omega) _).alloc (by have := gg.size; simp; omega) _).alloc (by have := gg.size; simp; omega) _
      clear hwz
      have rx : Rd wz (some ⟨w4.heap.size, 0, none⟩) 0 [.mk k n ks, .mk 7 0 []] := Rd.cons_iff.2 ⟨⟨_, 0, rfl, RdC.iff.2 ⟨hS2.at_ (i := 0) rfl, hS2.at_ (i := 1) rfl, A1, c1, hS2.at_ (i := 2) rfl, hlk, rkz⟩⟩, Rd.cons_iff.2 ⟨⟨_, 0, rfl, RdC.iff.2 ⟨hS2.at_ (i := 3) rfl, hS2.at_ (i := 4) rfl, none, 0, hS2.at_ (i := 5) rfl, by simp, Rd.nil⟩⟩, Rd.nil⟩⟩
      have ry : Rd wz (some ⟨w4.heap.size + 1 + 1, 0, none⟩) 0 [.mk k n ks] := Rd.cons_iff.2 ⟨⟨_, 0, rfl, RdC.iff.2 ⟨hS1.at_ (i := 0) rfl, hS1.at_ (i := 1) rfl, A1, c1, hS1.at_ (i := 2) rfl, hlk, rkz⟩⟩, Rd.nil⟩
      clear x0 x1 x2
      obtain ⟨x0, x1, x2⟩ := hXx.three
      obtain ⟨y0, y1, y2⟩ := hY.three
      have tz0 := trivial
      obtain ⟨gx, hgx⟩ : ∃ g, (bvar (.mk 5 0 [.mk k n ks, .mk 7 0 []])).getD 0 = g := ⟨_, rfl⟩
      obtain ⟨sx, hsx⟩ : ∃ g, (bvar (.mk 5 0 [.mk k n ks, .mk 7 0 []])).isSome = g := ⟨_, rfl⟩
      obtain ⟨gy, hgy⟩ : ∃ g, (bvar (.mk 15 0 [.mk k n ks])).getD 0 = g := ⟨_, rfl⟩
      obtain ⟨sy, hsy⟩ : ∃ g, (bvar (.mk 15 0 [.mk k n ks])).isSome = g := ⟨_, rfl⟩
      have hGx := hide hgx
      have hSx := hide hsx
      have hGy := hide hgy
      have hSy := hide hsy
      have e1 : validT (.mk 5 0 [.mk k n ks, .mk 7 0 []]) = true → gx = v ∧ sx = true := fun h => by have := neut_app hb0'.out h; rw [this] at hgx hsx; exact ⟨hgx.symm, hsx.symm⟩
      have e2 : validT (.mk 15 0 [.mk k n ks]) = true → gy = v ∧ sy = true := fun h => by have := neut_fst hb0'.out h; rw [this] at hgy hsy; exact ⟨hgy.symm, hsy.symm⟩
      clear hgx hsx hgy hsy
      cases hvx : validT (.mk 5 0 [.mk k n ks, .mk 7 0 []]) with
      | false =>
        have hVx := hide hvx
        cases hvy : validT (.mk 15 0 [.mk k n ks]) with
        | false =>
          have hVy := hide hvy
          clear hvx hvy e1 e2
          go_wp2_with (first
            | (go_at_call 34; have _t := tz3; refine (iTermValid_any 15 0 [.mk k n ks] _ 1 _ (by simp [sizes, Tm.size]; omega) ry).mono ?_; rw [hVy.out]; rintro e w8 ⟨rfl, hb8⟩; clear tz3 _t; replace gz := gz.trans (hb8.mono gz.size))
            | (go_at_call 34; have _t := tz2; refine (iTermValid_any 5 0 [.mk k n ks, .mk 7 0 []] _ 2 _ (by simp [sizes, Tm.size]; omega) rx).mono ?_; rw [hVx.out]; rintro e w7 ⟨rfl, hb7⟩; clear tz2 _t; replace hXx := hXx.keep hb7; replace hY := hY.keep hb7; clear x0 x1 x2 y0 y1 y2; obtain ⟨x0, x1, x2⟩ := hXx.three; obtain ⟨y0, y1, y2⟩ := hY.three; replace gz := gz.trans (hb7.mono gz.size); replace rx := rx.below hb7; replace ry := ry.below hb7; have tz3 := trivial)
            | (go_at_call 22; have _t := tz1; refine (iBlockingVar_any 15 0 [.mk k n ks] _ 1 _ (by simp [sizes, Tm.size]; omega) ry).mono ?_; rw [hGy.out, hSy.out]; rintro e w6 ⟨rfl, hb6⟩; clear tz1 _t; replace hXx := hXx.keep hb6; replace hY := hY.keep hb6; clear x0 x1 x2 y0 y1 y2; obtain ⟨x0, x1, x2⟩ := hXx.three; obtain ⟨y0, y1, y2⟩ := hY.three; replace gz := gz.trans (hb6.mono gz.size); replace rx := rx.below hb6; replace ry := ry.below hb6; have tz2 := trivial)
            | (go_at_call 22; have _t := tz0; refine (iBlockingVar_any 5 0 [.mk k n ks, .mk 7 0 []] _ 2 _ (by simp [sizes, Tm.size]; omega) rx).mono ?_; rw [hGx.out, hSx.out]; rintro e w5 ⟨rfl, hb5⟩; clear tz0 _t; replace hXx := hXx.keep hb5; replace hY := hY.keep hb5; clear x0 x1 x2 y0 y1 y2; obtain ⟨x0, x1, x2⟩ := hXx.three; obtain ⟨y0, y1, y2⟩ := hY.three; replace gz := gz.trans (hb5.mono gz.size); replace rx := rx.below hb5; replace ry := ry.below hb5; have tz1 := trivial))
          go_ret
          exact ⟨rfl, gz⟩
        | true =>
          have hVy := hide hvy
          obtain ⟨rfl, rfl⟩ := e2 hvy
          clear hvx hvy e1 e2
          go_wp2_with (first
            | (go_at_call 34; have _t := tz3; refine (iTermValid_any 15 0 [.mk k n ks] _ 1 _ (by simp [sizes, Tm.size]; omega) ry).mono ?_; rw [hVy.out]; rintro e w8 ⟨rfl, hb8⟩; clear tz3 _t; replace gz := gz.trans (hb8.mono gz.size))
            | (go_at_call 34; have _t := tz2; refine (iTermValid_any 5 0 [.mk k n ks, .mk 7 0 []] _ 2 _ (by simp [sizes, Tm.size]; omega) rx).mono ?_; rw [hVx.out]; rintro e w7 ⟨rfl, hb7⟩; clear tz2 _t; replace hXx := hXx.keep hb7; replace hY := hY.keep hb7; clear x0 x1 x2 y0 y1 y2; obtain ⟨x0, x1, x2⟩ := hXx.three; obtain ⟨y0, y1, y2⟩ := hY.three; replace gz := gz.trans (hb7.mono gz.size); replace rx := rx.below hb7; replace ry := ry.below hb7; have tz3 := trivial)
            | (go_at_call 22; have _t := tz1; refine (iBlockingVar_any 15 0 [.mk k n ks] _ 1 _ (by simp [sizes, Tm.size]; omega) ry).mono ?_; rw [hGy.out, hSy.out]; rintro e w6 ⟨rfl, hb6⟩; clear tz1 _t; replace hXx := hXx.keep hb6; replace hY := hY.keep hb6; clear x0 x1 x2 y0 y1 y2; obtain ⟨x0, x1, x2⟩ := hXx.three; obtain ⟨y0, y1, y2⟩ := hY.three; replace gz := gz.trans (hb6.mono gz.size); replace rx := rx.below hb6; replace ry := ry.below hb6; have tz2 := trivial)
            | (go_at_call 22; have _t := tz0; refine (iBlockingVar_any 5 0 [.mk k n ks, .mk 7 0 []] _ 2 _ (by simp [sizes, Tm.size]; omega) rx).mono ?_; rw [hGx.out, hSx.out]; rintro e w5 ⟨rfl, hb5⟩; clear tz0 _t; replace hXx := hXx.keep hb5; replace hY := hY.keep hb5; clear x0 x1 x2 y0 y1 y2; obtain ⟨x0, x1, x2⟩ := hXx.three; obtain ⟨y0, y1, y2⟩ := hY.three; replace gz := gz.trans (hb5.mono gz.size); replace rx := rx.below hb5; replace ry := ry.below hb5; have tz1 := trivial))
          go_ret
          exact ⟨rfl, gz⟩
      | true =>
        have hVx := hide hvx
        obtain ⟨rfl, rfl⟩ := e1 hvx
        cases hvy : validT (.mk 15 0 [.mk k n ks]) with
        | false =>
          have hVy := hide hvy
          clear hvx hvy e1 e2
          go_wp2_with (first
            | (go_at_call 34; have _t := tz3; refine (iTermValid_any 15 0 [.mk k n ks] _ 1 _ (by simp [sizes, Tm.size]; omega) ry).mono ?_; rw [hVy.out]; rintro e w8 ⟨rfl, hb8⟩; clear tz3 _t; replace gz := gz.trans (hb8.mono gz.size))
            | (go_at_call 34; have _t := tz2; refine (iTermValid_any 5 0 [.mk k n ks, .mk 7 0 []] _ 2 _ (by simp [sizes, Tm.size]; omega) rx).mono ?_; rw [hVx.out]; rintro e w7 ⟨rfl, hb7⟩; clear tz2 _t; replace hXx := hXx.keep hb7; replace hY := hY.keep hb7; clear x0 x1 x2 y0 y1 y2; obtain ⟨x0, x1, x2⟩ := hXx.three; obtain ⟨y0, y1, y2⟩ := hY.three; replace gz := gz.trans (hb7.mono gz.size); replace rx := rx.below hb7; replace ry := ry.below hb7; have tz3 := trivial)
            | (go_at_call 22; have _t := tz1; refine (iBlockingVar_any 15 0 [.mk k n ks] _ 1 _ (by simp [sizes, Tm.size]; omega) ry).mono ?_; rw [hGy.out, hSy.out]; rintro e w6 ⟨rfl, hb6⟩; clear tz1 _t; replace hXx := hXx.keep hb6; replace hY := hY.keep hb6; clear x0 x1 x2 y0 y1 y2; obtain ⟨x0, x1, x2⟩ := hXx.three; obtain ⟨y0, y1, y2⟩ := hY.three; replace gz := gz.trans (hb6.mono gz.size); replace rx := rx.below hb6; replace ry := ry.below hb6; have tz2 := trivial)
            | (go_at_call 22; have _t := tz0; refine (iBlockingVar_any 5 0 [.mk k n ks, .mk 7 0 []] _ 2 _ (by simp [sizes, Tm.size]; omega) rx).mono ?_; rw [hGx.out, hSx.out]; rintro e w5 ⟨rfl, hb5⟩; clear tz0 _t; replace hXx := hXx.keep hb5; replace hY := hY.keep hb5; clear x0 x1 x2 y0 y1 y2; obtain ⟨x0, x1, x2⟩ := hXx.three; obtain ⟨y0, y1, y2⟩ := hY.three; replace gz := gz.trans (hb5.mono gz.size); replace rx := rx.below hb5; replace ry := ry.below hb5; have tz1 := trivial))
          go_ret
          exact ⟨rfl, gz⟩
        | true =>
          have hVy := hide hvy
          obtain ⟨rfl, rfl⟩ := e2 hvy
          clear hvx hvy e1 e2
          go_wp2_with (first
            | (go_at_call 34; have _t := tz3; refine (iTermValid_any 15 0 [.mk k n ks] _ 1 _ (by simp [sizes, Tm.size]; omega) ry).mono ?_; rw [hVy.out]; rintro e w8 ⟨rfl, hb8⟩; clear tz3 _t; replace gz := gz.trans (hb8.mono gz.size))
            | (go_at_call 34; have _t := tz2; refine (iTermValid_any 5 0 [.mk k n ks, .mk 7 0 []] _ 2 _ (by simp [sizes, Tm.size]; omega) rx).mono ?_; rw [hVx.out]; rintro e w7 ⟨rfl, hb7⟩; clear tz2 _t; replace hXx := hXx.keep hb7; replace hY := hY.keep hb7; clear x0 x1 x2 y0 y1 y2; obtain ⟨x0, x1, x2⟩ := hXx.three; obtain ⟨y0, y1, y2⟩ := hY.three; replace gz := gz.trans (hb7.mono gz.size); replace rx := rx.below hb7; replace ry := ry.below hb7; have tz3 := trivial)
            | (go_at_call 22; have _t := tz1; refine (iBlockingVar_any 15 0 [.mk k n ks] _ 1 _ (by simp [sizes, Tm.size]; omega) ry).mono ?_; rw [hGy.out, hSy.out]; rintro e w6 ⟨rfl, hb6⟩; clear tz1 _t; replace hXx := hXx.keep hb6; replace hY := hY.keep hb6; clear x0 x1 x2 y0 y1 y2; obtain ⟨x0, x1, x2⟩ := hXx.three; obtain ⟨y0, y1, y2⟩ := hY.three; replace gz := gz.trans (hb6.mono gz.size); replace rx := rx.below hb6; replace ry := ry.below hb6; have tz2 := trivial)
            | (go_at_call 22; have _t := tz0; refine (iBlockingVar_any 5 0 [.mk k n ks, .mk 7 0 []] _ 2 _ (by simp [sizes, Tm.size]; omega) rx).mono ?_; rw [hGx.out, hSx.out]; rintro e w5 ⟨rfl, hb5⟩; clear tz0 _t; replace hXx := hXx.keep hb5; replace hY := hY.keep hb5; clear x0 x1 x2 y0 y1 y2; obtain ⟨x0, x1, x2⟩ := hXx.three; obtain ⟨y0, y1, y2⟩ := hY.three; replace gz := gz.trans (hb5.mono gz.size); replace rx := rx.below hb5; replace ry := ry.below hb5; have tz1 := trivial))
          go_ret
          exact ⟨rfl, gz⟩
end Go.Proofs.Ytodkenpmhhbppaa

namespace Go.Proofs.Ytodkenpmhhbppaa
open Go.RowKit

theorem lawNeutralApply_any (bs : List Int) (A : Option Addr) (c : Nat) (w : World) (hl : bs.length ≤ 9223372036854775807) (hc : bs.length ≤ c) (hr : RdY w A bs) :
    Calls Try.prog 12 #[.slice A bs.length c] w fun e w' => e = .returned (.bool true) ∧ Below w.heap.size w w' :=
  lawNeutralApply_of natOk contract3 bs A c w hl hc hr
end Go.Proofs.Ytodkenpmhhbppaa

namespace Go.Proofs.Ytodkenpmhhbppaa.lNeutralApply
open Go.ChangeShapes Go.WideShapes Go.ChangeAt Go.RowKit
set_option linter.unusedVariables false
set_option linter.unusedSimpArgs false

theorem own : ownKnob Try.prog.godebug = none := by kernel_rfl
theorem laidOut : laidOutB Try.prog = true := by kernel_rfl

set_option maxRecDepth 100000 in
theorem lifted (os : Os) (started : os.Started) (H : Type) (enc : TypeId × Value → H) :
    ReturnsInHanded {} Try.checked os 12 .any (Rows.fnNeutralApplySpec.pre6 enc Try.prog Try.f12 Rows.fnNeutralApplyRow.domain false) (Rows.fnNeutralApplySpec.post enc Try.prog Try.f12 false true false false) := by
  refine returnsInHanded_of_change (C := Try.checked) own started (by kernel_rfl) Try.func12
    (ChangeSpec.witness6 (enc := enc) (C := Try.checked) false ⟨#[], #[.slice none 0 0], []⟩ 8 (by kernel_rfl) (by kernel_rfl) (by kernel_rfl) (by kernel_rfl)) ?_
  intro W base args ds gs before hval0 hW hcnd _
  have hval : ∀ (j : Nat) t v, Try.f12.params[j]? = some t → args[j]? = some v → Value.okWide Try.prog W .any base t v := hval0
  have hW' := hW
  obtain ⟨p, q, hA0, hV, rfl, hfz, hnd⟩ := hW
  have hA : DataW.TrodAll enc Try.prog W 0 (fun _ => true) true Try.f12.params.toList args.toList ds p := hA0
  rw [Try.params12] at hA hval
  obtain ⟨v0, vs0, d0, ds0, p0, q0, hargs0, rfl, rfl, h0, r0⟩ := trodAll_cons hA
  obtain ⟨rfl, rfl, rfl⟩ := trodAll_nil r0
  obtain rfl : args = #[v0] := by cases args; simp_all
  obtain ⟨rfl, rfl⟩ := trodVars_none hV
  obtain ⟨xs0, P0, cp0, rfl, hl0, hc0, hr0⟩ := open_code (hval 0 22 v0 rfl rfl) h0
  clear hA0 hval0
  simp only [List.append_nil] at hW' hfz
  have hlt : ∀ x ∈ p0, x.block < W.heap.size := fun x hx => hW'.lt x hx
  refine (lawNeutralApply_any xs0 P0 cp0 W hl0 hc0 hr0).mono fun e W' ⟨he, hb⟩ => ?_
  subst he
  exact ⟨_, rfl, post_below (pa := p0) (pv := []) hW' (fun _ _ _ => (trodAll_cons_mk (shut_bool Try.underlying4 _) trodAll_mk0)) (fun sp hsp => by
      have := (trodAll_cons_mk (WideElems.Trod_stays (sp' := sp) laidOut (by kernel_rfl) (of_decide_eq_true (by kernel_rfl)) h0 (fun x hx => hb.same (hlt x (by simp [hx]))) (fun x hx => hsp x (by simp [hx]))) trodAll_mk0)
      show DataW.TrodAll enc Try.prog W' 0 sp true Try.f12.params.toList [_] [d0] (p0)
      rw [Try.params12]
      simpa using this) (fun _ _ => rfl) (by simp)
    hb (ok_one (by kernel_rfl) rfl (okWide_bool_mk Try.underlying4 _))⟩

theorem holds : Rows.FnNeutralApplySaid :=
  OpenClaim.holds_of_wide 12 Try.f12 rfl rfl rfl rfl rfl rfl rfl ⟨rfl, rfl, rfl, rfl, rfl⟩ rfl rfl rfl rfl rfl (by kernel_rfl) Try.func12 (by kernel_rfl)
    (of_decide_eq_true (by kernel_rfl)) (by unfold Func.isWrapper; first | (rw [if_pos (by decide +kernel)]; kernel_rfl) | (rw [if_neg (by decide +kernel)]; exact ⟨rfl, rfl⟩))
    (fun os started H enc _ => lifted os started H enc)
end Go.Proofs.Ytodkenpmhhbppaa.lNeutralApply
