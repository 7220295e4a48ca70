/-
  Contracts of the functions that the law reaches, and plain lemmas. No condition.
-/
import Derived.Test.YthgmofdfecioaaaGreatDoorK27
namespace Go.Proofs.YthgmofdfecioaaaGreatDoor
set_option linter.unusedSimpArgs false
set_option linter.unusedVariables false
open Go.RowKit
theorem sort_valid {x : Int} (h0 : 0 ≤ x) (h3 : x ≤ 3) : validT (.mk 2 x []) = true := by
  rcases (show x = 0 ∨ x = 1 ∨ x = 2 ∨ x = 3 by omega) with rfl | rfl | rfl | rfl <;> decide +kernel
theorem nat_valid : validT natT = true := by decide +kernel
theorem shiftI_valid {b c : Int} {t u : Tm} (h : shiftI b c t = some u) : validT u = true := by
  unfold shiftI at h
  split at h
  · split at h
    · injection h with h; subst h; assumption
    · cases h
  · cases h
theorem lvS_range {o : Option Tm} {l : Int} (h : lvS o = some l) : 0 ≤ l ∧ l ≤ 3 := by
  obtain ⟨s3, h1⟩ := lvS_inv h
  obtain ⟨n3, s3', he, hv⟩ := fmS_inv h1
  injection he with _ e2 _
  subst e2
  have := (validT_arity hv).2
  have h3 : mostN 2 = 3 := rfl
  omega
theorem judS_valid {rec_ : Tm → Option Tm} {ctx : List Tm} {t s : Tm} {ty : Nat → Option Tm} (h : judS rec_ ctx t ty = some s) (hv : validT t = true) : validT s = true := by
  obtain ⟨k, n, ks⟩ := t
  have har := validT_arity hv
  unfold judS at h
  by_cases e1 : k = 1
  · rw [if_pos (show (Tm.mk k n ks).k = 1 from e1)] at h
    split at h
    · exact shiftI_valid h
    · cases h
  rw [if_neg (show ¬ (Tm.mk k n ks).k = 1 from e1)] at h
  by_cases e2 : k = 2
  · rw [if_pos (show (Tm.mk k n ks).k = 2 from e2)] at h
    subst e2
    have h3 : mostN 2 = 3 := rfl
    split at h
    · cases h
    · rename_i hn
      have hn3 : n ≠ 3 := hn
      injection h with h; subst h; exact sort_valid (x := n + 1) (by omega) (by omega)
  rw [if_neg (show ¬ (Tm.mk k n ks).k = 2 from e2)] at h
  by_cases e6 : k = 6
  · rw [if_pos (show (Tm.mk k n ks).k = 6 from e6)] at h
    injection h with h; subst h; exact sort_valid (by omega) (by omega)
  rw [if_neg (show ¬ (Tm.mk k n ks).k = 6 from e6)] at h
  by_cases e7 : k = 7
  · rw [if_pos (show (Tm.mk k n ks).k = 7 from e7)] at h
    injection h with h; subst h; exact nat_valid
  rw [if_neg (show ¬ (Tm.mk k n ks).k = 7 from e7)] at h
  by_cases e8 : k = 8
  · rw [if_pos (show (Tm.mk k n ks).k = 8 from e8)] at h
    split at h
    · injection h with h; subst h; exact nat_valid
    · cases h
  rw [if_neg (show ¬ (Tm.mk k n ks).k = 8 from e8)] at h
  by_cases e3 : k = 3
  · rw [if_pos (show (Tm.mk k n ks).k = 3 from e3)] at h
    split at h
    · cases h
    · rename_i i hi
      split at h
      · cases h
      · rename_i j hj
        have h1 := lvS_range hi
        have h2 := lvS_range hj
        injection h with h; subst h
        split
        · exact sort_valid h2.1 h2.2
        · exact sort_valid h1.1 h1.2
  rw [if_neg (show ¬ (Tm.mk k n ks).k = 3 from e3)] at h
  by_cases e4 : k = 4
  · rw [if_pos (show (Tm.mk k n ks).k = 4 from e4)] at h
    split at h
    · cases h
    · split at h
      · cases h
      · split at h
        · cases h
        · rename_i o ho
          split at h
          · injection h with h; subst h; exact vO_valid ho
          · cases h
  rw [if_neg (show ¬ (Tm.mk k n ks).k = 4 from e4)] at h
  by_cases e5 : k = 5
  · rw [if_pos (show (Tm.mk k n ks).k = 5 from e5)] at h
    split at h
    · cases h
    · split at h
      · exact substI_valid h
      · cases h
  rw [if_neg (show ¬ (Tm.mk k n ks).k = 5 from e5)] at h
  by_cases e9 : k = 9
  · rw [if_pos (show (Tm.mk k n ks).k = 9 from e9)] at h
    split at h
    · exact vO_valid h
    · cases h
  rw [if_neg (show ¬ (Tm.mk k n ks).k = 9 from e9)] at h
  by_cases e10 : k = 10
  · rw [if_pos (show (Tm.mk k n ks).k = 10 from e10)] at h
    split at h
    · cases h
    · rename_i i hi
      have h1 := lvS_range hi
      split at h
      · injection h with h; subst h; exact sort_valid h1.1 h1.2
      · cases h
  rw [if_neg (show ¬ (Tm.mk k n ks).k = 10 from e10)] at h
  by_cases e11 : k = 11
  · rw [if_pos (show (Tm.mk k n ks).k = 11 from e11)] at h
    split at h
    · cases h
    · split at h
      · exact vO_valid h
      · cases h
  rw [if_neg (show ¬ (Tm.mk k n ks).k = 11 from e11)] at h
  by_cases e12 : k = 12
  · rw [if_pos (show (Tm.mk k n ks).k = 12 from e12)] at h
    split at h
    · cases h
    · split at h
      · exact vO_valid h
      · cases h
  rw [if_neg (show ¬ (Tm.mk k n ks).k = 12 from e12)] at h
  cases h
theorem infS_valid {N : Nat} {ctx : List Tm} {t s : Tm} (h : infS N ctx t = some s) (hv : validT t = true) : validT s = true := by
  cases N with
  | zero => cases h
  | succ N => exact judS_valid h hv
theorem infS_default (N : Nat) (ctx : List Tm) : infS N ctx default = none := by
  cases N with
  | zero => rfl
  | succ N => rfl
theorem kidT_get {ks : List Tm} {i : Nat} (h : i < ks.length) : kidT ks i = ks[i] := by simp [kidT, List.getD, List.getElem?_eq_getElem h]
theorem tyS_lt {N : Nat} {ctx : List Tm} {k n : Int} {ks : List Tm} {i : Nat} {s : Tm} (h : tyS (infS N) ctx (.mk k n ks) i = some s) : i < ks.length := by
  by_cases hi : i < ks.length
  · exact hi
  · have hk : kidT ks i = default := by simp [kidT, List.getD, List.getElem?_eq_none (Nat.le_of_not_lt hi)]
    unfold tyS at h
    simp only [Tm.k, Tm.ks, hk, infS_default] at h
    split at h
    · cases h
    · split at h <;> cases h
/-- what is wanted of infer at smaller fuel -/
def InfO (N : Nat) : Prop := ∀ (ctx : List Tm) (k n : Int) (ks : List Tm) (kr nr : Int) (sr : List Tm), infS N ctx (.mk k n ks) = some (.mk kr nr sr) → validT (.mk k n ks) = true → (∀ u, u ∈ ctx → validT u = true) → ctx.length ≤ 20 →
  ∀ (C : Option Addr) (cc : Nat) (A : Option Addr) (c : Nat) (w : World), Rd w C 0 ctx → Rd w A 0 ks → Calls Tryz.prog 71 #[.slice C ctx.length cc, .agg #[.int .i64 k, .int .i64 n, .slice A ks.length c]] w (GotI w kr nr sr)
set_option maxRecDepth 100000 in
set_option maxHeartbeats 8000000 in
theorem iinfer1_any {N : Nat} (ih : InfO N) (ctx : List Tm) (C : Option Addr) (cc : Nat) (k n : Int) (ks : List Tm) (A : Option Addr) (c b2 b3 : Nat) (w : World) (hv : validT (.mk k n ks) = true) (hvc : ∀ u, u ∈ ctx → validT u = true) (hm : ctx.length ≤ 20) (hB2 : Blk w b2 #[.slice C ctx.length cc]) (hB3 : Blk w b3 #[.int .i64 k, .int .i64 n, .slice A ks.length c]) (hrc : Rd w C 0 ctx) (hra : Rd w A 0 ks) :
    TyOk b2 b3 w (tyS (infS N) ctx (.mk k n ks)) := by
  intro i kr nr sr hi ht w' hw'
  have hi2 := tyS_lt ht
  have hrc' := hrc.below hw'
  have hra' := hra.below hw'
  have hB2' := hB2.keep hw'
  have hB3' := hB3.keep hw'
  have lb2 := hB2'.lt
  have lb3 := hB3'.lt
  have z0 := hB2'.at_ (i := 0) rfl
  obtain ⟨b, off, k1, n1, ks1, A1, c1, rfl, hkj, i1, i2, i3, hl1, hr1⟩ := hra'.at_ hi2
  obtain ⟨x0, x1, x2⟩ := hB3'.three
  have lb := World.block_lt_of_cell? _ _ i1
  have hv1 := validT_kid hv (List.getElem_mem hi2)
  rw [hkj] at hv1
  have hil : (i : Int) < (ks.length : Int) := by omega
  unfold tyS at ht
  simp only [Tm.k, Tm.ks, kidT_get hi2, hkj] at ht
  by_cases hu0 : under k i = 0
  · rw [if_pos hu0] at ht
    have hvr := hide (infS_valid ht hv1)
    have hih := hide (fun (w : World) (h1 : Rd w C 0 ctx) (h2 : Rd w A1 0 ks1) => ih ctx k1 n1 ks1 kr nr sr ht hv1 hvc hm C cc A1 c1 w h1 h2)
    have hu := hide hu0
    clear hu0 ht hkj
    go_enter Tryz.func95, Tryz.ntmps95
    go_wp2_with (first
      | (go_at_call 71; have _t := tok1; refine (hih.out _ (hrc'.below g1) (hr1.below g1)).mono ?_; rintro e w2 ⟨A9, c9, rfl, hl9, r9, hb2⟩; have hZ2 := hZ1.keep hb2; have g2 := g1.trans (hb2.mono g1.size); obtain ⟨d0, d1, d2⟩ := hZ2.three; have e0 := hZ2.frozen 0; have e1 := hZ2.frozen 1; have e2 := hZ2.frozen 2)
      | (go_at_call 96; refine (iopc_no C ctx.length cc k n _ ks.length c i _ hu.out).mono ?_; rintro e w1 ⟨rfl, hb1⟩; have hZ1 : Blk w1 w'.heap.size #[.int .i64 0, .int .i64 0, .slice none 0 0] := (Blk.new_ _ 27 _ rfl).keep hb1; have g1 : Below w'.heap.size w' w1 := ((Below.refl _ _).alloc (Nat.le_refl _) _).trans (hb1.mono (by simp)); have y2 := (Keeps.of_below g1) _ _ x2; have y0 := (Keeps.of_below g1) _ _ i1; have y1 := (Keeps.of_below g1) _ _ i2; have y3 := (Keeps.of_below g1) _ _ i3; have tok1 := trivial))
    refine bodyPost_ret (v := .tuple #[.agg #[.int .i64 kr, .int .i64 nr, .slice A9 sr.length c9], .int .i64 0]) (by simp [results, Tryz.results95, go_sem, d0, d1, d2]) rfl ⟨A9, c9, rfl, hl9, rd_set0 hZ2 hvr.out r9 _ _ _, ?_⟩
    exact ((g2.setCell (by simp) _).setCell (by simp) _).setCell (by simp) _
  · rw [if_neg hu0] at ht
    have hu1 : under k i = 1 := by have := under_le k i; omega
    have hun : (i : Int) = 1 ∧ binds k = true := by unfold under at hu1; split at hu1 <;> simp_all
    obtain rfl : i = 1 := by omega
    split at ht
    · cases ht
    rename_i hm20
    obtain ⟨a0, ts, rfl⟩ : ∃ a0 ts, ks = a0 :: ts := by cases ks with | nil => simp at hi2 | cons a ts => exact ⟨a, ts, rfl⟩
    obtain ⟨ka, na, sa⟩ := a0
    have hk0 : kidT (Tm.mk ka na sa :: ts) 0 = .mk ka na sa := rfl
    rw [hk0] at ht
    have hvr := hide (infS_valid ht hv1)
    have hv0 := validT_kid hv (t := .mk ka na sa) (by simp)
    have hlt : ts.length ≤ 1000 := by have := validT_size' hv; have := length_le_sizes (Tm.mk ka na sa :: ts); simp at this; omega
    have hih := hide (fun (D : Option Addr) (d : Nat) (w : World) (h1 : Rd w D 0 (ctx ++ [.mk ka na sa])) (h2 : Rd w A1 0 ks1) => by
      have := ih (ctx ++ [.mk ka na sa]) k1 n1 ks1 kr nr sr ht hv1 (fun u hu => by rcases List.mem_append.1 hu with h | h; exact hvc u h; (rw [List.mem_singleton.1 h]; exact hv0)) (by simp; omega) D d A1 c1 w h1 h2
      rw [show (ctx ++ [Tm.mk ka na sa]).length = ctx.length + 1 from by simp] at this
      exact this)
    have hop := hide (fun (w : World) (h1 : Rd w C 0 ctx) (h2 : Rd w (some ⟨b, off, none⟩) 0 (.mk ka na sa :: ts)) => iopc_yes ctx C cc k n ka na sa ts (some ⟨b, off, none⟩) c 1 w hu1 (by omega) hlt h1 h2)
    simp only [List.length_cons] at x2
    clear ht hkj hu0 hu1 hun
    rw [List.length_cons] at *
    go_enter Tryz.func95, Tryz.ntmps95
    go_wp2_with (first
      | (go_at_call 71; have _t := tok1; refine (hih.out D d _ hrD (hr1.below g1)).mono ?_; rintro e w2 ⟨A9, c9, rfl, hl9, r9, hb2⟩; have hZ2 := hZ1.keep hb2; have g2 := g1.trans (hb2.mono g1.size); obtain ⟨d0, d1, d2⟩ := hZ2.three; have e0 := hZ2.frozen 0; have e1 := hZ2.frozen 1; have e2 := hZ2.frozen 2)
      | (go_at_call 96; refine (hop.out _ (hrc'.alloc _) (hra'.alloc _)).mono ?_; rintro e w1 ⟨D, d, rfl, hrD, hb1⟩; simp only [List.length_append, List.length_cons, List.length_nil, Nat.zero_add]; have hZ1 : Blk w1 w'.heap.size #[.int .i64 0, .int .i64 0, .slice none 0 0] := (Blk.new_ _ 27 _ rfl).keep hb1; have g1 : Below w'.heap.size w' w1 := ((Below.refl _ _).alloc (Nat.le_refl _) _).trans (hb1.mono (by simp)); have y2 := (Keeps.of_below g1) _ _ x2; have y0 := (Keeps.of_below g1) _ _ i1; have y1 := (Keeps.of_below g1) _ _ i2; have y3 := (Keeps.of_below g1) _ _ i3; have tok1 := trivial))
    refine bodyPost_ret (v := .tuple #[.agg #[.int .i64 kr, .int .i64 nr, .slice A9 sr.length c9], .int .i64 0]) (by simp [results, Tryz.results95, go_sem, d0, d1, d2]) rfl ⟨A9, c9, rfl, hl9, rd_set0 hZ2 hvr.out r9 _ _ _, ?_⟩
    exact ((g2.setCell (by simp) _).setCell (by simp) _).setCell (by simp) _
open Go.RowKit
set_option maxRecDepth 100000 in
set_option maxHeartbeats 8000000 in
theorem ijudged_3 (C : Option Addr) (m cc : Nat) (n : Int) (A : Option Addr) (la c b2 b3 : Nat) (kr nr : Int) (sr : List Tm) (w : World) (hvr : validT (.mk kr nr sr) = true) (hc : Hid (∀ w', Below w.heap.size w w' → Calls Tryz.prog 127 #[.agg #[.slice C m cc, .int .i64 3, .int .i64 n, .slice A la c, .func (.func 95) #[] #[.pointer (some ⟨b2, 0, none⟩), .pointer (some ⟨b3, 0, none⟩)]]] w' (GotI w' kr nr sr))) :
    Calls Tryz.prog 97 #[.agg #[.slice C m cc, .int .i64 3, .int .i64 n, .slice A la c, .func (.func 95) #[] #[.pointer (some ⟨b2, 0, none⟩), .pointer (some ⟨b3, 0, none⟩)]]] w (GotI w kr nr sr) := by
  replace hvr := hide hvr
  go_enter Tryz.func97, Tryz.ntmps97
  go_wp2_with (go_at_call 127; refine (hc.out _ ((((Below.refl _ _).alloc (Nat.le_refl _) _).alloc (by simp) _).alloc (by simp; omega) _)).mono ?_; rintro e w1 ⟨A1, c1, rfl, hl1, r1, hb1⟩; have hZ1 : Blk w1 (w.heap.size + 1) #[.int .i64 0, .int .i64 0, .slice none 0 0] := ((Blk.new_ (n := w.heap.size + 1) (w.alloc (.cells #[.slice C m cc, .int .i64 3, .int .i64 n, .slice A la c, .func (.func 95) #[] #[.pointer (some ⟨b2, 0, none⟩), .pointer (some ⟨b3, 0, none⟩)]] 104)) 27 #[.int .i64 0, .int .i64 0, .slice none 0 0] (by simp)).alloc (.cells #[.int .i64 3, .int .i64 n, .slice A la c] 27)).keep hb1; have g1 : Below w.heap.size w w1 := ((((Below.refl _ _).alloc (Nat.le_refl _) _).alloc (by simp) _).alloc (by simp; omega) _).trans (hb1.mono (by simp; omega)); obtain ⟨d0, d1, d2⟩ := hZ1.three; have e0 := hZ1.frozen 0; have e1 := hZ1.frozen 1; have e2 := hZ1.frozen 2)
  refine bodyPost_ret (v := .tuple #[.agg #[.int .i64 kr, .int .i64 nr, .slice A1 sr.length c1], .int .i64 0]) (by simp [results, Tryz.results97, go_sem, d0, d1, d2]) rfl ⟨A1, c1, rfl, hl1, rd_set0 hZ1 hvr.out r1 _ _ _, ?_⟩
  exact ((g1.setCell (by simp) _).setCell (by simp) _).setCell (by simp) _
set_option maxRecDepth 100000 in
set_option maxHeartbeats 8000000 in
theorem ijudged_4 (C : Option Addr) (m cc : Nat) (n : Int) (A : Option Addr) (la c b2 b3 : Nat) (kr nr : Int) (sr : List Tm) (w : World) (hvr : validT (.mk kr nr sr) = true) (hc : Hid (∀ w', Below w.heap.size w w' → Calls Tryz.prog 128 #[.agg #[.slice C m cc, .int .i64 4, .int .i64 n, .slice A la c, .func (.func 95) #[] #[.pointer (some ⟨b2, 0, none⟩), .pointer (some ⟨b3, 0, none⟩)]]] w' (GotI w' kr nr sr))) :
    Calls Tryz.prog 97 #[.agg #[.slice C m cc, .int .i64 4, .int .i64 n, .slice A la c, .func (.func 95) #[] #[.pointer (some ⟨b2, 0, none⟩), .pointer (some ⟨b3, 0, none⟩)]]] w (GotI w kr nr sr) := by
  replace hvr := hide hvr
  go_enter Tryz.func97, Tryz.ntmps97
  go_wp2_with (go_at_call 128; refine (hc.out _ ((((Below.refl _ _).alloc (Nat.le_refl _) _).alloc (by simp) _).alloc (by simp; omega) _)).mono ?_; rintro e w1 ⟨A1, c1, rfl, hl1, r1, hb1⟩; have hZ1 : Blk w1 (w.heap.size + 1) #[.int .i64 0, .int .i64 0, .slice none 0 0] := ((Blk.new_ (n := w.heap.size + 1) (w.alloc (.cells #[.slice C m cc, .int .i64 4, .int .i64 n, .slice A la c, .func (.func 95) #[] #[.pointer (some ⟨b2, 0, none⟩), .pointer (some ⟨b3, 0, none⟩)]] 104)) 27 #[.int .i64 0, .int .i64 0, .slice none 0 0] (by simp)).alloc (.cells #[.int .i64 4, .int .i64 n, .slice A la c] 27)).keep hb1; have g1 : Below w.heap.size w w1 := ((((Below.refl _ _).alloc (Nat.le_refl _) _).alloc (by simp) _).alloc (by simp; omega) _).trans (hb1.mono (by simp; omega)); obtain ⟨d0, d1, d2⟩ := hZ1.three; have e0 := hZ1.frozen 0; have e1 := hZ1.frozen 1; have e2 := hZ1.frozen 2)
  refine bodyPost_ret (v := .tuple #[.agg #[.int .i64 kr, .int .i64 nr, .slice A1 sr.length c1], .int .i64 0]) (by simp [results, Tryz.results97, go_sem, d0, d1, d2]) rfl ⟨A1, c1, rfl, hl1, rd_set0 hZ1 hvr.out r1 _ _ _, ?_⟩
  exact ((g1.setCell (by simp) _).setCell (by simp) _).setCell (by simp) _
set_option maxRecDepth 100000 in
set_option maxHeartbeats 8000000 in
theorem ijudged_9 (C : Option Addr) (m cc : Nat) (n : Int) (A : Option Addr) (la c b2 b3 : Nat) (kr nr : Int) (sr : List Tm) (w : World) (hvr : validT (.mk kr nr sr) = true) (hc : Hid (∀ w', Below w.heap.size w w' → Calls Tryz.prog 132 #[.agg #[.slice C m cc, .int .i64 9, .int .i64 n, .slice A la c, .func (.func 95) #[] #[.pointer (some ⟨b2, 0, none⟩), .pointer (some ⟨b3, 0, none⟩)]]] w' (GotI w' kr nr sr))) :
    Calls Tryz.prog 97 #[.agg #[.slice C m cc, .int .i64 9, .int .i64 n, .slice A la c, .func (.func 95) #[] #[.pointer (some ⟨b2, 0, none⟩), .pointer (some ⟨b3, 0, none⟩)]]] w (GotI w kr nr sr) := by
  replace hvr := hide hvr
  go_enter Tryz.func97, Tryz.ntmps97
  go_wp2_with (go_at_call 132; refine (hc.out _ ((((Below.refl _ _).alloc (Nat.le_refl _) _).alloc (by simp) _).alloc (by simp; omega) _)).mono ?_; rintro e w1 ⟨A1, c1, rfl, hl1, r1, hb1⟩; have hZ1 : Blk w1 (w.heap.size + 1) #[.int .i64 0, .int .i64 0, .slice none 0 0] := ((Blk.new_ (n := w.heap.size + 1) (w.alloc (.cells #[.slice C m cc, .int .i64 9, .int .i64 n, .slice A la c, .func (.func 95) #[] #[.pointer (some ⟨b2, 0, none⟩), .pointer (some ⟨b3, 0, none⟩)]] 104)) 27 #[.int .i64 0, .int .i64 0, .slice none 0 0] (by simp)).alloc (.cells #[.int .i64 9, .int .i64 n, .slice A la c] 27)).keep hb1; have g1 : Below w.heap.size w w1 := ((((Below.refl _ _).alloc (Nat.le_refl _) _).alloc (by simp) _).alloc (by simp; omega) _).trans (hb1.mono (by simp; omega)); obtain ⟨d0, d1, d2⟩ := hZ1.three; have e0 := hZ1.frozen 0; have e1 := hZ1.frozen 1; have e2 := hZ1.frozen 2)
  refine bodyPost_ret (v := .tuple #[.agg #[.int .i64 kr, .int .i64 nr, .slice A1 sr.length c1], .int .i64 0]) (by simp [results, Tryz.results97, go_sem, d0, d1, d2]) rfl ⟨A1, c1, rfl, hl1, rd_set0 hZ1 hvr.out r1 _ _ _, ?_⟩
  exact ((g1.setCell (by simp) _).setCell (by simp) _).setCell (by simp) _
set_option maxRecDepth 100000 in
set_option maxHeartbeats 8000000 in
theorem ijudged_10 (C : Option Addr) (m cc : Nat) (n : Int) (A : Option Addr) (la c b2 b3 : Nat) (kr nr : Int) (sr : List Tm) (w : World) (hvr : validT (.mk kr nr sr) = true) (hc : Hid (∀ w', Below w.heap.size w w' → Calls Tryz.prog 133 #[.agg #[.slice C m cc, .int .i64 10, .int .i64 n, .slice A la c, .func (.func 95) #[] #[.pointer (some ⟨b2, 0, none⟩), .pointer (some ⟨b3, 0, none⟩)]]] w' (GotI w' kr nr sr))) :
    Calls Tryz.prog 97 #[.agg #[.slice C m cc, .int .i64 10, .int .i64 n, .slice A la c, .func (.func 95) #[] #[.pointer (some ⟨b2, 0, none⟩), .pointer (some ⟨b3, 0, none⟩)]]] w (GotI w kr nr sr) := by
  replace hvr := hide hvr
  go_enter Tryz.func97, Tryz.ntmps97
  go_wp2_with (go_at_call 133; refine (hc.out _ ((((Below.refl _ _).alloc (Nat.le_refl _) _).alloc (by simp) _).alloc (by simp; omega) _)).mono ?_; rintro e w1 ⟨A1, c1, rfl, hl1, r1, hb1⟩; have hZ1 : Blk w1 (w.heap.size + 1) #[.int .i64 0, .int .i64 0, .slice none 0 0] := ((Blk.new_ (n := w.heap.size + 1) (w.alloc (.cells #[.slice C m cc, .int .i64 10, .int .i64 n, .slice A la c, .func (.func 95) #[] #[.pointer (some ⟨b2, 0, none⟩), .pointer (some ⟨b3, 0, none⟩)]] 104)) 27 #[.int .i64 0, .int .i64 0, .slice none 0 0] (by simp)).alloc (.cells #[.int .i64 10, .int .i64 n, .slice A la c] 27)).keep hb1; have g1 : Below w.heap.size w w1 := ((((Below.refl _ _).alloc (Nat.le_refl _) _).alloc (by simp) _).alloc (by simp; omega) _).trans (hb1.mono (by simp; omega)); obtain ⟨d0, d1, d2⟩ := hZ1.three; have e0 := hZ1.frozen 0; have e1 := hZ1.frozen 1; have e2 := hZ1.frozen 2)
  refine bodyPost_ret (v := .tuple #[.agg #[.int .i64 kr, .int .i64 nr, .slice A1 sr.length c1], .int .i64 0]) (by simp [results, Tryz.results97, go_sem, d0, d1, d2]) rfl ⟨A1, c1, rfl, hl1, rd_set0 hZ1 hvr.out r1 _ _ _, ?_⟩
  exact ((g1.setCell (by simp) _).setCell (by simp) _).setCell (by simp) _
set_option maxRecDepth 100000 in
set_option maxHeartbeats 8000000 in
theorem ijudged_12 (C : Option Addr) (m cc : Nat) (n : Int) (A : Option Addr) (la c b2 b3 : Nat) (kr nr : Int) (sr : List Tm) (w : World) (hvr : validT (.mk kr nr sr) = true) (hc : Hid (∀ w', Below w.heap.size w w' → Calls Tryz.prog 134 #[.agg #[.slice C m cc, .int .i64 12, .int .i64 n, .slice A la c, .func (.func 95) #[] #[.pointer (some ⟨b2, 0, none⟩), .pointer (some ⟨b3, 0, none⟩)]]] w' (GotI w' kr nr sr))) :
    Calls Tryz.prog 97 #[.agg #[.slice C m cc, .int .i64 12, .int .i64 n, .slice A la c, .func (.func 95) #[] #[.pointer (some ⟨b2, 0, none⟩), .pointer (some ⟨b3, 0, none⟩)]]] w (GotI w kr nr sr) := by
  replace hvr := hide hvr
  go_enter Tryz.func97, Tryz.ntmps97
  go_wp2_with (go_at_call 134; refine (hc.out _ ((((Below.refl _ _).alloc (Nat.le_refl _) _).alloc (by simp) _).alloc (by simp; omega) _)).mono ?_; rintro e w1 ⟨A1, c1, rfl, hl1, r1, hb1⟩; have hZ1 : Blk w1 (w.heap.size + 1) #[.int .i64 0, .int .i64 0, .slice none 0 0] := ((Blk.new_ (n := w.heap.size + 1) (w.alloc (.cells #[.slice C m cc, .int .i64 12, .int .i64 n, .slice A la c, .func (.func 95) #[] #[.pointer (some ⟨b2, 0, none⟩), .pointer (some ⟨b3, 0, none⟩)]] 104)) 27 #[.int .i64 0, .int .i64 0, .slice none 0 0] (by simp)).alloc (.cells #[.int .i64 12, .int .i64 n, .slice A la c] 27)).keep hb1; have g1 : Below w.heap.size w w1 := ((((Below.refl _ _).alloc (Nat.le_refl _) _).alloc (by simp) _).alloc (by simp; omega) _).trans (hb1.mono (by simp; omega)); obtain ⟨d0, d1, d2⟩ := hZ1.three; have e0 := hZ1.frozen 0; have e1 := hZ1.frozen 1; have e2 := hZ1.frozen 2)
  refine bodyPost_ret (v := .tuple #[.agg #[.int .i64 kr, .int .i64 nr, .slice A1 sr.length c1], .int .i64 0]) (by simp [results, Tryz.results97, go_sem, d0, d1, d2]) rfl ⟨A1, c1, rfl, hl1, rd_set0 hZ1 hvr.out r1 _ _ _, ?_⟩
  exact ((g1.setCell (by simp) _).setCell (by simp) _).setCell (by simp) _
set_option maxRecDepth 100000 in
set_option maxHeartbeats 8000000 in
theorem ijudged_2 (C : Option Addr) (m cc : Nat) (n : Int) (A : Option Addr) (la c b2 b3 : Nat) (w : World) (hn : n ≠ 3) (h0 : 0 ≤ n ∧ n ≤ 3) :
    Calls Tryz.prog 97 #[.agg #[.slice C m cc, .int .i64 2, .int .i64 n, .slice A la c, .func (.func 95) #[] #[.pointer (some ⟨b2, 0, none⟩), .pointer (some ⟨b3, 0, none⟩)]]] w (GotI w 2 (n + 1) []) := by
  have hq : (n == 3) = false := by simpa using hn
  clear hn
  go_enter Tryz.func97, Tryz.ntmps97
  go_wp2_with (go_at_call 125; refine (isort_any _ _).mono ?_; rintro e w1 ⟨rfl, hb1⟩; have hZ1 : Blk w1 (w.heap.size + 1) #[.int .i64 0, .int .i64 0, .slice none 0 0] := ((Blk.new_ (n := w.heap.size + 1) (w.alloc (.cells #[.slice C m cc, .int .i64 2, .int .i64 n, .slice A la c, .func (.func 95) #[] #[.pointer (some ⟨b2, 0, none⟩), .pointer (some ⟨b3, 0, none⟩)]] 104)) 27 #[.int .i64 0, .int .i64 0, .slice none 0 0] (by simp)).alloc (.cells #[.int .i64 2, .int .i64 n, .slice A la c] 27)).keep hb1; have g1 : Below w.heap.size w w1 := ((((Below.refl _ _).alloc (Nat.le_refl _) _).alloc (by simp) _).alloc (by simp; omega) _).trans (hb1.mono (by simp; omega)); obtain ⟨d0, d1, d2⟩ := hZ1.three; have e0 := hZ1.frozen 0; have e1 := hZ1.frozen 1; have e2 := hZ1.frozen 2)
  refine bodyPost_ret (v := .tuple #[.agg #[.int .i64 2, .int .i64 ((n + 1)), .slice none 0 0], .int .i64 0]) (by simp [results, Tryz.results97, go_sem, d0, d1, d2]) rfl ⟨none, 0, rfl, by simp, Rd.nil, ?_⟩
  exact ((g1.setCell (by simp) _).setCell (by simp) _).setCell (by simp) _
set_option maxRecDepth 100000 in
set_option maxHeartbeats 8000000 in
theorem ijudged_6 (C : Option Addr) (m cc : Nat) (n : Int) (A : Option Addr) (la c b2 b3 : Nat) (w : World) :
    Calls Tryz.prog 97 #[.agg #[.slice C m cc, .int .i64 6, .int .i64 n, .slice A la c, .func (.func 95) #[] #[.pointer (some ⟨b2, 0, none⟩), .pointer (some ⟨b3, 0, none⟩)]]] w (GotI w 2 0 []) := by
  go_enter Tryz.func97, Tryz.ntmps97
  go_wp2_with (go_at_call 125; refine (isort_any _ _).mono ?_; rintro e w1 ⟨rfl, hb1⟩; have hZ1 : Blk w1 (w.heap.size + 1) #[.int .i64 0, .int .i64 0, .slice none 0 0] := ((Blk.new_ (n := w.heap.size + 1) (w.alloc (.cells #[.slice C m cc, .int .i64 6, .int .i64 n, .slice A la c, .func (.func 95) #[] #[.pointer (some ⟨b2, 0, none⟩), .pointer (some ⟨b3, 0, none⟩)]] 104)) 27 #[.int .i64 0, .int .i64 0, .slice none 0 0] (by simp)).alloc (.cells #[.int .i64 6, .int .i64 n, .slice A la c] 27)).keep hb1; have g1 : Below w.heap.size w w1 := ((((Below.refl _ _).alloc (Nat.le_refl _) _).alloc (by simp) _).alloc (by simp; omega) _).trans (hb1.mono (by simp; omega)); obtain ⟨d0, d1, d2⟩ := hZ1.three; have e0 := hZ1.frozen 0; have e1 := hZ1.frozen 1; have e2 := hZ1.frozen 2)
  refine bodyPost_ret (v := .tuple #[.agg #[.int .i64 2, .int .i64 (0), .slice none 0 0], .int .i64 0]) (by simp [results, Tryz.results97, go_sem, d0, d1, d2]) rfl ⟨none, 0, rfl, by simp, Rd.nil, ?_⟩
  exact ((g1.setCell (by simp) _).setCell (by simp) _).setCell (by simp) _
set_option maxRecDepth 100000 in
set_option maxHeartbeats 8000000 in
theorem ijudged_7 (C : Option Addr) (m cc : Nat) (n : Int) (A : Option Addr) (la c b2 b3 : Nat) (w : World) :
    Calls Tryz.prog 97 #[.agg #[.slice C m cc, .int .i64 7, .int .i64 n, .slice A la c, .func (.func 95) #[] #[.pointer (some ⟨b2, 0, none⟩), .pointer (some ⟨b3, 0, none⟩)]]] w (GotI w 6 0 []) := by
  go_enter Tryz.func97, Tryz.ntmps97
  go_wp2_with (go_at_call 26; refine (inode_any 6 _ ⟨_, _, _, rfl⟩ _).mono ?_; rintro e w1 ⟨rfl, hb1⟩; have hZ1 : Blk w1 (w.heap.size + 1) #[.int .i64 0, .int .i64 0, .slice none 0 0] := ((Blk.new_ (n := w.heap.size + 1) (w.alloc (.cells #[.slice C m cc, .int .i64 7, .int .i64 n, .slice A la c, .func (.func 95) #[] #[.pointer (some ⟨b2, 0, none⟩), .pointer (some ⟨b3, 0, none⟩)]] 104)) 27 #[.int .i64 0, .int .i64 0, .slice none 0 0] (by simp)).alloc (.cells #[.int .i64 7, .int .i64 n, .slice A la c] 27)).keep hb1; have g1 : Below w.heap.size w w1 := ((((Below.refl _ _).alloc (Nat.le_refl _) _).alloc (by simp) _).alloc (by simp; omega) _).trans (hb1.mono (by simp; omega)); obtain ⟨d0, d1, d2⟩ := hZ1.three; have e0 := hZ1.frozen 0; have e1 := hZ1.frozen 1; have e2 := hZ1.frozen 2)
  refine bodyPost_ret (v := .tuple #[.agg #[.int .i64 6, .int .i64 (0), .slice none 0 0], .int .i64 0]) (by simp [results, Tryz.results97, go_sem, d0, d1, d2]) rfl ⟨none, 0, rfl, by simp, Rd.nil, ?_⟩
  exact ((g1.setCell (by simp) _).setCell (by simp) _).setCell (by simp) _
set_option maxRecDepth 100000 in
set_option maxHeartbeats 8000000 in
theorem ijudged_8 (C : Option Addr) (m cc : Nat) (n : Int) (A : Option Addr) (la c b2 b3 : Nat) (ty : Nat → Option Tm) (w : World) (hs : chkS (ty 0) natT = true) (hT : TyOk b2 b3 w ty) :
    Calls Tryz.prog 97 #[.agg #[.slice C m cc, .int .i64 8, .int .i64 n, .slice A la c, .func (.func 95) #[] #[.pointer (some ⟨b2, 0, none⟩), .pointer (some ⟨b3, 0, none⟩)]]] w (GotI w 6 0 []) := by
  have hs' := hide (show chkS (ty 0) (.mk 6 0 []) = true from hs)
  clear hs
  go_enter Tryz.func97, Tryz.ntmps97
  go_upto_region 16 with fail
  refine name_world ?_
  intro wx hwx
  have hJx : Blk wx w.heap.size #[.slice C m cc, .int .i64 8, .int .i64 n, .slice A la c, .func (.func 95) #[] #[.pointer (some ⟨b2, 0, none⟩), .pointer (some ⟨b3, 0, none⟩)]] := by rw [hwx]; exact ((Blk.new_ _ 104 _ rfl).alloc _).alloc _
  have hZx : Blk wx (w.heap.size + 1) #[.int .i64 0, .int .i64 0, .slice none 0 0] := by rw [hwx]; exact (Blk.new_ _ 27 _ (by simp)).alloc _
  have gx : Below w.heap.size w wx := by rw [hwx]; exact ((((Below.refl _ _).alloc (Nat.le_refl _) _).alloc (by simp) _).alloc (by simp; omega) _)
  clear hwx
  have u0 := rule_of (hJx.at_ (i := 0) rfl)
  have u1 := rule_of (hJx.at_ (i := 1) rfl)
  have u2 := rule_of (hJx.at_ (i := 2) rfl)
  have u3 := rule_of (hJx.at_ (i := 3) rfl)
  have u4 := rule_of (hJx.at_ (i := 4) rfl)
  obtain ⟨q0, hq0⟩ : ∃ q0, q0 = wx.drew := ⟨_, rfl⟩
  have bq0 : Below wx.heap.size wx q0 := by rw [hq0]; exact (Below.refl _ _).drew
  refine gC_start (fun w' => Below wx.heap.size wx w') [3] 4 (by kernel_rfl) rfl ?_
  refine gC_take [0] (f := 3) (l' := #[true, false, false, false]) (lT := [_]) (by rw [← hq0]; exact bq0) rfl (by kernel_rfl) (by kernel_rfl) (by kernel_rfl) rfl (fun _ _ d _ _ h => by cases d <;> exact h) ?_
  repeat (first | ((refine takeY_skip (a' := ?_) ?_ ?_ ?_); (rotate_left); (· (simp [Region.wanted, yielded, Go.undef]; done)); (· (simp only [List.getElem_toArray, List.getElem_cons_zero, List.getElem_cons_succ, Act.put, List.setIfInBounds_toArray, List.set_cons_zero, List.set_cons_succ]; exact rfl))) | ((refine takeY_step (v := ?_) (a' := ?_) ?_ ?_ ?_ ?_); (rotate_left 2); (· (simp [Region.wanted, yielded, Go.undef]; done)); (· (intro w' hS'; go_simp; try (with_reducible rfl))); (· (simp only [List.getElem_toArray, List.getElem_cons_zero, List.getElem_cons_succ, Act.put, List.setIfInBounds_toArray, List.set_cons_zero, List.set_cons_succ]; exact rfl))))
  refine takeY_nil ?_
  rw [← hq0]
  clear hq0
  refine gC_one (i := 1) (by kernel_rfl) rfl ?_
  · go_wp2_with (go_at_call 26; refine (inode_any 6 _ ⟨_, _, _, rfl⟩ _).mono ?_; rintro e q1 ⟨rfl, hbq1⟩)
    have bq1 : Below wx.heap.size wx q1 := bq0.trans (hbq1.mono bq0.size)
    have lq1 := hbq1.size
    refine mid_intro bq1 ?_
    refine gC_one (i := 2) (by kernel_rfl) rfl ?_
    · go_wp2_with (go_at_call 126; refine (icheck_any C m cc 8 n A la c b2 b3 0 (by omega) 6 0 [] none 0 ty _ hs'.out ((hT.below gx).below bq1) Rd.nil).mono ?_; rintro e q2 ⟨rfl, hbq2⟩)
      have bq2 : Below wx.heap.size wx q2 := bq1.trans (hbq2.mono bq1.size)
      have lq2 := hbq2.size
      refine mid_intro bq2 ?_
      refine gC_end [3] (lB := [_]) (by simp) (by kernel_rfl) (by kernel_rfl) rfl ?_
      have hZ3 := hZx.keep bq2
      have g3 := gx.trans (bq2.mono gx.size)
      go_wp2_with (go_at_call 26; refine (inode_any 6 _ ⟨_, _, _, rfl⟩ _).mono ?_; rintro e w4 ⟨rfl, hb4⟩; have hZ4 := hZ3.keep hb4; have g4 := g3.trans (hb4.mono g3.size); obtain ⟨d0, d1, d2⟩ := hZ4.three; have e0 := hZ4.frozen 0; have e1 := hZ4.frozen 1; have e2 := hZ4.frozen 2)
      refine bodyPost_ret (v := .tuple #[.agg #[.int .i64 6, .int .i64 0, .slice none 0 0], .int .i64 0]) (by simp [results, Tryz.results97, go_sem, d0, d1, d2]) rfl ⟨none, 0, rfl, by simp, Rd.nil, ?_⟩
      exact ((g4.setCell (by simp) _).setCell (by simp) _).setCell (by simp) _
open Go.RowKit
set_option maxRecDepth 100000 in
set_option maxHeartbeats 16000000 in
theorem ijudged_5 (C : Option Addr) (m cc : Nat) (n : Int) (A : Option Addr) (c b2 b3 : Nat) (t0 : Tm) (kx nx : Int) (sx : List Tm) (n3 ka na : Int) (sa : List Tm) (kb nb : Int) (sb : List Tm) (kr nr : Int) (sr : List Tm) (ty : Nat → Option Tm) (w : World) (h1 : fmS (ty 0) 3 = some (.mk 3 n3 [.mk ka na sa, .mk kb nb sb])) (h2 : chkS (ty 1) (.mk ka na sa) = true) (hvx : validT (.mk kx nx sx) = true) (hsu0 : substI 0 (.mk kx nx sx) (.mk kb nb sb) = some (.mk kr nr sr)) (hT : TyOk b2 b3 w ty) (hr : Rd w A 0 [t0, .mk kx nx sx]) :
    Calls Tryz.prog 97 #[.agg #[.slice C m cc, .int .i64 5, .int .i64 n, .slice A 2 c, .func (.func 95) #[] #[.pointer (some ⟨b2, 0, none⟩), .pointer (some ⟨b3, 0, none⟩)]]] w (GotI w kr nr sr) := by
  obtain ⟨_, _, he, hv3⟩ := fmS_inv h1
  injection he with e1 e2 e3
  subst e2 e3
  have hvb := validT_kid hv3 (t := .mk kb nb sb) (by simp)
  have hzx := validT_size' hvx
  have hzb := validT_size' hvb
  have hshx := hide (validT_shape hvx)
  have hshb := hide (validT_shape hvb)
  have hvr := hide (substI_valid hsu0)
  have hsu := hide hsu0
  have h1' := hide h1
  have h2c := hide h2
  clear h1 h2 hsu0 hv3 hvb hvx
  obtain ⟨bf, of_, x1, x2, x3, Ax, cx, rfl, hk1, i1, i2, i3, hlx, rx0⟩ := hr.at_ (j := 1) (by simp)
  injection hk1 with e1 e2 e3
  subst e1 e2 e3
  simp only [Nat.one_mul] at i1 i2 i3
  go_enter Tryz.func97, Tryz.ntmps97
  go_upto_region 27 with (go_at_call 129; refine (iform_any C m cc 5 n _ 2 c b2 b3 0 (by omega) 3 n3 [.mk ka na sa, .mk kb nb sb] ty _ h1'.out (hT.below ((((Below.refl _ _).alloc (Nat.le_refl _) _).alloc (by simp) _).alloc (by simp; omega) _))).mono ?_; rintro e w1 ⟨A3, c3, rfl, hl3, r3, hb1⟩; have hJ1 := (((Blk.new_ w 104 #[.slice C m cc, .int .i64 5, .int .i64 n, .slice (some ⟨bf, of_, none⟩) 2 c, .func (.func 95) #[] #[.pointer (some ⟨b2, 0, none⟩), .pointer (some ⟨b3, 0, none⟩)]] rfl).alloc (.cells #[.int .i64 0, .int .i64 0, .slice none 0 0] 27)).alloc (.cells #[.int .i64 5, .int .i64 n, .slice (some ⟨bf, of_, none⟩) 2 c] 27)).keep hb1; have hZ1 : Blk w1 (w.heap.size + 1) #[.int .i64 0, .int .i64 0, .slice none 0 0] := ((Blk.new_ (n := w.heap.size + 1) (w.alloc (.cells #[.slice C m cc, .int .i64 5, .int .i64 n, .slice (some ⟨bf, of_, none⟩) 2 c, .func (.func 95) #[] #[.pointer (some ⟨b2, 0, none⟩), .pointer (some ⟨b3, 0, none⟩)]] 104)) 27 #[.int .i64 0, .int .i64 0, .slice none 0 0] (by simp)).alloc (.cells #[.int .i64 5, .int .i64 n, .slice (some ⟨bf, of_, none⟩) 2 c] 27)).keep hb1; have hT1 : Blk w1 (w.heap.size + 1 + 1) #[.int .i64 5, .int .i64 n, .slice (some ⟨bf, of_, none⟩) 2 c] := (Blk.new_ _ 27 _ (by simp)).keep hb1; have g1 : Below w.heap.size w w1 := ((((Below.refl _ _).alloc (Nat.le_refl _) _).alloc (by simp) _).alloc (by simp; omega) _).trans (hb1.mono (by simp; omega)))
  refine name_world ?_
  intro wx hwx
  have hJx := (show Blk wx w.heap.size _ by rw [hwx]; exact hJ1.alloc _)
  have hZx := (show Blk wx (w.heap.size + 1) _ by rw [hwx]; exact hZ1.alloc _)
  have hTx := (show Blk wx (w.heap.size + 1 + 1) _ by rw [hwx]; exact hT1.alloc _)
  have h6x0 : Blk wx w1.heap.size #[.int .i64 3, .int .i64 n3, .slice A3 2 c3] := by rw [hwx]; exact Blk.new_ _ 27 _ rfl
  have gx : Below w.heap.size w wx := by rw [hwx]; exact g1.alloc g1.size _
  have r3x : Rd wx A3 0 [.mk ka na sa, .mk kb nb sb] := by rw [hwx]; exact r3.alloc _
  clear hwx
  obtain ⟨bb, ob, x1, x2, x3, Ab, cb, rfl, hk2, p1, p2, p3, hlb, rb⟩ := r3x.at_ (j := 1) (by simp)
  injection hk2 with e1 e2 e3
  subst e1 e2 e3
  simp only [Nat.one_mul] at p1 p2 p3
  have h6x := h6x0
  have u0 := rule_of (hJx.at_ (i := 0) rfl)
  have u1 := rule_of (hJx.at_ (i := 1) rfl)
  have u2 := rule_of (hJx.at_ (i := 2) rfl)
  have u3 := rule_of (hJx.at_ (i := 3) rfl)
  have u4 := rule_of (hJx.at_ (i := 4) rfl)
  have v0 := rule_of h6x.three.1
  have v1 := rule_of h6x.three.2.1
  have v2 := rule_of h6x.three.2.2
  obtain ⟨q0, hq0⟩ : ∃ q0, q0 = wx.drew := ⟨_, rfl⟩
  have bq0 : Below wx.heap.size wx q0 := by rw [hq0]; exact (Below.refl _ _).drew
  refine gC_start (fun w' => Below wx.heap.size wx w') [5] 6 (by kernel_rfl) rfl ?_
  refine gC_take [0, 1, 3] (f := 3) (l' := #[true, true, false, true, false, false]) (lT := [_, _, _]) (by rw [← hq0]; exact bq0) rfl (by kernel_rfl) (by kernel_rfl) (by kernel_rfl) rfl (fun _ _ d _ _ h => by cases d <;> exact h) ?_
  repeat (first | ((refine takeY_skip (a' := ?_) ?_ ?_ ?_); (rotate_left); (· (simp [Region.wanted, yielded, Go.undef]; done)); (· (simp only [List.getElem_toArray, List.getElem_cons_zero, List.getElem_cons_succ, Act.put, List.setIfInBounds_toArray, List.set_cons_zero, List.set_cons_succ]; exact rfl))) | ((refine takeY_step (v := ?_) (a' := ?_) ?_ ?_ ?_ ?_); (rotate_left 2); (· (simp [Region.wanted, yielded, Go.undef]; done)); (· (intro w' hS'; go_simp; try (with_reducible rfl))); (· (simp only [List.getElem_toArray, List.getElem_cons_zero, List.getElem_cons_succ, Act.put, List.setIfInBounds_toArray, List.set_cons_zero, List.set_cons_succ]; exact rfl))))
  refine takeY_nil ?_
  rw [← hq0]
  clear hq0
  refine gC_one (i := 2) (by kernel_rfl) rfl ?_
  · go_wp2_with (go_at_call 131; refine (isideOf_any 3 n3 ka na sa [.mk kb nb sb] _ c3 _ (r3x.below bq0) (by simp)).mono ?_; rintro e q1 ⟨Ak, ck, rfl, hlk, rkq1, hbq1⟩)
    have bq1 : Below wx.heap.size wx q1 := bq0.trans (hbq1.mono bq0.size)
    have lq1 := hbq1.size
    refine mid_intro bq1 ?_
    refine gC_one (i := 4) (by kernel_rfl) rfl ?_
    · go_wp2_with (go_at_call 130; refine (ihas_any C m cc 5 n _ 2 c b2 b3 1 (by omega) ka na sa Ak ck ty _ h2c.out ((hT.below gx).below bq1) rkq1).mono ?_; rintro e q2 ⟨rfl, hbq2⟩)
      have Kq2 := rkq1.below hbq2
      have bq2 : Below wx.heap.size wx q2 := bq1.trans (hbq2.mono bq1.size)
      have lq2 := hbq2.size
      refine mid_intro bq2 ?_
      refine gC_end [5] (lB := [_]) (by simp) (by kernel_rfl) (by kernel_rfl) rfl ?_
      go_upto_region 30 with fail
      refine name_world ?_
      intro ws hws
      have hZs := (show Blk ws (w.heap.size + 1) _ by rw [hws]; exact hZx.keep bq2)
      have hTs := (show Blk ws (w.heap.size + 1 + 1) _ by rw [hws]; exact hTx.keep bq2)
      have h6s := (show Blk ws w1.heap.size _ by rw [hws]; exact h6x.keep bq2)
      have gs : Below w.heap.size w ws := by rw [hws]; exact gx.trans (bq2.mono gx.size)
      have kxs : Below wx.heap.size wx ws := by rw [hws]; exact bq2
      clear hws u0 u1 u2 u3 u4 v0 v1 v2
      have rbs := rb.below kxs
      have rxs := rx0.below gs
      have t2' := rule_of hTs.three.2.2
      have s2' := rule_of h6s.three.2.2
      have y0 := rule_of ((Keeps.of_below kxs) _ _ p1)
      have y1 := rule_of ((Keeps.of_below kxs) _ _ p2)
      have y2 := rule_of ((Keeps.of_below kxs) _ _ p3)
      have z0 := rule_of ((Keeps.of_below gs) _ _ i1)
      have z1 := rule_of ((Keeps.of_below gs) _ _ i2)
      have z2 := rule_of ((Keeps.of_below gs) _ _ i3)
      obtain ⟨q0, hq0⟩ : ∃ q0, q0 = ws.drew := ⟨_, rfl⟩
      have bq0 : Below ws.heap.size ws q0 := by rw [hq0]; exact (Below.refl _ _).drew
      refine gC_start (fun w' => Below ws.heap.size ws w') [9, 10, 12, 13, 14, 15] 16 (by kernel_rfl) rfl ?_
      refine gC_take [0, 1, 2, 3, 4, 5, 6, 7] (f := 8) (l' := #[true, true, true, true, true, true, true, true, false, false, false, false, false, false, false, false]) (lT := [_, _, _, _, _, _, _, _]) (by rw [← hq0]; exact bq0) rfl (by kernel_rfl) (by kernel_rfl) (by kernel_rfl) rfl (fun _ _ d _ _ h => by cases d <;> exact h) ?_
      repeat (first | ((refine takeY_skip (a' := ?_) ?_ ?_ ?_); (rotate_left); (· (simp [Region.wanted, yielded, Go.undef]; done)); (· (simp only [List.getElem_toArray, List.getElem_cons_zero, List.getElem_cons_succ, Act.put, List.setIfInBounds_toArray, List.set_cons_zero, List.set_cons_succ]; exact rfl))) | ((refine takeY_step (v := ?_) (a' := ?_) ?_ ?_ ?_ ?_); (rotate_left 2); (· (simp [Region.wanted, yielded, Go.undef]; done)); (· (intro w' hS'; go_simp; try (with_reducible rfl))); (· (simp only [List.getElem_toArray, List.getElem_cons_zero, List.getElem_cons_succ, Act.put, List.setIfInBounds_toArray, List.set_cons_zero, List.set_cons_succ]; exact rfl))))
      refine takeY_nil ?_
      rw [← hq0]
      clear hq0
      refine gC_one (i := 8) (by kernel_rfl) rfl ?_
      · go_wp2_with (go_at_call 28; refine (subst_any kb nb sb Ab cb 0 kx nx sx Ax cx _ (by omega) hshx.out (by omega) (rxs.below bq0) (by omega) hshb.out (rbs.below bq0)).mono ?_; rw [hsu.out]; intro e q1 hgo; obtain ⟨A7, c7, rfl, hl7, hfq1, hbq1⟩ := gotO_some hgo; clear hgo)
        have rdq1 := hfq1.rd
        have bq1 : Below ws.heap.size ws q1 := bq0.trans (hbq1.mono bq0.size)
        have lq1 := hbq1.size
        refine mid_intro bq1 ?_
        refine gC_takeT [9, 10] (f := 5) (l' := #[true, true, true, true, true, true, true, true, true, true, true, false, false, false, false, false]) (lT := [_, _]) rfl (by kernel_rfl) (by kernel_rfl) (by kernel_rfl) rfl (fun _ _ d _ _ h => by cases d <;> exact h) ?_
        repeat (first | ((refine takeY_skip (a' := ?_) ?_ ?_ ?_); (rotate_left); (· (simp [Region.wanted, yielded, Go.undef]; done)); (· (simp only [List.getElem_toArray, List.getElem_cons_zero, List.getElem_cons_succ, Act.put, List.setIfInBounds_toArray, List.set_cons_zero, List.set_cons_succ]; exact rfl))) | ((refine takeY_step (v := ?_) (a' := ?_) ?_ ?_ ?_ ?_); (rotate_left 2); (· (simp [Region.wanted, yielded, Go.undef]; done)); (· (intro w' hS'; go_simp; try (with_reducible rfl))); (· (simp only [List.getElem_toArray, List.getElem_cons_zero, List.getElem_cons_succ, Act.put, List.setIfInBounds_toArray, List.set_cons_zero, List.set_cons_succ]; exact rfl))))
        refine takeY_nil ?_
        refine gC_one (i := 11) (by kernel_rfl) rfl ?_
        · go_wp2_with (go_at_call 124; refine (imade_yes kr nr sr A7 c7 _ hvr.out rdq1).mono ?_; rintro e q2 ⟨rfl, hbq2⟩)
          have Oq2 := rdq1.below hbq2
          have bq2 : Below ws.heap.size ws q2 := bq1.trans (hbq2.mono bq1.size)
          have lq2 := hbq2.size
          refine mid_intro bq2 ?_
          refine gC_takeT [12, 13] (f := 2) (l' := #[true, true, true, true, true, true, true, true, true, true, true, true, true, true, false, false]) (lT := [_, _]) rfl (by kernel_rfl) (by kernel_rfl) (by kernel_rfl) rfl (fun _ _ d _ _ h => by cases d <;> exact h) ?_
          repeat (first | ((refine takeY_skip (a' := ?_) ?_ ?_ ?_); (rotate_left); (· (simp [Region.wanted, yielded, Go.undef]; done)); (· (simp only [List.getElem_toArray, List.getElem_cons_zero, List.getElem_cons_succ, Act.put, List.setIfInBounds_toArray, List.set_cons_zero, List.set_cons_succ]; exact rfl))) | ((refine takeY_step (v := ?_) (a' := ?_) ?_ ?_ ?_ ?_); (rotate_left 2); (· (simp [Region.wanted, yielded, Go.undef]; done)); (· (intro w' hS'; go_simp; try (with_reducible rfl))); (· (simp only [List.getElem_toArray, List.getElem_cons_zero, List.getElem_cons_succ, Act.put, List.setIfInBounds_toArray, List.set_cons_zero, List.set_cons_succ]; exact rfl))))
          refine takeY_nil ?_
          refine gC_end [14, 15] (lB := [_, _]) (by simp) (by kernel_rfl) (by kernel_rfl) rfl ?_
          have hZ2 := hZs.keep bq2
          obtain ⟨d0, d1, d2⟩ := hZ2.three
          have e0 := hZ2.frozen 0
          have e1 := hZ2.frozen 1
          have e2 := hZ2.frozen 2
          have gf := gs.trans (bq2.mono gs.size)
          have rP := Oq2
          go_wp2_with fail
          refine bodyPost_ret (v := .tuple #[.agg #[.int .i64 kr, .int .i64 nr, .slice A7 sr.length c7], .int .i64 0]) (by simp [results, Tryz.results97, go_sem, d0, d1, d2]) rfl ⟨A7, c7, rfl, hl7, rd_set0 hZ2 hvr.out rP _ _ _, ?_⟩
          exact ((gf.setCell (by simp) _).setCell (by simp) _).setCell (by simp) _
end Go.Proofs.YthgmofdfecioaaaGreatDoor
