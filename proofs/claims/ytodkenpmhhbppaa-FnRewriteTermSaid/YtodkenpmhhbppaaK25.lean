/-
  Contracts of the functions that the law reaches, and plain lemmas. No condition.
-/
import Derived.Test.YtodkenpmhhbppaaK14
import Derived.Test.YtodkenpmhhbppaaK16
import Derived.Test.YtodkenpmhhbppaaK22
import Derived.Test.YtodkenpmhhbppaaK23
import Derived.Test.YtodkenpmhhbppaaK24
namespace Go.Proofs.Ytodkenpmhhbppaa
set_option linter.unusedSimpArgs false
set_option linter.unusedVariables false
open Go.RowKit
theorem plT_at : (∀ t (pre x : List Int), x ∈ plT allT pre t → ∃ y u, x = pre ++ y ∧ atT t y = some u) ∧ ∀ ts (k n : Int) (us : List Tm) (i : Nat) (pre x : List Int), us.drop i = ts → x ∈ plL allT pre i ts → ∃ y u, x = pre ++ y ∧ atT (.mk k n us) y = some u := by
  refine Tm.ind2 (fun k n ks ih pre x h => ?_) (fun k n us i pre x _ h => by rw [plL] at h; cases h) (fun t ts h1 h2 k n us i pre x hd h => ?_)
  · rw [plT] at h
    rcases List.mem_append.1 h with h | h
    · rw [if_pos (show allT (.mk k n ks) = true from rfl), List.mem_singleton] at h
      exact ⟨[], _, by rw [h, List.append_nil], rfl⟩
    · exact ih k n ks 0 pre x rfl h
  · have hi : i < us.length := by
      rcases Nat.lt_or_ge i us.length with h | h
      · exact h
      · rw [List.drop_eq_nil_of_le h] at hd; cases hd
    have hd2 := List.drop_eq_getElem_cons hi
    rw [hd] at hd2
    injection hd2 with e1 e2
    rw [plL] at h
    rcases List.mem_append.1 h with h | h
    · obtain ⟨y, u, rfl, hu⟩ := h1 _ _ h
      refine ⟨(i : Int) :: y, u, by simp, ?_⟩
      rw [atT, if_pos ⟨by omega, by show (i : Int) < us.length; omega⟩]
      show atT (us.getD (i : Int).toNat default) _ = _
      rw [show ((i : Int)).toNat = i from by omega, List.getD_eq_getElem?_getD, List.getElem?_eq_getElem hi, ← e1]; exact hu
    · exact h2 k n us (i + 1) pre x e2.symm h
theorem fillI_valid {L : List Tm} {t u : Tm} (h : fillI L t = some u) : validT u = true := by
  unfold fillI at h
  split at h
  · split at h
    · rename_i hv; injection h with h; rw [← h]; exact hv
    · cases h
  · cases h
theorem putN_size : ∀ (x : List Int) (t v : Tm), (putN t x v).size ≤ t.size + v.size
  | [], t, v => by cases t; simp [putN]
  | i :: is, .mk k n ks, v => by
    rw [putN, Tm.size, Tm.size]
    by_cases hi : i.toNat < ks.length
    · have := sizes_set_le (M := v.size) (t := putN (ks.getD i.toNat default) is v) hi (by
        have := putN_size is (ks.getD i.toNat default) v
        rw [List.getD_eq_getElem?_getD, List.getElem?_eq_getElem hi, Option.getD_some] at this
        rw [List.getD_eq_getElem?_getD, List.getElem?_eq_getElem hi, Option.getD_some]; omega)
      omega
    · rw [List.set_eq_of_length_le (by omega)]; omega
theorem valid_noP (k n : Int) (ks : List Tm) (A : Option Addr) (c : Nat) (w : World) (hM : sizes ks ≤ 1099511627775) (hr : Rd w A 0 ks) (hv : validT (.mk k n ks) = false) :
    Calls Try.prog 82 #[(.agg #[.int .i64 k, .int .i64 n, .slice A ks.length c])] w fun e w' => e = .returned (.tuple #[.agg #[.int .i64 0, .int .i64 0, .slice none 0 0], .bool false]) ∧ Below w.heap.size w w' := valid_no k n ks A c w hM hr hv
theorem rwTI_no {p q t : Tm} {z : Int} (h : validT p = false ∨ validT q = false ∨ validT t = false) : rwTI p z q t = none := by
  unfold rwTI; rw [if_neg]; rintro ⟨h1, h2, h3, -⟩; rcases h with h | h | h
  · rw [h1] at h; cases h
  · rw [h2] at h; cases h
  · rw [h3] at h; cases h
theorem rwTI_yes {p q t : Tm} {m : Nat} (hm : m ≤ 6) (h1 : validT p = true) (h2 : validT q = true) (h3 : validT t = true) : rwTI p m q t = loopI m p q t (plT allT [] t) := by
  unfold rwTI; rw [if_pos ⟨h1, h2, h3, by omega, by omega⟩]; rfl
set_option maxHeartbeats 16000000 in
set_option maxRecDepth 100000 in
theorem iRewriteTerm_any (kp np : Int) (ps : List Tm) (P : Option Addr) (cp : Nat) (m : Nat) (hm : m ≤ 6) (kq nq : Int) (qs : List Tm) (Q : Option Addr) (cq : Nat) (k n : Int) (ks : List Tm) (A : Option Addr) (c : Nat) (w : World) (hMp : sizes ps ≤ 1000000) (hMq : sizes qs ≤ 1000000) (hMt : sizes ks ≤ 1000000) (hp3 : validT (.mk kp np ps) = true → hiN 3 (.mk kp np ps) = true) (hq3 : validT (.mk kq nq qs) = true → hiN 3 (.mk kq nq qs) = true) (hg : validT (.mk k n ks) = true → hgB 18 (.mk k n ks) = true) (hrp : Rd w P 0 ps) (hrq : Rd w Q 0 qs) (hr : Rd w A 0 ks) :
    Calls Try.prog 48 #[.agg #[.int .i64 kp, .int .i64 np, .slice P ps.length cp], .int .i64 m, .agg #[.int .i64 kq, .int .i64 nq, .slice Q qs.length cq], .agg #[.int .i64 k, .int .i64 n, .slice A ks.length c]] w (GotX w (rwTI (.mk kp np ps) m (.mk kq nq qs) (.mk k n ks))) := by
  have hlp := length_le_sizes ps
  have hlq := length_le_sizes qs
  have hlt0 := length_le_sizes ks
  have q3 : (decide (0 ≤ (m : Int)) && decide ((m : Int) ≤ 6)) = true := by simp; omega
  cases hvp : validT (.mk kp np ps) with
  | false =>
    have hzz := rwTI_no (z := m) (q := .mk kq nq qs) (t := .mk k n ks) (Or.inl hvp)
    rw [hzz]
    have hvp' := hide hvp
    clear hvp hzz hp3 hq3 hg
    go_enter Try.func48, Try.ntmps48
    have tokP := True.intro
    go_wp2_with (first | (go_at_call 34; have _t := tokP; refine (iTermValid_any kp np ps P cp _ (by omega) ((((hrp.alloc _).alloc _).alloc _).alloc _)).mono ?_; rw [hvp'.out]; rintro e w3 ⟨rfl, hb3⟩; have g3 : Below w.heap.size w w3 := (((((Below.refl _ _).alloc (Nat.le_refl _) _).alloc (by simp) _).alloc (by simp; omega) _).alloc (by simp; omega) _).trans (hb3.mono (by simp; omega)); have X0 : Blk w3 w.heap.size #[.int .i64 kp, .int .i64 np, .slice P ps.length cp] := ((((Blk.new_ w 25 #[.int .i64 kp, .int .i64 np, .slice P ps.length cp] rfl).alloc _).alloc _).alloc _).keep hb3; have X1 : Blk w3 (w.heap.size + 1) #[.int .i64 kq, .int .i64 nq, .slice Q qs.length cq] := (((Blk.new_ _ 25 #[.int .i64 kq, .int .i64 nq, .slice Q qs.length cq] (by simp)).alloc _).alloc _).keep hb3; have X2 : Blk w3 (w.heap.size + 1 + 1) #[.int .i64 k, .int .i64 n, .slice A ks.length c] := ((Blk.new_ _ 25 #[.int .i64 k, .int .i64 n, .slice A ks.length c] (by simp)).alloc _).keep hb3; have X3 : Blk w3 (w.heap.size + 1 + 1 + 1) #[.int .i64 0, .int .i64 0, .slice none 0 0] := (Blk.new_ _ 25 _ (by simp)).keep hb3; obtain ⟨x0, x1, x2⟩ := X0.three; obtain ⟨y0, y1, y2⟩ := X1.three; obtain ⟨u0, u1, u2⟩ := X2.three; obtain ⟨z0, z1, z2⟩ := X3.three; have f0 := X3.frozen 0; have f1 := X3.frozen 1; have f2 := X3.frozen 2; have lX3 := X3.lt; clear tokP _t; have tokQ := trivial))
    have gl := g3.size
    refine bodyPost_ret (v := .tuple #[.agg #[.int .i64 0, .int .i64 0, .slice none 0 0], .bool false]) (by simp [results, Try.results48, go_sem, z0, z1, z2]) rfl (gotX_none rfl ?_)
    exact ((g3.setCell (by simp; omega) _).setCell (by simp; omega) _).setCell (by simp; omega) _
  | true =>
  cases hvq : validT (.mk kq nq qs) with
  | false =>
    have hzz := rwTI_no (p := .mk kp np ps) (z := m) (t := .mk k n ks) (Or.inr (Or.inl hvq))
    rw [hzz]
    have hvp' := hide hvp
    have hvq' := hide hvq
    clear hvp hvq hzz hp3 hq3 hg
    go_enter Try.func48, Try.ntmps48
    have tokP := True.intro
    go_wp2_with (first | (go_at_call 34; have _t := tokQ; refine (iTermValid_any kq nq qs Q cq _ (by omega) (hrq.below g3)).mono ?_; rw [hvq'.out]; rintro e w4 ⟨rfl, hb4⟩; have g4 := g3.trans (hb4.mono g3.size); replace X0 := X0.keep hb4; replace X1 := X1.keep hb4; replace X2 := X2.keep hb4; replace X3 := X3.keep hb4; clear x0 x1 x2 y0 y1 y2 u0 u1 u2 z0 z1 z2 f0 f1 f2; obtain ⟨x0, x1, x2⟩ := X0.three; obtain ⟨y0, y1, y2⟩ := X1.three; obtain ⟨u0, u1, u2⟩ := X2.three; obtain ⟨z0, z1, z2⟩ := X3.three; have f0 := X3.frozen 0; have f1 := X3.frozen 1; have f2 := X3.frozen 2; clear lX3; have lX3 := X3.lt; clear tokQ _t; have tokT := trivial) | (go_at_call 34; have _t := tokP; refine (iTermValid_any kp np ps P cp _ (by omega) ((((hrp.alloc _).alloc _).alloc _).alloc _)).mono ?_; rw [hvp'.out]; rintro e w3 ⟨rfl, hb3⟩; have g3 : Below w.heap.size w w3 := (((((Below.refl _ _).alloc (Nat.le_refl _) _).alloc (by simp) _).alloc (by simp; omega) _).alloc (by simp; omega) _).trans (hb3.mono (by simp; omega)); have X0 : Blk w3 w.heap.size #[.int .i64 kp, .int .i64 np, .slice P ps.length cp] := ((((Blk.new_ w 25 #[.int .i64 kp, .int .i64 np, .slice P ps.length cp] rfl).alloc _).alloc _).alloc _).keep hb3; have X1 : Blk w3 (w.heap.size + 1) #[.int .i64 kq, .int .i64 nq, .slice Q qs.length cq] := (((Blk.new_ _ 25 #[.int .i64 kq, .int .i64 nq, .slice Q qs.length cq] (by simp)).alloc _).alloc _).keep hb3; have X2 : Blk w3 (w.heap.size + 1 + 1) #[.int .i64 k, .int .i64 n, .slice A ks.length c] := ((Blk.new_ _ 25 #[.int .i64 k, .int .i64 n, .slice A ks.length c] (by simp)).alloc _).keep hb3; have X3 : Blk w3 (w.heap.size + 1 + 1 + 1) #[.int .i64 0, .int .i64 0, .slice none 0 0] := (Blk.new_ _ 25 _ (by simp)).keep hb3; obtain ⟨x0, x1, x2⟩ := X0.three; obtain ⟨y0, y1, y2⟩ := X1.three; obtain ⟨u0, u1, u2⟩ := X2.three; obtain ⟨z0, z1, z2⟩ := X3.three; have f0 := X3.frozen 0; have f1 := X3.frozen 1; have f2 := X3.frozen 2; have lX3 := X3.lt; clear tokP _t; have tokQ := trivial))
    have gl := g4.size
    refine bodyPost_ret (v := .tuple #[.agg #[.int .i64 0, .int .i64 0, .slice none 0 0], .bool false]) (by simp [results, Try.results48, go_sem, z0, z1, z2]) rfl (gotX_none rfl ?_)
    exact ((g4.setCell (by simp; omega) _).setCell (by simp; omega) _).setCell (by simp; omega) _
  | true =>
  cases hvt : validT (.mk k n ks) with
  | false =>
    have hzz := rwTI_no (p := .mk kp np ps) (z := m) (q := .mk kq nq qs) (Or.inr (Or.inr hvt))
    rw [hzz]
    have hvp' := hide hvp
    have hvq' := hide hvq
    have hvt' := hide hvt
    clear hvp hvq hvt hzz hp3 hq3 hg
    go_enter Try.func48, Try.ntmps48
    have tokP := True.intro
    go_wp2_with (first | (go_at_call 34; have _t := tokT; refine (iTermValid_any k n ks A c _ (by omega) (hr.below g4)).mono ?_; rw [hvt'.out]; rintro e w5 ⟨rfl, hb5⟩; have g5 := g4.trans (hb5.mono g4.size); replace X0 := X0.keep hb5; replace X1 := X1.keep hb5; replace X2 := X2.keep hb5; replace X3 := X3.keep hb5; clear x0 x1 x2 y0 y1 y2 u0 u1 u2 z0 z1 z2 f0 f1 f2; obtain ⟨x0, x1, x2⟩ := X0.three; obtain ⟨y0, y1, y2⟩ := X1.three; obtain ⟨u0, u1, u2⟩ := X2.three; obtain ⟨z0, z1, z2⟩ := X3.three; have f0 := X3.frozen 0; have f1 := X3.frozen 1; have f2 := X3.frozen 2; clear lX3; have lX3 := X3.lt; clear tokT _t) | (go_at_call 34; have _t := tokQ; refine (iTermValid_any kq nq qs Q cq _ (by omega) (hrq.below g3)).mono ?_; rw [hvq'.out]; rintro e w4 ⟨rfl, hb4⟩; have g4 := g3.trans (hb4.mono g3.size); replace X0 := X0.keep hb4; replace X1 := X1.keep hb4; replace X2 := X2.keep hb4; replace X3 := X3.keep hb4; clear x0 x1 x2 y0 y1 y2 u0 u1 u2 z0 z1 z2 f0 f1 f2; obtain ⟨x0, x1, x2⟩ := X0.three; obtain ⟨y0, y1, y2⟩ := X1.three; obtain ⟨u0, u1, u2⟩ := X2.three; obtain ⟨z0, z1, z2⟩ := X3.three; have f0 := X3.frozen 0; have f1 := X3.frozen 1; have f2 := X3.frozen 2; clear lX3; have lX3 := X3.lt; clear tokQ _t; have tokT := trivial) | (go_at_call 34; have _t := tokP; refine (iTermValid_any kp np ps P cp _ (by omega) ((((hrp.alloc _).alloc _).alloc _).alloc _)).mono ?_; rw [hvp'.out]; rintro e w3 ⟨rfl, hb3⟩; have g3 : Below w.heap.size w w3 := (((((Below.refl _ _).alloc (Nat.le_refl _) _).alloc (by simp) _).alloc (by simp; omega) _).alloc (by simp; omega) _).trans (hb3.mono (by simp; omega)); have X0 : Blk w3 w.heap.size #[.int .i64 kp, .int .i64 np, .slice P ps.length cp] := ((((Blk.new_ w 25 #[.int .i64 kp, .int .i64 np, .slice P ps.length cp] rfl).alloc _).alloc _).alloc _).keep hb3; have X1 : Blk w3 (w.heap.size + 1) #[.int .i64 kq, .int .i64 nq, .slice Q qs.length cq] := (((Blk.new_ _ 25 #[.int .i64 kq, .int .i64 nq, .slice Q qs.length cq] (by simp)).alloc _).alloc _).keep hb3; have X2 : Blk w3 (w.heap.size + 1 + 1) #[.int .i64 k, .int .i64 n, .slice A ks.length c] := ((Blk.new_ _ 25 #[.int .i64 k, .int .i64 n, .slice A ks.length c] (by simp)).alloc _).keep hb3; have X3 : Blk w3 (w.heap.size + 1 + 1 + 1) #[.int .i64 0, .int .i64 0, .slice none 0 0] := (Blk.new_ _ 25 _ (by simp)).keep hb3; obtain ⟨x0, x1, x2⟩ := X0.three; obtain ⟨y0, y1, y2⟩ := X1.three; obtain ⟨u0, u1, u2⟩ := X2.three; obtain ⟨z0, z1, z2⟩ := X3.three; have f0 := X3.frozen 0; have f1 := X3.frozen 1; have f2 := X3.frozen 2; have lX3 := X3.lt; clear tokP _t; have tokQ := trivial))
    have gl := g5.size
    refine bodyPost_ret (v := .tuple #[.agg #[.int .i64 0, .int .i64 0, .slice none 0 0], .bool false]) (by simp [results, Try.results48, go_sem, z0, z1, z2]) rfl (gotX_none rfl ?_)
    exact ((g5.setCell (by simp; omega) _).setCell (by simp; omega) _).setCell (by simp; omega) _
  | true =>
    rw [rwTI_yes hm hvp hvq hvt]
    have h3p := hide (hp3 hvp)
    have h3q := hide (hq3 hvq)
    have hgt := hide (hg hvt)
    have hst := validT_size hvt
    have hsp := validT_size hvp
    have hsq := validT_size hvq
    rw [Tm.size] at hst hsp hsq
    have hshp := hide (validT_shape30 hvp)
    have hshq := hide (validT_shape30 hvq)
    obtain ⟨L, hL⟩ : ∃ L, plT allT [] (.mk k n ks) = L := ⟨_, rfl⟩
    obtain ⟨lo, hlo0⟩ : ∃ lo, loopI m (.mk kp np ps) (.mk kq nq qs) (.mk k n ks) L = lo := ⟨_, rfl⟩
    have hLl : L.length ≤ 401 := by have := plT_le allT (.mk k n ks) []; rw [hL, Tm.size] at this; omega
    have hLa := hide (fun (j : Nat) (hj : j < L.length) => show ∃ u, atT (.mk k n ks) L[j] = some u by
      obtain ⟨y, u, hy, hu⟩ := plT_at.1 (.mk k n ks) [] L[j] (by rw [hL]; exact List.getElem_mem hj)
      rw [List.nil_append] at hy; exact ⟨u, by rw [hy]; exact hu⟩)
    rw [hL, hlo0]
    have hL' := hide hL
    have hlo' := hide hlo0
    have hvp' := hide hvp
    have hvq' := hide hvq
    have hvt' := hide hvt
    clear hvp hvq hvt hL hlo0 hp3 hq3 hg
    go_enter Try.func48, Try.ntmps48
    have tokP := True.intro
    go_wp2_with (first | (go_at_call 90; refine (placesOf_any k n ks A c _ hvt'.out (hr.below g5)).mono ?_; rw [hL'.out]; rintro e w6 ⟨v6, rfl, hR6, hb6⟩; obtain ⟨A6, c6, rfl, hP6⟩ := hR6.form; have g6 := g5.trans (hb6.mono g5.size); replace X0 := X0.keep hb6; replace X1 := X1.keep hb6; replace X2 := X2.keep hb6; replace X3 := X3.keep hb6; clear x0 x1 x2 y0 y1 y2 u0 u1 u2 z0 z1 z2 f0 f1 f2; obtain ⟨x0, x1, x2⟩ := X0.three; obtain ⟨y0, y1, y2⟩ := X1.three; obtain ⟨u0, u1, u2⟩ := X2.three; obtain ⟨z0, z1, z2⟩ := X3.three; have f0 := X3.frozen 0; have f1 := X3.frozen 1; have f2 := X3.frozen 2; clear lX3; have lX3 := X3.lt; clear hR6) | (go_at_call 56; refine (isHoles_any _ _).mono ?_; rw [q3]; rintro e w6 ⟨rfl, rfl⟩) | (go_at_call 34; have _t := tokT; refine (iTermValid_any k n ks A c _ (by omega) (hr.below g4)).mono ?_; rw [hvt'.out]; rintro e w5 ⟨rfl, hb5⟩; have g5 := g4.trans (hb5.mono g4.size); replace X0 := X0.keep hb5; replace X1 := X1.keep hb5; replace X2 := X2.keep hb5; replace X3 := X3.keep hb5; clear x0 x1 x2 y0 y1 y2 u0 u1 u2 z0 z1 z2 f0 f1 f2; obtain ⟨x0, x1, x2⟩ := X0.three; obtain ⟨y0, y1, y2⟩ := X1.three; obtain ⟨u0, u1, u2⟩ := X2.three; obtain ⟨z0, z1, z2⟩ := X3.three; have f0 := X3.frozen 0; have f1 := X3.frozen 1; have f2 := X3.frozen 2; clear lX3; have lX3 := X3.lt; clear tokT _t) | (go_at_call 34; have _t := tokQ; refine (iTermValid_any kq nq qs Q cq _ (by omega) (hrq.below g3)).mono ?_; rw [hvq'.out]; rintro e w4 ⟨rfl, hb4⟩; have g4 := g3.trans (hb4.mono g3.size); replace X0 := X0.keep hb4; replace X1 := X1.keep hb4; replace X2 := X2.keep hb4; replace X3 := X3.keep hb4; clear x0 x1 x2 y0 y1 y2 u0 u1 u2 z0 z1 z2 f0 f1 f2; obtain ⟨x0, x1, x2⟩ := X0.three; obtain ⟨y0, y1, y2⟩ := X1.three; obtain ⟨u0, u1, u2⟩ := X2.three; obtain ⟨z0, z1, z2⟩ := X3.three; have f0 := X3.frozen 0; have f1 := X3.frozen 1; have f2 := X3.frozen 2; clear lX3; have lX3 := X3.lt; clear tokQ _t; have tokT := trivial) | (go_at_call 34; have _t := tokP; refine (iTermValid_any kp np ps P cp _ (by omega) ((((hrp.alloc _).alloc _).alloc _).alloc _)).mono ?_; rw [hvp'.out]; rintro e w3 ⟨rfl, hb3⟩; have g3 : Below w.heap.size w w3 := (((((Below.refl _ _).alloc (Nat.le_refl _) _).alloc (by simp) _).alloc (by simp; omega) _).alloc (by simp; omega) _).trans (hb3.mono (by simp; omega)); have X0 : Blk w3 w.heap.size #[.int .i64 kp, .int .i64 np, .slice P ps.length cp] := ((((Blk.new_ w 25 #[.int .i64 kp, .int .i64 np, .slice P ps.length cp] rfl).alloc _).alloc _).alloc _).keep hb3; have X1 : Blk w3 (w.heap.size + 1) #[.int .i64 kq, .int .i64 nq, .slice Q qs.length cq] := (((Blk.new_ _ 25 #[.int .i64 kq, .int .i64 nq, .slice Q qs.length cq] (by simp)).alloc _).alloc _).keep hb3; have X2 : Blk w3 (w.heap.size + 1 + 1) #[.int .i64 k, .int .i64 n, .slice A ks.length c] := ((Blk.new_ _ 25 #[.int .i64 k, .int .i64 n, .slice A ks.length c] (by simp)).alloc _).keep hb3; have X3 : Blk w3 (w.heap.size + 1 + 1 + 1) #[.int .i64 0, .int .i64 0, .slice none 0 0] := (Blk.new_ _ 25 _ (by simp)).keep hb3; obtain ⟨x0, x1, x2⟩ := X0.three; obtain ⟨y0, y1, y2⟩ := X1.three; obtain ⟨u0, u1, u2⟩ := X2.three; obtain ⟨z0, z1, z2⟩ := X3.three; have f0 := X3.frozen 0; have f1 := X3.frozen 1; have f2 := X3.frozen 2; have lX3 := X3.lt; clear tokP _t; have tokQ := trivial))
    go_loopw [40] (fun iv wr => ∃ j : Nat, j ≤ L.length ∧ iv = .int .i64 j ∧ Hid (lo = loopI m (.mk kp np ps) (.mk kq nq qs) (.mk k n ks) (L.drop j)) ∧ Blk wr w.heap.size #[.int .i64 kp, .int .i64 np, .slice P ps.length cp] ∧ Blk wr (w.heap.size + 1) #[.int .i64 kq, .int .i64 nq, .slice Q qs.length cq] ∧ Blk wr (w.heap.size + 1 + 1) #[.int .i64 k, .int .i64 n, .slice A ks.length c] ∧ Blk wr (w.heap.size + 1 + 1 + 1) #[.int .i64 0, .int .i64 0, .slice none 0 0] ∧ RdPs wr A6 L ∧ Below w.heap.size w wr) (fun iv _ => L.length - (intOf iv).toNat)
    case atStart => exact ⟨0, Nat.zero_le _, rfl, hide (by rw [← hlo'.out]; rfl), X0, X1, X2, X3, hP6, g6⟩
    case round =>
      clear X0 X1 X2 X3 hP6 g3 g4 g5 g6 x0 x1 x2 y0 y1 y2 u0 u1 u2 z0 z1 z2 f0 f1 f2 lX3 hb3 hb4 hb5 hb6
      obtain ⟨j, hj, rfl, hlo, X0k, X1k, X2k, X3k, hP, g1⟩ := hrel
      obtain ⟨x0, x1, x2⟩ := X0k.three
      obtain ⟨y0, y1, y2⟩ := X1k.three
      obtain ⟨u0, u1, u2⟩ := X2k.three
      obtain ⟨z0, z1, z2⟩ := X3k.three
      have f0 := X3k.frozen 0
      have f1 := X3k.frozen 1
      have f2 := X3k.frozen 2
      have lX3 := X3k.lt
      have lX2 := X2k.lt
      by_cases hlt : j < L.length
      · obtain ⟨b, off, B, cB, rfl, hc, hi, hcl⟩ := hP j hlt
        obtain ⟨u, hu⟩ := hLa.out j hlt
        have hdr := hide (List.drop_eq_getElem_cons hlt)
        obtain ⟨x, hx⟩ : ∃ x, L[j] = x := ⟨_, rfl⟩
        rw [hx] at hc hi hcl hu hdr
        obtain ⟨ku, nu, us, rfl⟩ := tm_eta u
        have hxl := at_len x 18 _ _ hgt.out hu
        have hud := undT_le x (.mk k n ks)
        obtain ⟨d, hd⟩ : ∃ d, undT (.mk k n ks) x = d := ⟨_, rfl⟩
        have hone0 := loop_one (m := m) (xs := L.drop (j + 1)) hvp'.out h3p.out hvq'.out h3q.out (by omega) hu
        rw [hd] at hone0 hud
        obtain ⟨k3, n3, s3, he3⟩ := tm_eta (shS d m (.mk kp np ps))
        have hk3 : k3 = kp := by rw [shS] at he3; injection he3 with e1 e2 e3; exact e1.symm
        obtain ⟨k8, n8, s8, he8⟩ := tm_eta (shS d m (.mk kq nq qs))
        have hk8 : k8 = kq := by rw [shS] at he8; injection he8 with e1 e2 e3; exact e1.symm
        subst hk3 hk8
        rw [he3] at hone0
        have hs3' := hide (show shiftI d m (.mk k3 np ps) = some (.mk k3 n3 s3) by rw [shiftI_shS (by omega) hvp'.out ((hiN_up (by omega)).1 _ h3p.out), he3])
        have hs8' := hide (show shiftI d m (.mk k8 nq qs) = some (.mk k8 n8 s8) by rw [shiftI_shS (by omega) hvq'.out ((hiN_up (by omega)).1 _ h3q.out), he8])
        have hv3 := hide (show validT (.mk k3 n3 s3) = true by rw [← he3]; exact shS_valid (by omega) hvp'.out ((hiN_up (by omega)).1 _ h3p.out))
        have hv8 : validT (.mk k8 n8 s8) = true := by rw [← he8]; exact shS_valid (by omega) hvq'.out ((hiN_up (by omega)).1 _ h3q.out)
        have hsh8 := hide (validT_shape30 hv8)
        have hz8 := validT_size hv8
        rw [Tm.size] at hz8
        have hvu := hide (atT_valid hu hvt'.out)
        have hf8e := hide he8
        have hu' := hide hu
        have hd' := hide hd
        clear he3 he8 hv8 hu hd hx
        cases hto : tryS m 0 (.mk k3 n3 s3) (.mk ku nu us) with
        | none =>
          rw [hto] at hone0
          have hone := hide hone0
          have ht1 := hide (show (tryS m 0 (.mk k3 n3 s3) (.mk ku nu us)).getD [] = [] by rw [hto]; rfl)
          have ht2 := hide (show (tryS m 0 (.mk k3 n3 s3) (.mk ku nu us)).isSome = false by rw [hto]; rfl)
          clear hto hone0
          go_wp2_with (first | (go_at_call 92; refine (shift_any k3 np ps P cp d m _ (by omega) (by omega) (by omega) hshp.out (hrp.below g7)).mono ?_; rw [hs3'.out]; intro e w2 hgo; obtain ⟨A2, c2, rfl, hl2, hf2, hb2⟩ := gotO_some hgo; clear hgo; have g2 := g7.trans (hb2.mono g7.size); have i2 := i7.below hb2; have P2 := P7.below hb2; replace X0k := X0k.keep hb2; replace X1k := X1k.keep hb2; replace X2k := X2k.keep hb2; replace X3k := X3k.keep hb2; clear x0 x1 x2 y0 y1 y2 u0 u1 u2 z0 z1 z2 f0 f1 f2 lX3 lX2; obtain ⟨x0, x1, x2⟩ := X0k.three; obtain ⟨y0, y1, y2⟩ := X1k.three; obtain ⟨u0, u1, u2⟩ := X2k.three; obtain ⟨z0, z1, z2⟩ := X3k.three; have f0 := X3k.frozen 0; have f1 := X3k.frozen 1; have f2 := X3k.frozen 2; have lX3 := X3k.lt; have lX2 := X2k.lt) | (go_at_call 91; refine (iAround_any (fun b => b < wr.heap.size) k n ks A c x B cB _ (by omega) (by omega) (hr.below g1).rdp (fun b hb => hb) hi hu'.out).mono ?_; rw [hd'.out]; rintro e w7 ⟨rfl, hb7⟩; have g7 := g1.trans (hb7.mono g1.size); have i7 := hi.below hb7; have P7 := hP.below hb7; replace X0k := X0k.keep hb7; replace X1k := X1k.keep hb7; replace X2k := X2k.keep hb7; replace X3k := X3k.keep hb7; clear x0 x1 x2 y0 y1 y2 u0 u1 u2 z0 z1 z2 f0 f1 f2 lX3 lX2; obtain ⟨x0, x1, x2⟩ := X0k.three; obtain ⟨y0, y1, y2⟩ := X1k.three; obtain ⟨u0, u1, u2⟩ := X2k.three; obtain ⟨z0, z1, z2⟩ := X3k.three; have f0 := X3k.frozen 0; have f1 := X3k.frozen 1; have f2 := X3k.frozen 2; have lX3 := X3k.lt; have lX2 := X2k.lt))
          refine name_world ?_
          intro wx hwx
          have X0x : Blk wx w.heap.size #[.int .i64 k3, .int .i64 np, .slice P ps.length cp] := by rw [hwx]; exact X0k.alloc _
          have X1x : Blk wx (w.heap.size + 1) #[.int .i64 k8, .int .i64 nq, .slice Q qs.length cq] := by rw [hwx]; exact X1k.alloc _
          have X2x : Blk wx (w.heap.size + 1 + 1) #[.int .i64 k, .int .i64 n, .slice A ks.length c] := by rw [hwx]; exact X2k.alloc _
          have X3x : Blk wx (w.heap.size + 1 + 1 + 1) #[.int .i64 0, .int .i64 0, .slice none 0 0] := by rw [hwx]; exact X3k.alloc _
          have X13 : Blk wx w2.heap.size #[.int .i64 k3, .int .i64 n3, .slice A2 s3.length c2] := by rw [hwx]; exact Blk.new_ _ _ _ rfl
          have gx : Below w.heap.size w wx := by rw [hwx]; exact g2.alloc g2.size _
          have r2x : Rd wx A2 0 s3 := by rw [hwx]; exact hf2.rd.alloc _
          have hix : RdI wx B x := by rw [hwx]; exact i2.alloc' _
          have hPx : RdPs wx (some ⟨b, off, none⟩) L := by rw [hwx]; exact P2.keeps (.alloc _ _)
          clear hwx x0 x1 x2 y0 y1 y2 u0 u1 u2 z0 z1 z2 f0 f1 f2 lX3 lX2
          have rx := hr.below gx
          have g00 := rule_of X13.three.1
          have g01 := rule_of X13.three.2.1
          have g02 := rule_of X13.three.2.2
          have g20 := rule_of X2x.three.1
          have g21 := rule_of X2x.three.2.1
          have g22 := rule_of X2x.three.2.2
          obtain ⟨q0, hq0⟩ : ∃ q0, q0 = wx.drew := ⟨_, rfl⟩
          have bq0 : Below wx.heap.size wx q0 := by rw [hq0]; exact (Below.refl _ _).drew
          refine gC_start (fun w' => Below wx.heap.size wx w') [6, 7, 8, 9, 10] 11 (by kernel_rfl) rfl ?_
          refine gC_take [0, 1, 2, 3] (f := 7) (l' := #[true, true, true, true, false, false, false, false, false, false, false]) (lT := [_, _, _, _]) (by rw [← hq0]; exact bq0) rfl (by kernel_rfl) (by kernel_rfl) (by kernel_rfl) rfl (fun _ _ d _ _ h => by cases d <;> exact h) ?_
          repeat (first | ((refine takeY_skip (a' := ?_) ?_ ?_ ?_); (rotate_left); (· (simp [Region.wanted, yielded, Go.undef]; done)); (· (simp only [List.getElem_toArray, List.getElem_cons_zero, List.getElem_cons_succ, Act.put, List.setIfInBounds_toArray, List.set_cons_zero, List.set_cons_succ]; exact rfl))) | ((refine takeY_step (v := ?_) (a' := ?_) ?_ ?_ ?_ ?_); (rotate_left 2); (· (simp [Region.wanted, yielded, Go.undef]; done)); (· (intro w' hS'; go_simp; try (with_reducible rfl))); (· (simp only [List.getElem_toArray, List.getElem_cons_zero, List.getElem_cons_succ, Act.put, List.setIfInBounds_toArray, List.set_cons_zero, List.set_cons_succ]; exact rfl))))
          refine takeY_nil ?_
          rw [← hq0]
          clear hq0
          refine gC_one (i := 4) (by kernel_rfl) rfl ?_
          · go_wp2_with (go_at_call 93; refine (iAt_any k n ks A c x B cB _ (by omega) (by omega) (rx.below bq0) (hix.below bq0) hu'.out).mono ?_; rintro e q1 ⟨k4, n4, ks4, A4, c4, he4, rfl, hl4, rq10, hbq1⟩)
            have rq1 := rq10.below hbq1
            injection he4 with ea eb ec
            subst ea eb ec
            have bq1 : Below wx.heap.size wx q1 := bq0.trans (hbq1.mono bq0.size)
            have lq1 := hbq1.size
            refine mid_intro bq1 ?_
            refine gC_one (i := 5) (by kernel_rfl) rfl ?_
            · go_wp2_with (go_at_call 72; refine (iMatches_any m hm 0 (by omega) k3 n3 s3 A2 c2 ku nu us A4 c4 _ hv3.out hvu.out (r2x.below bq1) rq1).mono ?_; intro e q2 hgo; obtain ⟨A5, c5, rfl, hf5, hbq2⟩ := gotLO_pairR hgo ht1.out ht2.out; clear hgo)
              have rq2 := hf5.rd
              have Uq2 := rq1.below hbq2
              have bq2 : Below wx.heap.size wx q2 := bq1.trans (hbq2.mono bq1.size)
              have lq2 := hbq2.size
              refine mid_intro bq2 ?_
              refine gC_takeT [6, 7, 8] (f := 2) (l' := #[true, true, true, true, true, true, true, true, true, false, false]) (lT := [_, _, _]) rfl (by kernel_rfl) (by kernel_rfl) (by kernel_rfl) rfl (fun _ _ d _ _ h => by cases d <;> exact h) ?_
              repeat (first | ((refine takeY_skip (a' := ?_) ?_ ?_ ?_); (rotate_left); (· (simp [Region.wanted, yielded, Go.undef]; done)); (· (simp only [List.getElem_toArray, List.getElem_cons_zero, List.getElem_cons_succ, Act.put, List.setIfInBounds_toArray, List.set_cons_zero, List.set_cons_succ]; exact rfl))) | ((refine takeY_step (v := ?_) (a' := ?_) ?_ ?_ ?_ ?_); (rotate_left 2); (· (simp [Region.wanted, yielded, Go.undef]; done)); (· (intro w' hS'; go_simp; try (with_reducible rfl))); (· (simp only [List.getElem_toArray, List.getElem_cons_zero, List.getElem_cons_succ, Act.put, List.setIfInBounds_toArray, List.set_cons_zero, List.set_cons_succ]; exact rfl))))
              refine takeY_nil ?_
              refine gC_end [9, 10] (lB := [_, _]) (by simp) (by kernel_rfl) (by kernel_rfl) rfl ?_
              have hxl := bq2
              have rM := rq2
              have gq := gx.trans (hxl.mono gx.size)
              have X0k := X0x.keep hxl
              have X1k := X1x.keep hxl
              have X2k := X2x.keep hxl
              have X3k := X3x.keep hxl
              have hPk := hPx.below hxl
              have hik := hix.below hxl
              clear g00 g01 g02 g20 g21 g22
              go_wp2_with fail
              go_roundw
              case rel => exact ⟨j + 1, by omega, by go_num, hide (by rw [hlo.out, hdr.out, hone.out]), X0k, X1k, X2k, X3k, hPk, gq⟩
              case measure => simp [intOf]; omega
        | some LL =>
          rw [hto] at hone0
          have hone := hide hone0
          have ht1 := hide (show (tryS m 0 (.mk k3 n3 s3) (.mk ku nu us)).getD [] = LL by rw [hto]; rfl)
          have ht2 := hide (show (tryS m 0 (.mk k3 n3 s3) (.mk ku nu us)).isSome = true by rw [hto]; rfl)
          have htv := try_valid hto
          have hLs : sizes LL ≤ 2400 := (tryS_size hm hto).1
          have hLn : LL.length ≤ 6 := by rw [htv.1]; exact hm
          have hLv := hide (fun t hx => validT_shape30 (htv.2 t hx))
          clear hto hone0 htv
          go_wp2_with (first | (go_at_call 92; refine (shift_any k3 np ps P cp d m _ (by omega) (by omega) (by omega) hshp.out (hrp.below g7)).mono ?_; rw [hs3'.out]; intro e w2 hgo; obtain ⟨A2, c2, rfl, hl2, hf2, hb2⟩ := gotO_some hgo; clear hgo; have g2 := g7.trans (hb2.mono g7.size); have i2 := i7.below hb2; have P2 := P7.below hb2; replace X0k := X0k.keep hb2; replace X1k := X1k.keep hb2; replace X2k := X2k.keep hb2; replace X3k := X3k.keep hb2; clear x0 x1 x2 y0 y1 y2 u0 u1 u2 z0 z1 z2 f0 f1 f2 lX3 lX2; obtain ⟨x0, x1, x2⟩ := X0k.three; obtain ⟨y0, y1, y2⟩ := X1k.three; obtain ⟨u0, u1, u2⟩ := X2k.three; obtain ⟨z0, z1, z2⟩ := X3k.three; have f0 := X3k.frozen 0; have f1 := X3k.frozen 1; have f2 := X3k.frozen 2; have lX3 := X3k.lt; have lX2 := X2k.lt) | (go_at_call 91; refine (iAround_any (fun b => b < wr.heap.size) k n ks A c x B cB _ (by omega) (by omega) (hr.below g1).rdp (fun b hb => hb) hi hu'.out).mono ?_; rw [hd'.out]; rintro e w7 ⟨rfl, hb7⟩; have g7 := g1.trans (hb7.mono g1.size); have i7 := hi.below hb7; have P7 := hP.below hb7; replace X0k := X0k.keep hb7; replace X1k := X1k.keep hb7; replace X2k := X2k.keep hb7; replace X3k := X3k.keep hb7; clear x0 x1 x2 y0 y1 y2 u0 u1 u2 z0 z1 z2 f0 f1 f2 lX3 lX2; obtain ⟨x0, x1, x2⟩ := X0k.three; obtain ⟨y0, y1, y2⟩ := X1k.three; obtain ⟨u0, u1, u2⟩ := X2k.three; obtain ⟨z0, z1, z2⟩ := X3k.three; have f0 := X3k.frozen 0; have f1 := X3k.frozen 1; have f2 := X3k.frozen 2; have lX3 := X3k.lt; have lX2 := X2k.lt))
          refine name_world ?_
          intro wx hwx
          have X0x : Blk wx w.heap.size #[.int .i64 k3, .int .i64 np, .slice P ps.length cp] := by rw [hwx]; exact X0k.alloc _
          have X1x : Blk wx (w.heap.size + 1) #[.int .i64 k8, .int .i64 nq, .slice Q qs.length cq] := by rw [hwx]; exact X1k.alloc _
          have X2x : Blk wx (w.heap.size + 1 + 1) #[.int .i64 k, .int .i64 n, .slice A ks.length c] := by rw [hwx]; exact X2k.alloc _
          have X3x : Blk wx (w.heap.size + 1 + 1 + 1) #[.int .i64 0, .int .i64 0, .slice none 0 0] := by rw [hwx]; exact X3k.alloc _
          have X13 : Blk wx w2.heap.size #[.int .i64 k3, .int .i64 n3, .slice A2 s3.length c2] := by rw [hwx]; exact Blk.new_ _ _ _ rfl
          have gx : Below w.heap.size w wx := by rw [hwx]; exact g2.alloc g2.size _
          have r2x : Rd wx A2 0 s3 := by rw [hwx]; exact hf2.rd.alloc _
          have hix : RdI wx B x := by rw [hwx]; exact i2.alloc' _
          have hPx : RdPs wx (some ⟨b, off, none⟩) L := by rw [hwx]; exact P2.keeps (.alloc _ _)
          clear hwx x0 x1 x2 y0 y1 y2 u0 u1 u2 z0 z1 z2 f0 f1 f2 lX3 lX2
          have rx := hr.below gx
          have g00 := rule_of X13.three.1
          have g01 := rule_of X13.three.2.1
          have g02 := rule_of X13.three.2.2
          have g20 := rule_of X2x.three.1
          have g21 := rule_of X2x.three.2.1
          have g22 := rule_of X2x.three.2.2
          obtain ⟨q0, hq0⟩ : ∃ q0, q0 = wx.drew := ⟨_, rfl⟩
          have bq0 : Below wx.heap.size wx q0 := by rw [hq0]; exact (Below.refl _ _).drew
          refine gC_start (fun w' => Below wx.heap.size wx w') [6, 7, 8, 9, 10] 11 (by kernel_rfl) rfl ?_
          refine gC_take [0, 1, 2, 3] (f := 7) (l' := #[true, true, true, true, false, false, false, false, false, false, false]) (lT := [_, _, _, _]) (by rw [← hq0]; exact bq0) rfl (by kernel_rfl) (by kernel_rfl) (by kernel_rfl) rfl (fun _ _ d _ _ h => by cases d <;> exact h) ?_
          repeat (first | ((refine takeY_skip (a' := ?_) ?_ ?_ ?_); (rotate_left); (· (simp [Region.wanted, yielded, Go.undef]; done)); (· (simp only [List.getElem_toArray, List.getElem_cons_zero, List.getElem_cons_succ, Act.put, List.setIfInBounds_toArray, List.set_cons_zero, List.set_cons_succ]; exact rfl))) | ((refine takeY_step (v := ?_) (a' := ?_) ?_ ?_ ?_ ?_); (rotate_left 2); (· (simp [Region.wanted, yielded, Go.undef]; done)); (· (intro w' hS'; go_simp; try (with_reducible rfl))); (· (simp only [List.getElem_toArray, List.getElem_cons_zero, List.getElem_cons_succ, Act.put, List.setIfInBounds_toArray, List.set_cons_zero, List.set_cons_succ]; exact rfl))))
          refine takeY_nil ?_
          rw [← hq0]
          clear hq0
          refine gC_one (i := 4) (by kernel_rfl) rfl ?_
          · go_wp2_with (go_at_call 93; refine (iAt_any k n ks A c x B cB _ (by omega) (by omega) (rx.below bq0) (hix.below bq0) hu'.out).mono ?_; rintro e q1 ⟨k4, n4, ks4, A4, c4, he4, rfl, hl4, rq10, hbq1⟩)
            have rq1 := rq10.below hbq1
            injection he4 with ea eb ec
            subst ea eb ec
            have bq1 : Below wx.heap.size wx q1 := bq0.trans (hbq1.mono bq0.size)
            have lq1 := hbq1.size
            refine mid_intro bq1 ?_
            refine gC_one (i := 5) (by kernel_rfl) rfl ?_
            · go_wp2_with (go_at_call 72; refine (iMatches_any m hm 0 (by omega) k3 n3 s3 A2 c2 ku nu us A4 c4 _ hv3.out hvu.out (r2x.below bq1) rq1).mono ?_; intro e q2 hgo; obtain ⟨A5, c5, rfl, hf5, hbq2⟩ := gotLO_pairR hgo ht1.out ht2.out; clear hgo)
              have rq2 := hf5.rd
              have Uq2 := rq1.below hbq2
              have bq2 : Below wx.heap.size wx q2 := bq1.trans (hbq2.mono bq1.size)
              have lq2 := hbq2.size
              refine mid_intro bq2 ?_
              refine gC_takeT [6, 7, 8] (f := 2) (l' := #[true, true, true, true, true, true, true, true, true, false, false]) (lT := [_, _, _]) rfl (by kernel_rfl) (by kernel_rfl) (by kernel_rfl) rfl (fun _ _ d _ _ h => by cases d <;> exact h) ?_
              repeat (first | ((refine takeY_skip (a' := ?_) ?_ ?_ ?_); (rotate_left); (· (simp [Region.wanted, yielded, Go.undef]; done)); (· (simp only [List.getElem_toArray, List.getElem_cons_zero, List.getElem_cons_succ, Act.put, List.setIfInBounds_toArray, List.set_cons_zero, List.set_cons_succ]; exact rfl))) | ((refine takeY_step (v := ?_) (a' := ?_) ?_ ?_ ?_ ?_); (rotate_left 2); (· (simp [Region.wanted, yielded, Go.undef]; done)); (· (intro w' hS'; go_simp; try (with_reducible rfl))); (· (simp only [List.getElem_toArray, List.getElem_cons_zero, List.getElem_cons_succ, Act.put, List.setIfInBounds_toArray, List.set_cons_zero, List.set_cons_succ]; exact rfl))))
              refine takeY_nil ?_
              refine gC_end [9, 10] (lB := [_, _]) (by simp) (by kernel_rfl) (by kernel_rfl) rfl ?_
              have hxl := bq2
              have rM := rq2
              have gq := gx.trans (hxl.mono gx.size)
              have X0k := X0x.keep hxl
              have X1k := X1x.keep hxl
              have X2k := X2x.keep hxl
              have X3k := X3x.keep hxl
              have hPk := hPx.below hxl
              have hik := hix.below hxl
              clear g00 g01 g02 g20 g21 g22
              obtain ⟨x0, x1, x2⟩ := X0k.three
              obtain ⟨y0, y1, y2⟩ := X1k.three
              obtain ⟨u0, u1, u2⟩ := X2k.three
              obtain ⟨z0, z1, z2⟩ := X3k.three
              have f0 := X3k.frozen 0
              have f1 := X3k.frozen 1
              have f2 := X3k.frozen 2
              have lX3 := X3k.lt
              have lX2 := X2k.lt
              cases hfi : fillI LL (.mk k8 n8 s8) with
              | none =>
                have hres := hide (show lo = none by rw [hlo.out, hdr.out, hone.out]; show ansI _ _ _ _ _ _ = none; unfold ansI; rw [hf8e.out, hfi]; rfl)
                have hfi' := hide hfi
                clear hfi
                go_wp2_with (first | (go_at_call 59; refine (fill_any k8 n8 s8 A8 c8 LL A5 c5 _ (by omega) hLv.out (by omega) (m8.alloc _) (by omega) hsh8.out (hf8.rd.alloc _)).mono ?_; rw [hfi'.out]; intro e w9 hgo; obtain ⟨rfl, hb9⟩ := gotO_none hgo; clear hgo; have g9 := (g8.alloc g8.size _).trans (hb9.mono (by have := g8.size; simp; omega)); replace X0k := (X0k.alloc _).keep hb9; replace X1k := (X1k.alloc _).keep hb9; replace X2k := (X2k.alloc _).keep hb9; replace X3k := (X3k.alloc _).keep hb9; clear x0 x1 x2 y0 y1 y2 u0 u1 u2 z0 z1 z2 f0 f1 f2 lX3 lX2; obtain ⟨x0, x1, x2⟩ := X0k.three; obtain ⟨y0, y1, y2⟩ := X1k.three; obtain ⟨u0, u1, u2⟩ := X2k.three; obtain ⟨z0, z1, z2⟩ := X3k.three; have f0 := X3k.frozen 0; have f1 := X3k.frozen 1; have f2 := X3k.frozen 2; have lX3 := X3k.lt; have lX2 := X2k.lt) | (go_at_call 92; refine (shift_any k8 nq qs Q cq d m _ (by omega) (by omega) (by omega) hshq.out (hrq.below gq)).mono ?_; rw [hs8'.out]; intro e w8 hgo; obtain ⟨A8, c8, rfl, hl8, hf8, hb8⟩ := gotO_some hgo; clear hgo; have g8 := gq.trans (hb8.mono gq.size); have m8 := rM.below hb8; have i8 := hik.below hb8; replace X0k := X0k.keep hb8; replace X1k := X1k.keep hb8; replace X2k := X2k.keep hb8; replace X3k := X3k.keep hb8; clear x0 x1 x2 y0 y1 y2 u0 u1 u2 z0 z1 z2 f0 f1 f2 lX3 lX2; obtain ⟨x0, x1, x2⟩ := X0k.three; obtain ⟨y0, y1, y2⟩ := X1k.three; obtain ⟨u0, u1, u2⟩ := X2k.three; obtain ⟨z0, z1, z2⟩ := X3k.three; have f0 := X3k.frozen 0; have f1 := X3k.frozen 1; have f2 := X3k.frozen 2; have lX3 := X3k.lt; have lX2 := X2k.lt))
                rw [hres.out]
                have gl := g9.size
                refine bodyPost_ret (v := .tuple #[.agg #[.int .i64 0, .int .i64 0, .slice none 0 0], .bool false]) (by simp [results, Try.results48, go_sem, z0, z1, z2, lX3]) rfl (gotX_none rfl ?_)
                first
                  | exact ((g9.setCell (by simp; omega) _).setCell (by simp; omega) _).setCell (by simp; omega) _
                  | exact (((g9.setCell (by simp; omega) _).setCell (by simp; omega) _).setCell (by simp; omega) _).alloc (by simp; omega) _
                  | exact (((g9.alloc g9.size _).setCell (by simp; omega) _).setCell (by simp; omega) _).setCell (by simp; omega) _
              | some uv =>
                obtain ⟨kv, nv, vs, rfl⟩ := tm_eta uv
                have hvv := fillI_valid hfi
                have hsv := validT_size hvv
                rw [Tm.size] at hsv
                obtain ⟨ko, no, os, hpo⟩ := tm_eta (putN (.mk k n ks) x (.mk kv nv vs))
                have hres := hide (show lo = vO (.mk ko no os) by rw [hlo.out, hdr.out, hone.out]; show ansI _ _ _ _ _ _ = _; unfold ansI; rw [hf8e.out, hfi]; show vO (putN _ _ _) = _; rw [hpo])
                have hos := putN_size x (.mk k n ks) (.mk kv nv vs)
                rw [hpo, Tm.size, Tm.size, Tm.size] at hos
                have hfi' := hide hfi
                have hpo' := hide hpo
                clear hfi hpo hvv
                cases hvo : validT (.mk ko no os) with
                | false =>
                  have hres2 := hide (show lo = none by rw [hres.out, vO, if_neg]; rw [hvo]; exact Bool.false_ne_true)
                  have hvo' := hide hvo
                  clear hvo hres
                  go_wp2_with (first | (go_at_call 82; refine (valid_noP ko no os A11 c11 _ (by omega) hf11.rd hvo'.out).mono ?_; rintro e w12 ⟨rfl, hb12⟩; have g12 := g11.trans (hb12.mono g11.size); replace X0k := X0k.keep hb12; replace X1k := X1k.keep hb12; replace X2k := X2k.keep hb12; replace X3k := X3k.keep hb12; clear x0 x1 x2 y0 y1 y2 u0 u1 u2 z0 z1 z2 f0 f1 f2 lX3 lX2; obtain ⟨x0, x1, x2⟩ := X0k.three; obtain ⟨y0, y1, y2⟩ := X1k.three; obtain ⟨u0, u1, u2⟩ := X2k.three; obtain ⟨z0, z1, z2⟩ := X3k.three; have f0 := X3k.frozen 0; have f1 := X3k.frozen 1; have f2 := X3k.frozen 2; have lX3 := X3k.lt; have lX2 := X2k.lt) | (go_at_call 94; refine (own_any (sizes os + 1) ko no os A10 c10 _ (by omega) (by omega) hr10.rd).mono ?_; rintro e w11 ⟨A11, c11, rfl, hl11, hf11, hb11⟩; have g11 := g10.trans (hb11.mono g10.size); replace X0k := X0k.keep hb11; replace X1k := X1k.keep hb11; replace X2k := X2k.keep hb11; replace X3k := X3k.keep hb11; clear x0 x1 x2 y0 y1 y2 u0 u1 u2 z0 z1 z2 f0 f1 f2 lX3 lX2; obtain ⟨x0, x1, x2⟩ := X0k.three; obtain ⟨y0, y1, y2⟩ := X1k.three; obtain ⟨u0, u1, u2⟩ := X2k.three; obtain ⟨z0, z1, z2⟩ := X3k.three; have f0 := X3k.frozen 0; have f1 := X3k.frozen 1; have f2 := X3k.frozen 2; have lX3 := X3k.lt; have lX2 := X2k.lt) | (go_at_call 95; refine (iPut_any (fun b => b < w9.heap.size) kv nv vs (by omega) x k n ks A c B cB A9 c9 _ (.mk ku nu us) hu'.out hcl (by omega) ((hr.below g9).rdp.alloc _) (i9.alloc _) (hf9.rd.rdp.alloc _) (fun b hb => by have : b < w9.heap.size := hb; simp; omega)).mono ?_; rw [hpo'.out]; intro e w10 hgo; obtain ⟨A10, c10, rfl, hl10, hr10, hb10⟩ := gotQ_mk hgo; clear hgo; have g10 := (g9.alloc g9.size _).trans (hb10.mono (by have := g9.size; simp; omega)); replace X0k := (X0k.alloc _).keep hb10; replace X1k := (X1k.alloc _).keep hb10; replace X2k := (X2k.alloc _).keep hb10; replace X3k := (X3k.alloc _).keep hb10; clear x0 x1 x2 y0 y1 y2 u0 u1 u2 z0 z1 z2 f0 f1 f2 lX3 lX2; obtain ⟨x0, x1, x2⟩ := X0k.three; obtain ⟨y0, y1, y2⟩ := X1k.three; obtain ⟨u0, u1, u2⟩ := X2k.three; obtain ⟨z0, z1, z2⟩ := X3k.three; have f0 := X3k.frozen 0; have f1 := X3k.frozen 1; have f2 := X3k.frozen 2; have lX3 := X3k.lt; have lX2 := X2k.lt; have l10 := lX3) | (go_at_call 59; refine (fill_any k8 n8 s8 A8 c8 LL A5 c5 _ (by omega) hLv.out (by omega) (m8.alloc _) (by omega) hsh8.out (hf8.rd.alloc _)).mono ?_; rw [hfi'.out]; intro e w9 hgo; obtain ⟨A9, c9, rfl, hl9, hf9, hb9⟩ := gotO_some hgo; clear hgo; have g9 := (g8.alloc g8.size _).trans (hb9.mono (by have := g8.size; simp; omega)); have i9 := (i8.alloc _).below hb9; replace X0k := (X0k.alloc _).keep hb9; replace X1k := (X1k.alloc _).keep hb9; replace X2k := (X2k.alloc _).keep hb9; replace X3k := (X3k.alloc _).keep hb9; clear x0 x1 x2 y0 y1 y2 u0 u1 u2 z0 z1 z2 f0 f1 f2 lX3 lX2; obtain ⟨x0, x1, x2⟩ := X0k.three; obtain ⟨y0, y1, y2⟩ := X1k.three; obtain ⟨u0, u1, u2⟩ := X2k.three; obtain ⟨z0, z1, z2⟩ := X3k.three; have f0 := X3k.frozen 0; have f1 := X3k.frozen 1; have f2 := X3k.frozen 2; have lX3 := X3k.lt; have lX2 := X2k.lt) | (go_at_call 92; refine (shift_any k8 nq qs Q cq d m _ (by omega) (by omega) (by omega) hshq.out (hrq.below gq)).mono ?_; rw [hs8'.out]; intro e w8 hgo; obtain ⟨A8, c8, rfl, hl8, hf8, hb8⟩ := gotO_some hgo; clear hgo; have g8 := gq.trans (hb8.mono gq.size); have m8 := rM.below hb8; have i8 := hik.below hb8; replace X0k := X0k.keep hb8; replace X1k := X1k.keep hb8; replace X2k := X2k.keep hb8; replace X3k := X3k.keep hb8; clear x0 x1 x2 y0 y1 y2 u0 u1 u2 z0 z1 z2 f0 f1 f2 lX3 lX2; obtain ⟨x0, x1, x2⟩ := X0k.three; obtain ⟨y0, y1, y2⟩ := X1k.three; obtain ⟨u0, u1, u2⟩ := X2k.three; obtain ⟨z0, z1, z2⟩ := X3k.three; have f0 := X3k.frozen 0; have f1 := X3k.frozen 1; have f2 := X3k.frozen 2; have lX3 := X3k.lt; have lX2 := X2k.lt))
                  rw [hres2.out]
                  have gl := g12.size
                  refine bodyPost_ret (v := .tuple #[.agg #[.int .i64 0, .int .i64 0, .slice none 0 0], .bool false]) (by simp [results, Try.results48, go_sem, z0, z1, z2, lX3]) rfl (gotX_none rfl ?_)
                  first
                    | exact ((g12.setCell (by simp; omega) _).setCell (by simp; omega) _).setCell (by simp; omega) _
                    | exact (((g12.setCell (by simp; omega) _).setCell (by simp; omega) _).setCell (by simp; omega) _).alloc (by simp; omega) _
                    | exact (((g12.alloc g12.size _).setCell (by simp; omega) _).setCell (by simp; omega) _).setCell (by simp; omega) _
                | true =>
                  have hres2 := hide (show lo = some (.mk ko no os) by rw [hres.out, vO, if_pos hvo])
                  have hso := validT_size hvo
                  rw [Tm.size] at hso
                  have hvo' := hide hvo
                  clear hvo hres
                  go_wp2_with (first | (go_at_call 82; refine (valid_yes ko no os A11 c11 _ (by omega) hf11.rd hvo'.out).mono ?_; rintro e w12 ⟨rfl, hb12⟩; have g12 := g11.trans (hb12.mono g11.size); have f11 := hf11.below hb12; replace X0k := X0k.keep hb12; replace X1k := X1k.keep hb12; replace X2k := X2k.keep hb12; replace X3k := X3k.keep hb12; clear x0 x1 x2 y0 y1 y2 u0 u1 u2 z0 z1 z2 f0 f1 f2 lX3 lX2; obtain ⟨x0, x1, x2⟩ := X0k.three; obtain ⟨y0, y1, y2⟩ := X1k.three; obtain ⟨u0, u1, u2⟩ := X2k.three; obtain ⟨z0, z1, z2⟩ := X3k.three; have f0 := X3k.frozen 0; have f1 := X3k.frozen 1; have f2 := X3k.frozen 2; have lX3 := X3k.lt; have lX2 := X2k.lt) | (go_at_call 94; refine (own_any (sizes os + 1) ko no os A10 c10 _ (by omega) (by omega) hr10.rd).mono ?_; rintro e w11 ⟨A11, c11, rfl, hl11, hf11, hb11⟩; have g11 := g10.trans (hb11.mono g10.size); replace X0k := X0k.keep hb11; replace X1k := X1k.keep hb11; replace X2k := X2k.keep hb11; replace X3k := X3k.keep hb11; clear x0 x1 x2 y0 y1 y2 u0 u1 u2 z0 z1 z2 f0 f1 f2 lX3 lX2; obtain ⟨x0, x1, x2⟩ := X0k.three; obtain ⟨y0, y1, y2⟩ := X1k.three; obtain ⟨u0, u1, u2⟩ := X2k.three; obtain ⟨z0, z1, z2⟩ := X3k.three; have f0 := X3k.frozen 0; have f1 := X3k.frozen 1; have f2 := X3k.frozen 2; have lX3 := X3k.lt; have lX2 := X2k.lt) | (go_at_call 95; refine (iPut_any (fun b => b < w9.heap.size) kv nv vs (by omega) x k n ks A c B cB A9 c9 _ (.mk ku nu us) hu'.out hcl (by omega) ((hr.below g9).rdp.alloc _) (i9.alloc _) (hf9.rd.rdp.alloc _) (fun b hb => by have : b < w9.heap.size := hb; simp; omega)).mono ?_; rw [hpo'.out]; intro e w10 hgo; obtain ⟨A10, c10, rfl, hl10, hr10, hb10⟩ := gotQ_mk hgo; clear hgo; have g10 := (g9.alloc g9.size _).trans (hb10.mono (by have := g9.size; simp; omega)); replace X0k := (X0k.alloc _).keep hb10; replace X1k := (X1k.alloc _).keep hb10; replace X2k := (X2k.alloc _).keep hb10; replace X3k := (X3k.alloc _).keep hb10; clear x0 x1 x2 y0 y1 y2 u0 u1 u2 z0 z1 z2 f0 f1 f2 lX3 lX2; obtain ⟨x0, x1, x2⟩ := X0k.three; obtain ⟨y0, y1, y2⟩ := X1k.three; obtain ⟨u0, u1, u2⟩ := X2k.three; obtain ⟨z0, z1, z2⟩ := X3k.three; have f0 := X3k.frozen 0; have f1 := X3k.frozen 1; have f2 := X3k.frozen 2; have lX3 := X3k.lt; have lX2 := X2k.lt; have l10 := lX3) | (go_at_call 59; refine (fill_any k8 n8 s8 A8 c8 LL A5 c5 _ (by omega) hLv.out (by omega) (m8.alloc _) (by omega) hsh8.out (hf8.rd.alloc _)).mono ?_; rw [hfi'.out]; intro e w9 hgo; obtain ⟨A9, c9, rfl, hl9, hf9, hb9⟩ := gotO_some hgo; clear hgo; have g9 := (g8.alloc g8.size _).trans (hb9.mono (by have := g8.size; simp; omega)); have i9 := (i8.alloc _).below hb9; replace X0k := (X0k.alloc _).keep hb9; replace X1k := (X1k.alloc _).keep hb9; replace X2k := (X2k.alloc _).keep hb9; replace X3k := (X3k.alloc _).keep hb9; clear x0 x1 x2 y0 y1 y2 u0 u1 u2 z0 z1 z2 f0 f1 f2 lX3 lX2; obtain ⟨x0, x1, x2⟩ := X0k.three; obtain ⟨y0, y1, y2⟩ := X1k.three; obtain ⟨u0, u1, u2⟩ := X2k.three; obtain ⟨z0, z1, z2⟩ := X3k.three; have f0 := X3k.frozen 0; have f1 := X3k.frozen 1; have f2 := X3k.frozen 2; have lX3 := X3k.lt; have lX2 := X2k.lt) | (go_at_call 92; refine (shift_any k8 nq qs Q cq d m _ (by omega) (by omega) (by omega) hshq.out (hrq.below gq)).mono ?_; rw [hs8'.out]; intro e w8 hgo; obtain ⟨A8, c8, rfl, hl8, hf8, hb8⟩ := gotO_some hgo; clear hgo; have g8 := gq.trans (hb8.mono gq.size); have m8 := rM.below hb8; have i8 := hik.below hb8; replace X0k := X0k.keep hb8; replace X1k := X1k.keep hb8; replace X2k := X2k.keep hb8; replace X3k := X3k.keep hb8; clear x0 x1 x2 y0 y1 y2 u0 u1 u2 z0 z1 z2 f0 f1 f2 lX3 lX2; obtain ⟨x0, x1, x2⟩ := X0k.three; obtain ⟨y0, y1, y2⟩ := X1k.three; obtain ⟨u0, u1, u2⟩ := X2k.three; obtain ⟨z0, z1, z2⟩ := X3k.three; have f0 := X3k.frozen 0; have f1 := X3k.frozen 1; have f2 := X3k.frozen 2; have lX3 := X3k.lt; have lX2 := X2k.lt))
                  have gl := g12.size
                  have gl10 := g10.size
                  refine bodyPost_ret (v := .tuple #[.agg #[.int .i64 ko, .int .i64 no, .slice A11 os.length c11], .bool true]) (by simp [results, Try.results48, go_sem, z0, z1, z2]) rfl ⟨ko, no, os, A11, c11, by rw [hres2.out]; rfl, hide (by rw [hres2.out]; rfl), by omega, ?_, ?_⟩
                  · exact (((f11.rdp.setCell (a := ⟨(w.heap.size + 1 + 1 + 1), 0, none⟩) (by simp; omega) _).setCell (a := ⟨(w.heap.size + 1 + 1 + 1), 1, none⟩) (by simp; omega) _).setCell (a := ⟨(w.heap.size + 1 + 1 + 1), 2, none⟩) (by simp; omega) _).rd
                  · exact ((g12.setCell (by simp; omega) _).setCell (by simp; omega) _).setCell (by simp; omega) _
      · have hjl : j = L.length := by omega
        have hres := hide (show lo = none by rw [hlo.out, hjl, List.drop_length]; rfl)
        have hnl : ¬ ((j : Int) < (L.length : Int)) := by omega
        go_wp2_with fail
        rw [hres.out]
        have gl := g1.size
        refine bodyPost_ret (v := .tuple #[.agg #[.int .i64 0, .int .i64 0, .slice none 0 0], .bool false]) (by simp [results, Try.results48, go_sem, z0, z1, z2, lX3]) rfl (gotX_none rfl ?_)
        first
          | exact ((g1.setCell (by simp; omega) _).setCell (by simp; omega) _).setCell (by simp; omega) _
          | exact (((g1.setCell (by simp; omega) _).setCell (by simp; omega) _).setCell (by simp; omega) _).alloc (by simp; omega) _
          | exact (((g1.alloc g1.size _).setCell (by simp; omega) _).setCell (by simp; omega) _).setCell (by simp; omega) _
end Go.Proofs.Ytodkenpmhhbppaa
