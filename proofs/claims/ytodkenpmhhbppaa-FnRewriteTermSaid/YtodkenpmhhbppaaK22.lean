/-
  Contracts of the functions that the law reaches, and plain lemmas. No condition.
-/
import Derived.Test.YtodkenpmhhbppaaK2
import Derived.Test.YtodkenpmhhbppaaK5
import Derived.Test.YtodkenpmhhbppaaK14
import Derived.Test.YtodkenpmhhbppaaK21
namespace Go.Proofs.Ytodkenpmhhbppaa
set_option linter.unusedSimpArgs false
set_option linter.unusedVariables false
open Go.RowKit
set_option maxHeartbeats 1000000 in
set_option maxRecDepth 100000 in
theorem sOwnK_of {M : Nat} (hL : ∀ (ks : List Tm) (A : Option Addr) (c : Nat) (w : World), sizes ks < M → sizes ks ≤ 1099511627776 → Rd w A 0 ks → Calls Try.prog 139 #[.slice A ks.length c] w (GotL w ks))
    (k n : Int) (ks : List Tm) (A : Option Addr) (c : Nat) (w : World) (hs : sizes ks < M) (hM : sizes ks ≤ 1099511627776) (hr : Rd w A 0 ks) :
    Calls Try.prog 96 #[.agg #[.int .i64 k, .int .i64 n, .slice A ks.length c]] w (GotT w k n ks) := by
  have hlen := length_le_sizes ks
  go_enter Try.func96, Try.ntmps96
  go_wp2_with fail
  go_at_call 139
  refine (hL ks A c _ hs hM ((hr.alloc _).alloc _)).mono ?_
  rintro e w1 ⟨A1, c1, rfl, hf1, hb1⟩
  have hB1 : Blk w1 w.heap.size #[.int .i64 k, .int .i64 n, .slice A ks.length c] := ((Blk.new_ w 25 #[.int .i64 k, .int .i64 n, .slice A ks.length c] rfl).alloc (.cells #[.int .i64 0, .int .i64 0, .slice none 0 0] 25)).keep hb1
  have hB2 : Blk w1 (w.heap.size + 1) #[.int .i64 0, .int .i64 0, .slice none 0 0] := (Blk.new_ (w.alloc (.cells #[.int .i64 k, .int .i64 n, .slice A ks.length c] 25)) 25 #[.int .i64 0, .int .i64 0, .slice none 0 0] (by simp)).keep hb1
  have hb : Below w.heap.size w w1 := (((Below.refl _ _).alloc (Nat.le_refl _) _).alloc (by simp) _).trans (hb1.mono (by simp; omega))
  have s1 : w.heap.size + 1 + 1 ≤ w1.heap.size := (by have := hb1.size; simpa using this)
  have c0 : w1.cell? ⟨w.heap.size, 0, none⟩ = some (.int .i64 k) := hB1.at_ rfl
  have c1' : w1.cell? ⟨w.heap.size, 1, none⟩ = some (.int .i64 n) := hB1.at_ rfl
  have c2 : w1.cell? ⟨w.heap.size, 2, none⟩ = some (.slice A ks.length c) := hB1.at_ rfl
  have d0 : w1.cell? ⟨w.heap.size + 1, 0, none⟩ = some (.int .i64 0) := hB2.at_ rfl
  have d1 : w1.cell? ⟨w.heap.size + 1, 1, none⟩ = some (.int .i64 0) := hB2.at_ rfl
  have d2 : w1.cell? ⟨w.heap.size + 1, 2, none⟩ = some (.slice none 0 0) := hB2.at_ rfl
  have z2 := hB1.frozen 2
  have e0 := hB2.frozen 0
  have e1 := hB2.frozen 1
  have e2 := hB2.frozen 2
  go_wp2_with fail
  refine bodyPost_ret (v := .agg #[.int .i64 k, .int .i64 n, .slice A1 ks.length c1]) (by simp [results, Try.results96, go_sem, d0, d1, d2]) rfl ⟨A1, c1, rfl, by omega, ?_, ?_⟩
  · exact ((((hf1.setCell (by simp <;> omega) _).setCell (by simp <;> omega) _).setCell (by simp <;> omega) _).setCell (by simp <;> omega) _).mono (by simp <;> omega)
  · exact ((((hb.setCell (by simp) _).setCell (by simp) _).setCell (by simp) _).setCell (by simp) _)
set_option maxHeartbeats 1000000 in
set_option maxRecDepth 100000 in
theorem sOwnL_any (N : Nat) : ∀ (ks : List Tm) (A : Option Addr) (c : Nat) (w : World), sizes ks < N → sizes ks ≤ 1099511627776 → Rd w A 0 ks →
    Calls Try.prog 139 #[.slice A ks.length c] w (GotL w ks) := by
  induction N with
  | zero => intro ks A c w hN; exact absurd hN (Nat.not_lt_zero _)
  | succ N ih =>
  intro ks A c w hN hM hr
  have hlen := length_le_sizes ks
  go_enter Try.func139, Try.ntmps139
  go_wp2_with fail
  go_loopw [3, 9] (fun v i wr => ∃ (j : Nat), j ≤ ks.length ∧ i = .int .i64 j ∧ Part w.heap.size wr v (ks.take j) ∧ Below w.heap.size w wr)
    (fun _ i _ => ks.length - (intOf i).toNat)
  case atStart => exact ⟨0, Nat.zero_le _, rfl, Part.empty_ rfl (Nat.le_refl _), (Below.refl _ _).alloc (Nat.le_refl _) _⟩
  case round =>
    obtain ⟨j, hj, rfl, hp, hb⟩ := hrel
    by_cases hlt : j < ks.length
    · obtain ⟨b, off, k', n', ks', A', c', rfl, hkj, hc1, hc2, hc3, hl', hr'⟩ := (hr.below hb).at_ hlt
      have hsz := sizes_le (List.getElem_mem hlt)
      rw [hkj] at hsz
      simp only [Tm.size] at hsz
      have H3 := hide hkj
      clear hkj
      go_wp2_with (first | (go_at_call 96; refine (sOwnK_of ih k' n' ks' A' c' _ (by omega) (by omega) (hr'.alloc _)).mono ?_; rintro e w1 ⟨A1, c1, rfl, hl1, hf1, hb1⟩) | (at_builtin; refine wpList_append_built (B := w.heap.size) (m := j) (hp.alloc _) hb1 (by simp; have := hb.size; omega) hf1 hl1 (by simp; omega) (by omega) rfl _ _ rfl rfl rfl ?_; intro A2 c2 w2 hp2 hb2 hg2))
      go_roundw
      case rel => exact ⟨j + 1, by omega, by go_num, by rw [List.take_succ_eq_append_getElem hlt, H3.out]; exact hp2, (hb.trans (((Below.refl _ _).alloc (Nat.le_refl _) _).trans (hb1.mono (by simp)) |>.mono hb.size)).trans hb2⟩
      case measure => simp [intOf]; omega
    · have hjl : j = ks.length := by omega
      subst hjl
      rw [List.take_length] at hp
      obtain ⟨Ar, cr, rfl, hfr⟩ := hp.fresh
      go_wp2_with fail
      go_ret
      exact ⟨Ar, cr, rfl, hfr, hb⟩
/-- l19OwnTerm -/
theorem sOwn_any (k n : Int) (ks : List Tm) (A : Option Addr) (c : Nat) (w : World) (hM : sizes ks ≤ 1099511627776) (hr : Rd w A 0 ks) :
    Calls Try.prog 96 #[.agg #[.int .i64 k, .int .i64 n, .slice A ks.length c]] w (GotT w k n ks) := sOwnK_of (sOwnL_any (sizes ks + 1)) k n ks A c w (by omega) hM hr
open Go.RowKit
theorem name_callsR {P : Program} {f : FuncId} {args : Array Value} {w : World} {Q : Ending → World → Prop} (h : ∀ wx, wx = w → Calls P f args wx Q) : Calls P f args w Q := h w rfl
/-- a term, if there is one, and whether there is one -/
def GotX (w : World) (o : Option Tm) (e : Ending) (w' : World) : Prop :=
  ∃ k n ks A c, e = .returned (.tuple #[.agg #[.int .i64 k, .int .i64 n, .slice A ks.length c], .bool o.isSome]) ∧ Hid (o.getD (.mk 0 0 []) = .mk k n ks) ∧ sizes ks ≤ 400 ∧ Rd w' A 0 ks ∧ Below w.heap.size w w'
theorem gotX_none {w w' : World} {o : Option Tm} (ho : o = none) (hb : Below w.heap.size w w') : GotX w o (.returned (.tuple #[.agg #[.int .i64 0, .int .i64 0, .slice none 0 0], .bool false])) w' := by
  subst ho; exact ⟨0, 0, [], none, 0, rfl, hide rfl, by simp [sizes], Rd.nil, hb⟩
theorem rwTS_no {p q t : Tm} {z : Int} (h : validT p = false ∨ validT q = false ∨ validT t = false) : rwTS p z q t = none := by
  unfold rwTS; rw [if_neg]; rintro ⟨h1, h2, h3, -⟩; rcases h with h | h | h
  · rw [h1] at h; cases h
  · rw [h2] at h; cases h
  · rw [h3] at h; cases h
theorem rwTS_yes {p q t : Tm} {m : Nat} (hm : m ≤ 6) (h1 : validT p = true) (h2 : validT q = true) (h3 : validT t = true) : rwTS p m q t = (rwS m p q t).bind vO := by
  unfold rwTS; rw [if_pos ⟨h1, h2, h3, by omega, by omega⟩]; rfl
set_option maxHeartbeats 8000000 in
set_option maxRecDepth 100000 in
theorem sRewriteTerm_any (kp np : Int) (ps : List Tm) (P : Option Addr) (cp : Nat) (m : Nat) (hm : m ≤ 6) (kq nq : Int) (qs : List Tm) (Q : Option Addr) (cq : Nat) (k n : Int) (ks : List Tm) (A : Option Addr) (c : Nat) (w : World) (hMp : sizes ps ≤ 1000000) (hMq : sizes qs ≤ 1000000) (hMt : sizes ks ≤ 1000000) (hp3 : validT (.mk kp np ps) = true → hiN 3 (.mk kp np ps) = true) (hq3 : validT (.mk kq nq qs) = true → hiN 3 (.mk kq nq qs) = true) (hg : validT (.mk k n ks) = true → hgB 18 (.mk k n ks) = true) (hrp : Rd w P 0 ps) (hrq : Rd w Q 0 qs) (hr : Rd w A 0 ks) :
    Calls Try.prog 49 #[.agg #[.int .i64 kp, .int .i64 np, .slice P ps.length cp], .int .i64 m, .agg #[.int .i64 kq, .int .i64 nq, .slice Q qs.length cq], .agg #[.int .i64 k, .int .i64 n, .slice A ks.length c]] w (GotX w (rwTS (.mk kp np ps) m (.mk kq nq qs) (.mk k n ks))) := by
  have hlp := length_le_sizes ps
  have hlq := length_le_sizes qs
  have hlt := length_le_sizes ks
  have hlt1 : decide ((m : Int) < 0) = false := decide_eq_false (by omega)
  have hlt2 : decide ((6 : Int) < (m : Int)) = false := decide_eq_false (by omega)
  cases hvp : validT (.mk kp np ps) with
  | false =>
    have hzz := rwTS_no (z := m) (q := .mk kq nq qs) (t := .mk k n ks) (Or.inl hvp)
    rw [hzz]
    have hvp' := hide hvp
    clear hvp hzz hp3 hq3 hg
    go_enter Try.func49, Try.ntmps49
    go_wp2_with (go_at_call 96; refine (sOwn_any k n ks A c _ (by omega) ((((hr.alloc _).alloc _).alloc _).alloc _)).mono ?_; rintro e w1 ⟨A1, c1, rfl, hl1, hf1, hb1⟩; have V0 : Blk w1 w.heap.size #[.int .i64 kp, .int .i64 np, .slice P ps.length cp] := ((((Blk.new_ w 25 #[.int .i64 kp, .int .i64 np, .slice P ps.length cp] rfl).alloc _).alloc _).alloc _).keep hb1; have V2 : Blk w1 (w.heap.size + 1 + 1) #[.int .i64 k, .int .i64 n, .slice A ks.length c] := ((Blk.new_ _ 25 #[.int .i64 k, .int .i64 n, .slice A ks.length c] (by simp)).alloc _).keep hb1; obtain ⟨x0, x1, x2⟩ := V0.three; have f0 := V2.frozen 0; have f1 := V2.frozen 1; have f2 := V2.frozen 2; obtain ⟨u0, u1, u2⟩ := V2.three)
    refine name_callsR ?_
    intro w2 hw2
    have g1 : Below w.heap.size w w1 := (((((Below.refl _ _).alloc (Nat.le_refl _) _).alloc (by simp) _).alloc (by simp; omega) _).alloc (by simp; omega) _).trans (hb1.mono (by simp; omega))
    have l1 : w.heap.size + 1 + 1 + 1 + 1 ≤ w1.heap.size := by have := hb1.size; simpa using this
    have X0 : Blk w2 w.heap.size #[.int .i64 kp, .int .i64 np, .slice P ps.length cp] := by rw [hw2]; exact (((((((Blk.new_ w 25 #[.int .i64 kp, .int .i64 np, .slice P ps.length cp] rfl).alloc _).alloc _).alloc _).keep hb1).far (by first | (simp; done) | (simp; omega)) _).far (by first | (simp; done) | (simp; omega)) _).far (by first | (simp; done) | (simp; omega)) _
    have X1 : Blk w2 (w.heap.size + 1) #[.int .i64 kq, .int .i64 nq, .slice Q qs.length cq] := by rw [hw2]; exact ((((((Blk.new_ _ 25 #[.int .i64 kq, .int .i64 nq, .slice Q qs.length cq] (by simp)).alloc _).alloc _).keep hb1).far (by first | (simp; done) | (simp; omega)) _).far (by first | (simp; done) | (simp; omega)) _).far (by first | (simp; done) | (simp; omega)) _
    have X2 : Blk w2 (w.heap.size + 1 + 1) #[.int .i64 k, .int .i64 n, .slice A1 ks.length c1] := by rw [hw2]; exact (((((Blk.new_ _ 25 #[.int .i64 k, .int .i64 n, .slice A ks.length c] (by simp)).alloc _).keep hb1).set_ 0 _).set_ 1 _).set_ 2 _
    have X3 : Blk w2 (w.heap.size + 1 + 1 + 1) #[.int .i64 0, .int .i64 0, .slice none 0 0] := by rw [hw2]; exact ((((Blk.new_ _ 25 #[.int .i64 0, .int .i64 0, .slice none 0 0] (by simp)).keep hb1).far (by first | (simp; done) | (simp; omega)) _).far (by first | (simp; done) | (simp; omega)) _).far (by first | (simp; done) | (simp; omega)) _
    have g2 : Below w.heap.size w w2 := by rw [hw2]; exact ((g1.setCell (by simp; omega) _).setCell (by simp; omega) _).setCell (by simp; omega) _
    have rt : RdP (fun b => w.heap.size + 1 + 1 + 1 + 1 ≤ b ∧ b < w1.heap.size) w2 A1 0 ks := by rw [hw2]; exact (((hf1.rdp.mono (fun b hb => by have h1 := hb.1; simp at h1; exact ⟨by omega, hb.2⟩)).setCell (a := ⟨(w.heap.size + 1 + 1), 0, none⟩) (by simp; omega) _).setCell (a := ⟨(w.heap.size + 1 + 1), 1, none⟩) (by simp; omega) _).setCell (a := ⟨(w.heap.size + 1 + 1), 2, none⟩) (by simp; omega) _
    have l2 : w1.heap.size ≤ w2.heap.size := by rw [hw2]; simp
    have rp := hrp.below g2
    have rq := hrq.below g2
    clear hw2 x0 x1 x2 f0 f1 f2 u0 u1 u2 V0 V2
    have lX3 := X3.lt
    obtain ⟨x0, x1, x2⟩ := X0.three
    obtain ⟨y0, y1, y2⟩ := X1.three
    obtain ⟨u0, u1, u2⟩ := X2.three
    obtain ⟨z0, z1, z2⟩ := X3.three
    have f0 := X3.frozen 0
    have f1 := X3.frozen 1
    have f2 := X3.frozen 2
    have tokP := True.intro
    go_wp2_with (first | (go_at_call 60; have _t := tokP; refine (sTermValid_any kp np ps P cp _ (by omega) rp).mono ?_; rw [hvp'.out]; rintro e w3 ⟨rfl, hb3⟩; have g3 := g2.trans (hb3.mono g2.size); have b3 := hb3; replace X0 := X0.keep hb3; replace X1 := X1.keep hb3; replace X2 := X2.keep hb3; replace X3 := X3.keep hb3; clear x0 x1 x2 y0 y1 y2 u0 u1 u2 z0 z1 z2 f0 f1 f2; obtain ⟨x0, x1, x2⟩ := X0.three; obtain ⟨y0, y1, y2⟩ := X1.three; obtain ⟨u0, u1, u2⟩ := X2.three; obtain ⟨z0, z1, z2⟩ := X3.three; have f0 := X3.frozen 0; have f1 := X3.frozen 1; have f2 := X3.frozen 2; clear tokP _t; have tokQ := trivial))
    have gf := g3
    have gl := gf.size
    refine bodyPost_ret (v := .tuple #[.agg #[.int .i64 0, .int .i64 0, .slice none 0 0], .bool false]) (by simp [results, Try.results49, go_sem, z0, z1, z2]) rfl (gotX_none rfl ?_)
    exact ((gf.setCell (by simp; omega) _).setCell (by simp; omega) _).setCell (by simp; omega) _
  | true =>
  cases hvq : validT (.mk kq nq qs) with
  | false =>
    have hzz := rwTS_no (p := .mk kp np ps) (z := m) (t := .mk k n ks) (Or.inr (Or.inl hvq))
    rw [hzz]
    have hvp' := hide hvp
    have hvq' := hide hvq
    clear hvp hvq hzz hp3 hq3 hg
    go_enter Try.func49, Try.ntmps49
    go_wp2_with (go_at_call 96; refine (sOwn_any k n ks A c _ (by omega) ((((hr.alloc _).alloc _).alloc _).alloc _)).mono ?_; rintro e w1 ⟨A1, c1, rfl, hl1, hf1, hb1⟩; have V0 : Blk w1 w.heap.size #[.int .i64 kp, .int .i64 np, .slice P ps.length cp] := ((((Blk.new_ w 25 #[.int .i64 kp, .int .i64 np, .slice P ps.length cp] rfl).alloc _).alloc _).alloc _).keep hb1; have V2 : Blk w1 (w.heap.size + 1 + 1) #[.int .i64 k, .int .i64 n, .slice A ks.length c] := ((Blk.new_ _ 25 #[.int .i64 k, .int .i64 n, .slice A ks.length c] (by simp)).alloc _).keep hb1; obtain ⟨x0, x1, x2⟩ := V0.three; have f0 := V2.frozen 0; have f1 := V2.frozen 1; have f2 := V2.frozen 2; obtain ⟨u0, u1, u2⟩ := V2.three)
    refine name_callsR ?_
    intro w2 hw2
    have g1 : Below w.heap.size w w1 := (((((Below.refl _ _).alloc (Nat.le_refl _) _).alloc (by simp) _).alloc (by simp; omega) _).alloc (by simp; omega) _).trans (hb1.mono (by simp; omega))
    have l1 : w.heap.size + 1 + 1 + 1 + 1 ≤ w1.heap.size := by have := hb1.size; simpa using this
    have X0 : Blk w2 w.heap.size #[.int .i64 kp, .int .i64 np, .slice P ps.length cp] := by rw [hw2]; exact (((((((Blk.new_ w 25 #[.int .i64 kp, .int .i64 np, .slice P ps.length cp] rfl).alloc _).alloc _).alloc _).keep hb1).far (by first | (simp; done) | (simp; omega)) _).far (by first | (simp; done) | (simp; omega)) _).far (by first | (simp; done) | (simp; omega)) _
    have X1 : Blk w2 (w.heap.size + 1) #[.int .i64 kq, .int .i64 nq, .slice Q qs.length cq] := by rw [hw2]; exact ((((((Blk.new_ _ 25 #[.int .i64 kq, .int .i64 nq, .slice Q qs.length cq] (by simp)).alloc _).alloc _).keep hb1).far (by first | (simp; done) | (simp; omega)) _).far (by first | (simp; done) | (simp; omega)) _).far (by first | (simp; done) | (simp; omega)) _
    have X2 : Blk w2 (w.heap.size + 1 + 1) #[.int .i64 k, .int .i64 n, .slice A1 ks.length c1] := by rw [hw2]; exact (((((Blk.new_ _ 25 #[.int .i64 k, .int .i64 n, .slice A ks.length c] (by simp)).alloc _).keep hb1).set_ 0 _).set_ 1 _).set_ 2 _
    have X3 : Blk w2 (w.heap.size + 1 + 1 + 1) #[.int .i64 0, .int .i64 0, .slice none 0 0] := by rw [hw2]; exact ((((Blk.new_ _ 25 #[.int .i64 0, .int .i64 0, .slice none 0 0] (by simp)).keep hb1).far (by first | (simp; done) | (simp; omega)) _).far (by first | (simp; done) | (simp; omega)) _).far (by first | (simp; done) | (simp; omega)) _
    have g2 : Below w.heap.size w w2 := by rw [hw2]; exact ((g1.setCell (by simp; omega) _).setCell (by simp; omega) _).setCell (by simp; omega) _
    have rt : RdP (fun b => w.heap.size + 1 + 1 + 1 + 1 ≤ b ∧ b < w1.heap.size) w2 A1 0 ks := by rw [hw2]; exact (((hf1.rdp.mono (fun b hb => by have h1 := hb.1; simp at h1; exact ⟨by omega, hb.2⟩)).setCell (a := ⟨(w.heap.size + 1 + 1), 0, none⟩) (by simp; omega) _).setCell (a := ⟨(w.heap.size + 1 + 1), 1, none⟩) (by simp; omega) _).setCell (a := ⟨(w.heap.size + 1 + 1), 2, none⟩) (by simp; omega) _
    have l2 : w1.heap.size ≤ w2.heap.size := by rw [hw2]; simp
    have rp := hrp.below g2
    have rq := hrq.below g2
    clear hw2 x0 x1 x2 f0 f1 f2 u0 u1 u2 V0 V2
    have lX3 := X3.lt
    obtain ⟨x0, x1, x2⟩ := X0.three
    obtain ⟨y0, y1, y2⟩ := X1.three
    obtain ⟨u0, u1, u2⟩ := X2.three
    obtain ⟨z0, z1, z2⟩ := X3.three
    have f0 := X3.frozen 0
    have f1 := X3.frozen 1
    have f2 := X3.frozen 2
    have tokP := True.intro
    go_wp2_with (first | (go_at_call 60; have _t := tokQ; refine (sTermValid_any kq nq qs Q cq _ (by omega) (rq.below b3)).mono ?_; rw [hvq'.out]; rintro e w4 ⟨rfl, hb4⟩; have g4 := g3.trans (hb4.mono g3.size); have b4 := b3.trans (hb4.mono b3.size); replace X0 := X0.keep hb4; replace X1 := X1.keep hb4; replace X2 := X2.keep hb4; replace X3 := X3.keep hb4; clear x0 x1 x2 y0 y1 y2 u0 u1 u2 z0 z1 z2 f0 f1 f2; obtain ⟨x0, x1, x2⟩ := X0.three; obtain ⟨y0, y1, y2⟩ := X1.three; obtain ⟨u0, u1, u2⟩ := X2.three; obtain ⟨z0, z1, z2⟩ := X3.three; have f0 := X3.frozen 0; have f1 := X3.frozen 1; have f2 := X3.frozen 2; clear tokQ _t; have tokT := trivial) | (go_at_call 60; have _t := tokP; refine (sTermValid_any kp np ps P cp _ (by omega) rp).mono ?_; rw [hvp'.out]; rintro e w3 ⟨rfl, hb3⟩; have g3 := g2.trans (hb3.mono g2.size); have b3 := hb3; replace X0 := X0.keep hb3; replace X1 := X1.keep hb3; replace X2 := X2.keep hb3; replace X3 := X3.keep hb3; clear x0 x1 x2 y0 y1 y2 u0 u1 u2 z0 z1 z2 f0 f1 f2; obtain ⟨x0, x1, x2⟩ := X0.three; obtain ⟨y0, y1, y2⟩ := X1.three; obtain ⟨u0, u1, u2⟩ := X2.three; obtain ⟨z0, z1, z2⟩ := X3.three; have f0 := X3.frozen 0; have f1 := X3.frozen 1; have f2 := X3.frozen 2; clear tokP _t; have tokQ := trivial))
    have gf := g4
    have gl := gf.size
    refine bodyPost_ret (v := .tuple #[.agg #[.int .i64 0, .int .i64 0, .slice none 0 0], .bool false]) (by simp [results, Try.results49, go_sem, z0, z1, z2]) rfl (gotX_none rfl ?_)
    exact ((gf.setCell (by simp; omega) _).setCell (by simp; omega) _).setCell (by simp; omega) _
  | true =>
  cases hvt : validT (.mk k n ks) with
  | false =>
    have hzz := rwTS_no (p := .mk kp np ps) (z := m) (q := .mk kq nq qs) (Or.inr (Or.inr hvt))
    rw [hzz]
    have hvp' := hide hvp
    have hvq' := hide hvq
    have hvt' := hide hvt
    clear hvp hvq hvt hzz hp3 hq3 hg
    go_enter Try.func49, Try.ntmps49
    go_wp2_with (go_at_call 96; refine (sOwn_any k n ks A c _ (by omega) ((((hr.alloc _).alloc _).alloc _).alloc _)).mono ?_; rintro e w1 ⟨A1, c1, rfl, hl1, hf1, hb1⟩; have V0 : Blk w1 w.heap.size #[.int .i64 kp, .int .i64 np, .slice P ps.length cp] := ((((Blk.new_ w 25 #[.int .i64 kp, .int .i64 np, .slice P ps.length cp] rfl).alloc _).alloc _).alloc _).keep hb1; have V2 : Blk w1 (w.heap.size + 1 + 1) #[.int .i64 k, .int .i64 n, .slice A ks.length c] := ((Blk.new_ _ 25 #[.int .i64 k, .int .i64 n, .slice A ks.length c] (by simp)).alloc _).keep hb1; obtain ⟨x0, x1, x2⟩ := V0.three; have f0 := V2.frozen 0; have f1 := V2.frozen 1; have f2 := V2.frozen 2; obtain ⟨u0, u1, u2⟩ := V2.three)
    refine name_callsR ?_
    intro w2 hw2
    have g1 : Below w.heap.size w w1 := (((((Below.refl _ _).alloc (Nat.le_refl _) _).alloc (by simp) _).alloc (by simp; omega) _).alloc (by simp; omega) _).trans (hb1.mono (by simp; omega))
    have l1 : w.heap.size + 1 + 1 + 1 + 1 ≤ w1.heap.size := by have := hb1.size; simpa using this
    have X0 : Blk w2 w.heap.size #[.int .i64 kp, .int .i64 np, .slice P ps.length cp] := by rw [hw2]; exact (((((((Blk.new_ w 25 #[.int .i64 kp, .int .i64 np, .slice P ps.length cp] rfl).alloc _).alloc _).alloc _).keep hb1).far (by first | (simp; done) | (simp; omega)) _).far (by first | (simp; done) | (simp; omega)) _).far (by first | (simp; done) | (simp; omega)) _
    have X1 : Blk w2 (w.heap.size + 1) #[.int .i64 kq, .int .i64 nq, .slice Q qs.length cq] := by rw [hw2]; exact ((((((Blk.new_ _ 25 #[.int .i64 kq, .int .i64 nq, .slice Q qs.length cq] (by simp)).alloc _).alloc _).keep hb1).far (by first | (simp; done) | (simp; omega)) _).far (by first | (simp; done) | (simp; omega)) _).far (by first | (simp; done) | (simp; omega)) _
    have X2 : Blk w2 (w.heap.size + 1 + 1) #[.int .i64 k, .int .i64 n, .slice A1 ks.length c1] := by rw [hw2]; exact (((((Blk.new_ _ 25 #[.int .i64 k, .int .i64 n, .slice A ks.length c] (by simp)).alloc _).keep hb1).set_ 0 _).set_ 1 _).set_ 2 _
    have X3 : Blk w2 (w.heap.size + 1 + 1 + 1) #[.int .i64 0, .int .i64 0, .slice none 0 0] := by rw [hw2]; exact ((((Blk.new_ _ 25 #[.int .i64 0, .int .i64 0, .slice none 0 0] (by simp)).keep hb1).far (by first | (simp; done) | (simp; omega)) _).far (by first | (simp; done) | (simp; omega)) _).far (by first | (simp; done) | (simp; omega)) _
    have g2 : Below w.heap.size w w2 := by rw [hw2]; exact ((g1.setCell (by simp; omega) _).setCell (by simp; omega) _).setCell (by simp; omega) _
    have rt : RdP (fun b => w.heap.size + 1 + 1 + 1 + 1 ≤ b ∧ b < w1.heap.size) w2 A1 0 ks := by rw [hw2]; exact (((hf1.rdp.mono (fun b hb => by have h1 := hb.1; simp at h1; exact ⟨by omega, hb.2⟩)).setCell (a := ⟨(w.heap.size + 1 + 1), 0, none⟩) (by simp; omega) _).setCell (a := ⟨(w.heap.size + 1 + 1), 1, none⟩) (by simp; omega) _).setCell (a := ⟨(w.heap.size + 1 + 1), 2, none⟩) (by simp; omega) _
    have l2 : w1.heap.size ≤ w2.heap.size := by rw [hw2]; simp
    have rp := hrp.below g2
    have rq := hrq.below g2
    clear hw2 x0 x1 x2 f0 f1 f2 u0 u1 u2 V0 V2
    have lX3 := X3.lt
    obtain ⟨x0, x1, x2⟩ := X0.three
    obtain ⟨y0, y1, y2⟩ := X1.three
    obtain ⟨u0, u1, u2⟩ := X2.three
    obtain ⟨z0, z1, z2⟩ := X3.three
    have f0 := X3.frozen 0
    have f1 := X3.frozen 1
    have f2 := X3.frozen 2
    have tokP := True.intro
    go_wp2_with (first | (go_at_call 60; have _t := tokT; refine (sTermValid_any k n ks A1 c1 _ (by omega) (rt.rd.below b4)).mono ?_; rw [hvt'.out]; rintro e w5 ⟨rfl, hb5⟩; have g5 := g4.trans (hb5.mono g4.size); have b5 := b4.trans (hb5.mono b4.size); replace X0 := X0.keep hb5; replace X1 := X1.keep hb5; replace X2 := X2.keep hb5; replace X3 := X3.keep hb5; clear x0 x1 x2 y0 y1 y2 u0 u1 u2 z0 z1 z2 f0 f1 f2; obtain ⟨x0, x1, x2⟩ := X0.three; obtain ⟨y0, y1, y2⟩ := X1.three; obtain ⟨u0, u1, u2⟩ := X2.three; obtain ⟨z0, z1, z2⟩ := X3.three; have f0 := X3.frozen 0; have f1 := X3.frozen 1; have f2 := X3.frozen 2; have s5 := b5.size; clear tokT _t) | (go_at_call 60; have _t := tokQ; refine (sTermValid_any kq nq qs Q cq _ (by omega) (rq.below b3)).mono ?_; rw [hvq'.out]; rintro e w4 ⟨rfl, hb4⟩; have g4 := g3.trans (hb4.mono g3.size); have b4 := b3.trans (hb4.mono b3.size); replace X0 := X0.keep hb4; replace X1 := X1.keep hb4; replace X2 := X2.keep hb4; replace X3 := X3.keep hb4; clear x0 x1 x2 y0 y1 y2 u0 u1 u2 z0 z1 z2 f0 f1 f2; obtain ⟨x0, x1, x2⟩ := X0.three; obtain ⟨y0, y1, y2⟩ := X1.three; obtain ⟨u0, u1, u2⟩ := X2.three; obtain ⟨z0, z1, z2⟩ := X3.three; have f0 := X3.frozen 0; have f1 := X3.frozen 1; have f2 := X3.frozen 2; clear tokQ _t; have tokT := trivial) | (go_at_call 60; have _t := tokP; refine (sTermValid_any kp np ps P cp _ (by omega) rp).mono ?_; rw [hvp'.out]; rintro e w3 ⟨rfl, hb3⟩; have g3 := g2.trans (hb3.mono g2.size); have b3 := hb3; replace X0 := X0.keep hb3; replace X1 := X1.keep hb3; replace X2 := X2.keep hb3; replace X3 := X3.keep hb3; clear x0 x1 x2 y0 y1 y2 u0 u1 u2 z0 z1 z2 f0 f1 f2; obtain ⟨x0, x1, x2⟩ := X0.three; obtain ⟨y0, y1, y2⟩ := X1.three; obtain ⟨u0, u1, u2⟩ := X2.three; obtain ⟨z0, z1, z2⟩ := X3.three; have f0 := X3.frozen 0; have f1 := X3.frozen 1; have f2 := X3.frozen 2; clear tokP _t; have tokQ := trivial))
    have gf := g5
    have gl := gf.size
    refine bodyPost_ret (v := .tuple #[.agg #[.int .i64 0, .int .i64 0, .slice none 0 0], .bool false]) (by simp [results, Try.results49, go_sem, z0, z1, z2]) rfl (gotX_none rfl ?_)
    exact ((gf.setCell (by simp; omega) _).setCell (by simp; omega) _).setCell (by simp; omega) _
  | true =>
    have h3p := hide (hp3 hvp)
    have h3q := hide (hq3 hvq)
    have hgt := hide (hg hvt)
    have hst := validT_size hvt
    rw [Tm.size] at hst
    rw [rwTS_yes hm hvp hvq hvt]
    have hvp' := hide hvp
    have hvq' := hide hvq
    have hvt' := hide hvt
    have e1 := hide (show shS ((0 : Nat) : Int) m (.mk kp np ps) = .mk kp np ps from shS_zero _ _)
    have e2 := hide (show shS ((0 : Nat) : Int) m (.mk kq nq qs) = .mk kq nq qs from shS_zero _ _)
    obtain ⟨oo, hoo⟩ : ∃ oo, rwS m (.mk kp np ps) (.mk kq nq qs) (.mk k n ks) = oo := ⟨_, rfl⟩
    rw [hoo]
    have hoo' := hide hoo
    clear hvp hvq hvt hoo hp3 hq3 hg
    cases oo with
    | none =>
      go_enter Try.func49, Try.ntmps49
      go_wp2_with (go_at_call 96; refine (sOwn_any k n ks A c _ (by omega) ((((hr.alloc _).alloc _).alloc _).alloc _)).mono ?_; rintro e w1 ⟨A1, c1, rfl, hl1, hf1, hb1⟩; have V0 : Blk w1 w.heap.size #[.int .i64 kp, .int .i64 np, .slice P ps.length cp] := ((((Blk.new_ w 25 #[.int .i64 kp, .int .i64 np, .slice P ps.length cp] rfl).alloc _).alloc _).alloc _).keep hb1; have V2 : Blk w1 (w.heap.size + 1 + 1) #[.int .i64 k, .int .i64 n, .slice A ks.length c] := ((Blk.new_ _ 25 #[.int .i64 k, .int .i64 n, .slice A ks.length c] (by simp)).alloc _).keep hb1; obtain ⟨x0, x1, x2⟩ := V0.three; have f0 := V2.frozen 0; have f1 := V2.frozen 1; have f2 := V2.frozen 2; obtain ⟨u0, u1, u2⟩ := V2.three)
      refine name_callsR ?_
      intro w2 hw2
      have g1 : Below w.heap.size w w1 := (((((Below.refl _ _).alloc (Nat.le_refl _) _).alloc (by simp) _).alloc (by simp; omega) _).alloc (by simp; omega) _).trans (hb1.mono (by simp; omega))
      have l1 : w.heap.size + 1 + 1 + 1 + 1 ≤ w1.heap.size := by have := hb1.size; simpa using this
      have X0 : Blk w2 w.heap.size #[.int .i64 kp, .int .i64 np, .slice P ps.length cp] := by rw [hw2]; exact (((((((Blk.new_ w 25 #[.int .i64 kp, .int .i64 np, .slice P ps.length cp] rfl).alloc _).alloc _).alloc _).keep hb1).far (by first | (simp; done) | (simp; omega)) _).far (by first | (simp; done) | (simp; omega)) _).far (by first | (simp; done) | (simp; omega)) _
      have X1 : Blk w2 (w.heap.size + 1) #[.int .i64 kq, .int .i64 nq, .slice Q qs.length cq] := by rw [hw2]; exact ((((((Blk.new_ _ 25 #[.int .i64 kq, .int .i64 nq, .slice Q qs.length cq] (by simp)).alloc _).alloc _).keep hb1).far (by first | (simp; done) | (simp; omega)) _).far (by first | (simp; done) | (simp; omega)) _).far (by first | (simp; done) | (simp; omega)) _
      have X2 : Blk w2 (w.heap.size + 1 + 1) #[.int .i64 k, .int .i64 n, .slice A1 ks.length c1] := by rw [hw2]; exact (((((Blk.new_ _ 25 #[.int .i64 k, .int .i64 n, .slice A ks.length c] (by simp)).alloc _).keep hb1).set_ 0 _).set_ 1 _).set_ 2 _
      have X3 : Blk w2 (w.heap.size + 1 + 1 + 1) #[.int .i64 0, .int .i64 0, .slice none 0 0] := by rw [hw2]; exact ((((Blk.new_ _ 25 #[.int .i64 0, .int .i64 0, .slice none 0 0] (by simp)).keep hb1).far (by first | (simp; done) | (simp; omega)) _).far (by first | (simp; done) | (simp; omega)) _).far (by first | (simp; done) | (simp; omega)) _
      have g2 : Below w.heap.size w w2 := by rw [hw2]; exact ((g1.setCell (by simp; omega) _).setCell (by simp; omega) _).setCell (by simp; omega) _
      have rt : RdP (fun b => w.heap.size + 1 + 1 + 1 + 1 ≤ b ∧ b < w1.heap.size) w2 A1 0 ks := by rw [hw2]; exact (((hf1.rdp.mono (fun b hb => by have h1 := hb.1; simp at h1; exact ⟨by omega, hb.2⟩)).setCell (a := ⟨(w.heap.size + 1 + 1), 0, none⟩) (by simp; omega) _).setCell (a := ⟨(w.heap.size + 1 + 1), 1, none⟩) (by simp; omega) _).setCell (a := ⟨(w.heap.size + 1 + 1), 2, none⟩) (by simp; omega) _
      have l2 : w1.heap.size ≤ w2.heap.size := by rw [hw2]; simp
      have rp := hrp.below g2
      have rq := hrq.below g2
      clear hw2 x0 x1 x2 f0 f1 f2 u0 u1 u2 V0 V2
      have lX3 := X3.lt
      obtain ⟨x0, x1, x2⟩ := X0.three
      obtain ⟨y0, y1, y2⟩ := X1.three
      obtain ⟨u0, u1, u2⟩ := X2.three
      obtain ⟨z0, z1, z2⟩ := X3.three
      have f0 := X3.frozen 0
      have f1 := X3.frozen 1
      have f2 := X3.frozen 2
      have tokP := True.intro
      go_wp2_with (first | (go_at_call 97; refine (sRewrite_any hm hvp'.out h3p.out hvq'.out h3q.out (fun b => w.heap.size + 1 + 1 + 1 + 1 ≤ b ∧ b < w1.heap.size) 18 0 kp np ps P cp kq nq qs Q cq k n ks A1 c1 _ e1.out e2.out hvt'.out hgt.out (by omega) (rp.below b5) (rq.below b5) (rt.below b5) (fun b hb => by have := hb.2; omega)).mono ?_; rw [hoo'.out]; rintro e w6 ⟨kr, nr, rs, Ar, cr, rfl, hru, hrs, hrl, hrr, hb6⟩; have g6 := g5.trans (hb6.mono g5.size); replace X0 := X0.keep hb6; replace X1 := X1.keep hb6; replace X2 := X2.keep hb6; replace X3 := X3.keep hb6; clear x0 x1 x2 y0 y1 y2 u0 u1 u2 z0 z1 z2 f0 f1 f2; obtain ⟨x0, x1, x2⟩ := X0.three; obtain ⟨y0, y1, y2⟩ := X1.three; obtain ⟨u0, u1, u2⟩ := X2.three; obtain ⟨z0, z1, z2⟩ := X3.three; have f0 := X3.frozen 0; have f1 := X3.frozen 1; have f2 := X3.frozen 2; have lX6 := X3.lt) | (go_at_call 60; have _t := tokT; refine (sTermValid_any k n ks A1 c1 _ (by omega) (rt.rd.below b4)).mono ?_; rw [hvt'.out]; rintro e w5 ⟨rfl, hb5⟩; have g5 := g4.trans (hb5.mono g4.size); have b5 := b4.trans (hb5.mono b4.size); replace X0 := X0.keep hb5; replace X1 := X1.keep hb5; replace X2 := X2.keep hb5; replace X3 := X3.keep hb5; clear x0 x1 x2 y0 y1 y2 u0 u1 u2 z0 z1 z2 f0 f1 f2; obtain ⟨x0, x1, x2⟩ := X0.three; obtain ⟨y0, y1, y2⟩ := X1.three; obtain ⟨u0, u1, u2⟩ := X2.three; obtain ⟨z0, z1, z2⟩ := X3.three; have f0 := X3.frozen 0; have f1 := X3.frozen 1; have f2 := X3.frozen 2; have s5 := b5.size; clear tokT _t) | (go_at_call 60; have _t := tokQ; refine (sTermValid_any kq nq qs Q cq _ (by omega) (rq.below b3)).mono ?_; rw [hvq'.out]; rintro e w4 ⟨rfl, hb4⟩; have g4 := g3.trans (hb4.mono g3.size); have b4 := b3.trans (hb4.mono b3.size); replace X0 := X0.keep hb4; replace X1 := X1.keep hb4; replace X2 := X2.keep hb4; replace X3 := X3.keep hb4; clear x0 x1 x2 y0 y1 y2 u0 u1 u2 z0 z1 z2 f0 f1 f2; obtain ⟨x0, x1, x2⟩ := X0.three; obtain ⟨y0, y1, y2⟩ := X1.three; obtain ⟨u0, u1, u2⟩ := X2.three; obtain ⟨z0, z1, z2⟩ := X3.three; have f0 := X3.frozen 0; have f1 := X3.frozen 1; have f2 := X3.frozen 2; clear tokQ _t; have tokT := trivial) | (go_at_call 60; have _t := tokP; refine (sTermValid_any kp np ps P cp _ (by omega) rp).mono ?_; rw [hvp'.out]; rintro e w3 ⟨rfl, hb3⟩; have g3 := g2.trans (hb3.mono g2.size); have b3 := hb3; replace X0 := X0.keep hb3; replace X1 := X1.keep hb3; replace X2 := X2.keep hb3; replace X3 := X3.keep hb3; clear x0 x1 x2 y0 y1 y2 u0 u1 u2 z0 z1 z2 f0 f1 f2; obtain ⟨x0, x1, x2⟩ := X0.three; obtain ⟨y0, y1, y2⟩ := X1.three; obtain ⟨u0, u1, u2⟩ := X2.three; obtain ⟨z0, z1, z2⟩ := X3.three; have f0 := X3.frozen 0; have f1 := X3.frozen 1; have f2 := X3.frozen 2; clear tokP _t; have tokQ := trivial))
      have gf := g6
      have gl := gf.size
      refine bodyPost_ret (v := .tuple #[.agg #[.int .i64 0, .int .i64 0, .slice none 0 0], .bool false]) (by simp [results, Try.results49, go_sem, z0, z1, z2, lX6]) rfl (gotX_none rfl ?_)
      first
        | exact (((gf.setCell (by simp; omega) _).setCell (by simp; omega) _).setCell (by simp; omega) _).alloc (by simp; omega) _
        | exact (((gf.alloc gf.size _).setCell (by simp; omega) _).setCell (by simp; omega) _).setCell (by simp; omega) _
    | some u =>
      obtain ⟨ov, hov⟩ : ∃ ov, (some u).bind vO = ov := ⟨_, rfl⟩
      rw [hov]
      have hov' := hide hov
      clear hov
      go_enter Try.func49, Try.ntmps49
      go_wp2_with (go_at_call 96; refine (sOwn_any k n ks A c _ (by omega) ((((hr.alloc _).alloc _).alloc _).alloc _)).mono ?_; rintro e w1 ⟨A1, c1, rfl, hl1, hf1, hb1⟩; have V0 : Blk w1 w.heap.size #[.int .i64 kp, .int .i64 np, .slice P ps.length cp] := ((((Blk.new_ w 25 #[.int .i64 kp, .int .i64 np, .slice P ps.length cp] rfl).alloc _).alloc _).alloc _).keep hb1; have V2 : Blk w1 (w.heap.size + 1 + 1) #[.int .i64 k, .int .i64 n, .slice A ks.length c] := ((Blk.new_ _ 25 #[.int .i64 k, .int .i64 n, .slice A ks.length c] (by simp)).alloc _).keep hb1; obtain ⟨x0, x1, x2⟩ := V0.three; have f0 := V2.frozen 0; have f1 := V2.frozen 1; have f2 := V2.frozen 2; obtain ⟨u0, u1, u2⟩ := V2.three)
      refine name_callsR ?_
      intro w2 hw2
      have g1 : Below w.heap.size w w1 := (((((Below.refl _ _).alloc (Nat.le_refl _) _).alloc (by simp) _).alloc (by simp; omega) _).alloc (by simp; omega) _).trans (hb1.mono (by simp; omega))
      have l1 : w.heap.size + 1 + 1 + 1 + 1 ≤ w1.heap.size := by have := hb1.size; simpa using this
      have X0 : Blk w2 w.heap.size #[.int .i64 kp, .int .i64 np, .slice P ps.length cp] := by rw [hw2]; exact (((((((Blk.new_ w 25 #[.int .i64 kp, .int .i64 np, .slice P ps.length cp] rfl).alloc _).alloc _).alloc _).keep hb1).far (by first | (simp; done) | (simp; omega)) _).far (by first | (simp; done) | (simp; omega)) _).far (by first | (simp; done) | (simp; omega)) _
      have X1 : Blk w2 (w.heap.size + 1) #[.int .i64 kq, .int .i64 nq, .slice Q qs.length cq] := by rw [hw2]; exact ((((((Blk.new_ _ 25 #[.int .i64 kq, .int .i64 nq, .slice Q qs.length cq] (by simp)).alloc _).alloc _).keep hb1).far (by first | (simp; done) | (simp; omega)) _).far (by first | (simp; done) | (simp; omega)) _).far (by first | (simp; done) | (simp; omega)) _
      have X2 : Blk w2 (w.heap.size + 1 + 1) #[.int .i64 k, .int .i64 n, .slice A1 ks.length c1] := by rw [hw2]; exact (((((Blk.new_ _ 25 #[.int .i64 k, .int .i64 n, .slice A ks.length c] (by simp)).alloc _).keep hb1).set_ 0 _).set_ 1 _).set_ 2 _
      have X3 : Blk w2 (w.heap.size + 1 + 1 + 1) #[.int .i64 0, .int .i64 0, .slice none 0 0] := by rw [hw2]; exact ((((Blk.new_ _ 25 #[.int .i64 0, .int .i64 0, .slice none 0 0] (by simp)).keep hb1).far (by first | (simp; done) | (simp; omega)) _).far (by first | (simp; done) | (simp; omega)) _).far (by first | (simp; done) | (simp; omega)) _
      have g2 : Below w.heap.size w w2 := by rw [hw2]; exact ((g1.setCell (by simp; omega) _).setCell (by simp; omega) _).setCell (by simp; omega) _
      have rt : RdP (fun b => w.heap.size + 1 + 1 + 1 + 1 ≤ b ∧ b < w1.heap.size) w2 A1 0 ks := by rw [hw2]; exact (((hf1.rdp.mono (fun b hb => by have h1 := hb.1; simp at h1; exact ⟨by omega, hb.2⟩)).setCell (a := ⟨(w.heap.size + 1 + 1), 0, none⟩) (by simp; omega) _).setCell (a := ⟨(w.heap.size + 1 + 1), 1, none⟩) (by simp; omega) _).setCell (a := ⟨(w.heap.size + 1 + 1), 2, none⟩) (by simp; omega) _
      have l2 : w1.heap.size ≤ w2.heap.size := by rw [hw2]; simp
      have rp := hrp.below g2
      have rq := hrq.below g2
      clear hw2 x0 x1 x2 f0 f1 f2 u0 u1 u2 V0 V2
      have lX3 := X3.lt
      obtain ⟨x0, x1, x2⟩ := X0.three
      obtain ⟨y0, y1, y2⟩ := X1.three
      obtain ⟨u0, u1, u2⟩ := X2.three
      obtain ⟨z0, z1, z2⟩ := X3.three
      have f0 := X3.frozen 0
      have f1 := X3.frozen 1
      have f2 := X3.frozen 2
      have tokP := True.intro
      go_wp2_with (first | (go_at_call 97; refine (sRewrite_any hm hvp'.out h3p.out hvq'.out h3q.out (fun b => w.heap.size + 1 + 1 + 1 + 1 ≤ b ∧ b < w1.heap.size) 18 0 kp np ps P cp kq nq qs Q cq k n ks A1 c1 _ e1.out e2.out hvt'.out hgt.out (by omega) (rp.below b5) (rq.below b5) (rt.below b5) (fun b hb => by have := hb.2; omega)).mono ?_; rw [hoo'.out]; rintro e w6 ⟨kr, nr, rs, Ar, cr, rfl, hru, hrs, hrl, hrr, hb6⟩; have g6 := g5.trans (hb6.mono g5.size); replace X0 := X0.keep hb6; replace X1 := X1.keep hb6; replace X2 := X2.keep hb6; replace X3 := X3.keep hb6; clear x0 x1 x2 y0 y1 y2 u0 u1 u2 z0 z1 z2 f0 f1 f2; obtain ⟨x0, x1, x2⟩ := X0.three; obtain ⟨y0, y1, y2⟩ := X1.three; obtain ⟨u0, u1, u2⟩ := X2.three; obtain ⟨z0, z1, z2⟩ := X3.three; have f0 := X3.frozen 0; have f1 := X3.frozen 1; have f2 := X3.frozen 2; have lX6 := X3.lt) | (go_at_call 60; have _t := tokT; refine (sTermValid_any k n ks A1 c1 _ (by omega) (rt.rd.below b4)).mono ?_; rw [hvt'.out]; rintro e w5 ⟨rfl, hb5⟩; have g5 := g4.trans (hb5.mono g4.size); have b5 := b4.trans (hb5.mono b4.size); replace X0 := X0.keep hb5; replace X1 := X1.keep hb5; replace X2 := X2.keep hb5; replace X3 := X3.keep hb5; clear x0 x1 x2 y0 y1 y2 u0 u1 u2 z0 z1 z2 f0 f1 f2; obtain ⟨x0, x1, x2⟩ := X0.three; obtain ⟨y0, y1, y2⟩ := X1.three; obtain ⟨u0, u1, u2⟩ := X2.three; obtain ⟨z0, z1, z2⟩ := X3.three; have f0 := X3.frozen 0; have f1 := X3.frozen 1; have f2 := X3.frozen 2; have s5 := b5.size; clear tokT _t) | (go_at_call 60; have _t := tokQ; refine (sTermValid_any kq nq qs Q cq _ (by omega) (rq.below b3)).mono ?_; rw [hvq'.out]; rintro e w4 ⟨rfl, hb4⟩; have g4 := g3.trans (hb4.mono g3.size); have b4 := b3.trans (hb4.mono b3.size); replace X0 := X0.keep hb4; replace X1 := X1.keep hb4; replace X2 := X2.keep hb4; replace X3 := X3.keep hb4; clear x0 x1 x2 y0 y1 y2 u0 u1 u2 z0 z1 z2 f0 f1 f2; obtain ⟨x0, x1, x2⟩ := X0.three; obtain ⟨y0, y1, y2⟩ := X1.three; obtain ⟨u0, u1, u2⟩ := X2.three; obtain ⟨z0, z1, z2⟩ := X3.three; have f0 := X3.frozen 0; have f1 := X3.frozen 1; have f2 := X3.frozen 2; clear tokQ _t; have tokT := trivial) | (go_at_call 60; have _t := tokP; refine (sTermValid_any kp np ps P cp _ (by omega) rp).mono ?_; rw [hvp'.out]; rintro e w3 ⟨rfl, hb3⟩; have g3 := g2.trans (hb3.mono g2.size); have b3 := hb3; replace X0 := X0.keep hb3; replace X1 := X1.keep hb3; replace X2 := X2.keep hb3; replace X3 := X3.keep hb3; clear x0 x1 x2 y0 y1 y2 u0 u1 u2 z0 z1 z2 f0 f1 f2; obtain ⟨x0, x1, x2⟩ := X0.three; obtain ⟨y0, y1, y2⟩ := X1.three; obtain ⟨u0, u1, u2⟩ := X2.three; obtain ⟨z0, z1, z2⟩ := X3.three; have f0 := X3.frozen 0; have f1 := X3.frozen 1; have f2 := X3.frozen 2; clear tokP _t; have tokQ := trivial))
      refine name_callsR ?_
      intro w7 hw7
      have g7 : Below w.heap.size w w7 := by rw [hw7]; exact g6.alloc g6.size _
      have hZ7 : Blk w7 (w.heap.size + 1 + 1 + 1) #[.int .i64 0, .int .i64 0, .slice none 0 0] := by rw [hw7]; exact X3.alloc _
      have hX7 : Blk w7 w6.heap.size #[.int .i64 kr, .int .i64 nr, .slice Ar rs.length cr] := by rw [hw7]; exact Blk.new_ _ _ _ rfl
      have hrr7 : RdP (fun b => (w.heap.size + 1 + 1 + 1 + 1 ≤ b ∧ b < w1.heap.size) ∨ w5.heap.size ≤ b) w7 Ar 0 rs := by rw [hw7]; exact hrr.alloc _
      have rr7 := hrr7.rd
      have huu := hru.out u rfl
      subst huu
      have s67 : w6.heap.size < w7.heap.size := hX7.lt
      have s66 := g6.size
      have lT3 := X3.lt
      clear hw7
      cases hvr : validT (.mk kr nr rs) with
      | false =>
        have hzz : ov = none := by rw [← hov'.out]; show vO _ = none; rw [vO, if_neg]; rw [hvr]; exact Bool.false_ne_true
        subst hzz
        have hvr' := hide hvr
        clear hvr
        go_wp2_with (go_at_call 60; refine (sTermValid_any kr nr rs Ar cr _ (by omega) rr7).mono ?_; rw [hvr'.out]; rintro e w8 ⟨rfl, hb8⟩; have g8 := g7.trans (hb8.mono g7.size); have hX8 := hX7.keep hb8; have hZ8 := hZ7.keep hb8; clear z0 z1 z2 f0 f1 f2; obtain ⟨z0, z1, z2⟩ := hZ8.three; have f0 := hZ8.frozen 0; have f1 := hZ8.frozen 1; have f2 := hZ8.frozen 2)
        have gf := g8
        have gl := gf.size
        refine bodyPost_ret (v := .tuple #[.agg #[.int .i64 0, .int .i64 0, .slice none 0 0], .bool false]) (by simp [results, Try.results49, go_sem, z0, z1, z2]) rfl (gotX_none rfl ?_)
        exact ((gf.setCell (by simp; omega) _).setCell (by simp; omega) _).setCell (by simp; omega) _
      | true =>
        have hzz : ov = some (.mk kr nr rs) := by rw [← hov'.out]; show vO _ = _; rw [vO, if_pos hvr]
        subst hzz
        have hsr := validT_size hvr
        rw [Tm.size] at hsr
        have hvr' := hide hvr
        clear hvr
        go_wp2_with (go_at_call 60; refine (sTermValid_any kr nr rs Ar cr _ (by omega) rr7).mono ?_; rw [hvr'.out]; rintro e w8 ⟨rfl, hb8⟩; have g8 := g7.trans (hb8.mono g7.size); have hX8 := hX7.keep hb8; have hZ8 := hZ7.keep hb8; clear x0 x1 x2 z0 z1 z2 f0 f1 f2; obtain ⟨x0, x1, x2⟩ := hX8.three; obtain ⟨z0, z1, z2⟩ := hZ8.three; have f0 := hZ8.frozen 0; have f1 := hZ8.frozen 1; have f2 := hZ8.frozen 2)
        have hnp : ¬ ((w.heap.size + 1 + 1 + 1 + 1 ≤ (w.heap.size + 1 + 1 + 1) ∧ (w.heap.size + 1 + 1 + 1) < w1.heap.size) ∨ w5.heap.size ≤ (w.heap.size + 1 + 1 + 1)) := by
          rintro (⟨h, -⟩ | h) <;> omega
        refine bodyPost_ret (v := .tuple #[.agg #[.int .i64 kr, .int .i64 nr, .slice Ar rs.length cr], .bool true]) (by simp [results, Try.results49, go_sem, z0, z1, z2]) rfl ⟨kr, nr, rs, Ar, cr, rfl, hide rfl, by omega, ?_, ?_⟩
        · exact ((((hrr7.below hb8).setCell (a := ⟨(w.heap.size + 1 + 1 + 1), 0, none⟩) hnp _).setCell (a := ⟨(w.heap.size + 1 + 1 + 1), 1, none⟩) hnp _).setCell (a := ⟨(w.heap.size + 1 + 1 + 1), 2, none⟩) hnp _).rd
        · exact ((g8.setCell (by simp; omega) _).setCell (by simp; omega) _).setCell (by simp; omega) _
end Go.Proofs.Ytodkenpmhhbppaa
