/-
  Contracts of the functions that the law reaches, and plain lemmas. No condition.
-/
import Derived.Test.YtodkenpmhhbppaaK5
import Derived.Test.YtodkenpmhhbppaaK7
import Derived.Test.YtodkenpmhhbppaaK14
import Derived.Test.YtodkenpmhhbppaaK16
import Derived.Test.YtodkenpmhhbppaaK20
import Derived.Deep.DeepCutAuto
namespace Go.Proofs.Ytodkenpmhhbppaa
set_option linter.unusedSimpArgs false
set_option linter.unusedVariables false
open Go.RowKit
theorem gotLO_pairR {w : World} {o : Option (List Tm)} {e : Ending} {w' : World} (h : GotLO w o e w') {L : List Tm} (hL : o.getD [] = L) {b : Bool} (hb : o.isSome = b) :
    ∃ A c, e = .returned (.tuple #[.slice A L.length c, .bool b]) ∧ Fresh w.heap.size w' A L ∧ Below w.heap.size w w' := by
  subst hL hb; exact h
theorem name_midR {S : World → Prop} {K : Act → World → Prop} {Q : Exit → Act → World → Prop} {a : Act} {w : World} (h : ∀ wx, wx = w → Mid S K Q .normal a wx) : Mid S K Q .normal a w := h w rfl
theorem rdp_ltR {p : Nat → Prop} {w : World} : (∀ t b off i, RdPC p w b off i t → RdPC (fun b => p b ∧ b < w.heap.size) w b off i t) ∧ (∀ ks A i, RdP p w A i ks → RdP (fun b => p b ∧ b < w.heap.size) w A i ks) := by
  refine Tm.ind2 (fun k n ks ih b off i hh => ?_) (fun _ _ _ => RdP.nil) (fun t ts h1 h2 A i hh => ?_)
  · rw [RdPC.iff] at hh ⊢
    obtain ⟨h0, h1, h2, A, c, h3, h4, h5⟩ := hh
    exact ⟨⟨h0, World.block_lt_of_cell? _ _ h1⟩, h1, h2, A, c, h3, h4, ih _ _ h5⟩
  · rw [RdP.cons_iff] at hh ⊢
    obtain ⟨⟨b, off, hA, hc⟩, hr⟩ := hh
    exact ⟨⟨b, off, hA, h1 _ _ _ hc⟩, h2 _ _ hr⟩
theorem rwL_none_step {m : Nat} {p q : Tm} {k : Int} {ks : List Tm} {j : Nat} (hj : j < ks.length) (h : rwS m (shS (under k j) m p) (shS (under k j) m q) ks[j] = none) :
    (rwL m p q k j (ks.drop j)).map (ks.take j ++ ·) = (rwL m p q k (j + 1) (ks.drop (j + 1))).map (ks.take (j + 1) ++ ·) := by
  rw [List.drop_eq_getElem_cons hj, rwL, h]
  cases rwL m p q k (j + 1) (ks.drop (j + 1)) with
  | none => rfl
  | some v => simp only [Option.map_some]; rw [List.take_succ_eq_append_getElem hj, List.append_assoc]; rfl
theorem rwL_some_step {m : Nat} {p q u : Tm} {k : Int} {ks : List Tm} {j : Nat} (hj : j < ks.length) (h : rwS m (shS (under k j) m p) (shS (under k j) m q) ks[j] = some u) :
    (rwL m p q k j (ks.drop j)).map (ks.take j ++ ·) = some (ks.set j u) := by
  rw [List.drop_eq_getElem_cons hj, rwL, h]
  simp [List.set_eq_take_append_cons_drop, hj]
theorem rwL_end {m : Nat} {p q : Tm} {k : Int} {ks : List Tm} {j : Nat} (hj : j = ks.length) : (rwL m p q k j (ks.drop j)).map (ks.take j ++ ·) = none := by
  subst hj; simp [rwL]
/-- what l13Rewrite answers -/
def RwGot (p : Nat → Prop) (w : World) (o : Option Tm) (M : Nat) (e : Ending) (w' : World) : Prop :=
  ∃ k n ks A c, e = .returned (.tuple #[.agg #[.int .i64 k, .int .i64 n, .slice A ks.length c], .bool o.isSome]) ∧ Hid (∀ u, o = some u → u = .mk k n ks) ∧ sizes ks + 1 ≤ M ∧ ks.length ≤ 9223372036854775807 ∧ RdP (fun b => p b ∨ w.heap.size ≤ b) w' A 0 ks ∧ Below w.heap.size w w'
theorem sizes_set_le {ks : List Tm} {i : Nat} (hi : i < ks.length) {t : Tm} {M : Nat} (h : t.size ≤ M + ks[i].size) : sizes (ks.set i t) ≤ M + sizes ks := by
  induction ks generalizing i with
  | nil => simp at hi
  | cons a ts ih =>
    cases i with
    | zero => rw [List.set_cons_zero, sizes, sizes]; simp at h; omega
    | succ i => rw [List.set_cons_succ, sizes, sizes]; have := ih (i := i) (by simpa using hi) (by simpa using h); omega
set_option maxHeartbeats 16000000 in
set_option maxRecDepth 100000 in
theorem sRewrite_any {m : Nat} (hm : m ≤ 6) {p0 q0 : Tm} (hp : validT p0 = true) (hp3 : hiN 3 p0 = true) (hq : validT q0 = true) (hq3 : hiN 3 q0 = true) (p : Nat → Prop) (h : Nat) :
    ∀ (d : Nat) (kp np : Int) (ps : List Tm) (P : Option Addr) (cp : Nat) (kq nq : Int) (qs : List Tm) (Q : Option Addr) (cq : Nat) (k n : Int) (ks : List Tm) (A : Option Addr) (c : Nat) (w : World),
      shS d m p0 = .mk kp np ps → shS d m q0 = .mk kq nq qs → validT (.mk k n ks) = true → hgB h (.mk k n ks) = true → d + h ≤ 18 → Rd w P 0 ps → Rd w Q 0 qs → RdP p w A 0 ks → (∀ b, p b → b < w.heap.size) →
      Calls Try.prog 97 #[.agg #[.int .i64 kp, .int .i64 np, .slice P ps.length cp], .int .i64 m, .agg #[.int .i64 kq, .int .i64 nq, .slice Q qs.length cq], .agg #[.int .i64 k, .int .i64 n, .slice A ks.length c]] w (RwGot p w (rwS m (.mk kp np ps) (.mk kq nq qs) (.mk k n ks)) (160000 + (1 + sizes ks))) := by
  induction h with
  | zero => intro d kp np ps P cp kq nq qs Q cq k n ks A c w _ _ _ hg; rw [hgB] at hg; cases hg
  | succ h ih =>
  intro d kp np ps P cp kq nq qs Q cq k n ks A c w e1 e2 hv hg hd hrp hrq hr hpw
  have hvp : validT (.mk kp np ps) = true := by rw [← e1]; exact shS_valid (by omega) hp ((hiN_up (by omega)).1 p0 hp3)
  have hvq : validT (.mk kq nq qs) = true := by rw [← e2]; exact shS_valid (by omega) hq ((hiN_up (by omega)).1 q0 hq3)
  have hsp := validT_size hvp
  have hsq := validT_size hvq
  have hst := validT_size hv
  rw [Tm.size] at hsp hsq hst
  have hlp := length_le_sizes ps
  have hlq := length_le_sizes qs
  have hlk0 := length_le_sizes ks
  have hvp' := hide hvp
  have hvq' := hide hvq
  have hv' := hide hv
  have hshp := hide (validT_shape30 hvp)
  have hshq := hide (validT_shape30 hvq)
  have e1' := hide e1
  have e2' := hide e2
  have hpw' := hide hpw
  cases ht : tryS m 0 (.mk kp np ps) (.mk k n ks) with
  | some L =>
    have htv := try_valid ht
    have hrw : rwS m (.mk kp np ps) (.mk kq nq qs) (.mk k n ks) = some (flS L 0 (.mk kq nq qs)) := by rw [rwS, ht]
    rw [hrw]
    obtain ⟨kf, nf, fs, hf⟩ := tm_eta (flS L 0 (.mk kq nq qs))
    have hfz := flS_size L (fun t ht => validT_size (htv.2 t ht)) (.mk kq nq qs) 0
    rw [hf]
    rw [hf, Tm.size, Tm.size] at hfz
    have hLs : sizes L ≤ 2400 := (tryS_size hm ht).1
    have hLl : L.length ≤ 6 := by rw [htv.1]; exact hm
    have hLv := hide (fun t hx => validT_shape30 (htv.2 t hx))
    have hf' := hide hf
    have ht1 := hide (show (tryS m 0 (.mk kp np ps) (.mk k n ks)).getD [] = L by rw [ht]; rfl)
    have ht2 := hide (show (tryS m 0 (.mk kp np ps) (.mk k n ks)).isSome = true by rw [ht]; rfl)
    clear ht hrw hf htv hvp hvq hv e1 e2 hg ih hpw
    go_enter Try.func97, Try.ntmps97
    go_wp2_with (first
      | (go_at_call 63; refine (sFill_any L (by omega) hLv.out (by omega) (sizes qs + 1) kq nq qs Q cq A1 c1 0 30 _ (by omega) (by omega) hshq.out (by omega) (by omega) (hrq.below g1) hf1.rd kf nf fs hf'.out).mono ?_; rintro e w2 ⟨A2, c2, rfl, hl2, hf2, hb2⟩; have g2 := g1.trans (hb2.mono g1.size); have hZ2 := hZ.keep hb2; obtain ⟨z0, z1, z2⟩ := hZ2.three; have f0 := hZ2.frozen 0; have f1 := hZ2.frozen 1; have f2 := hZ2.frozen 2)
      | (go_at_call 73; refine (sTry_any m hm 0 (by omega) kp np ps P cp k n ks A c _ hvp'.out hv'.out ((((hrp.alloc _).alloc _).alloc _).alloc _) ((((hr.rd.alloc _).alloc _).alloc _).alloc _)).mono ?_; rintro e w1 hgo; obtain ⟨A1, c1, rfl, hf1, hb1⟩ := gotLO_pairR hgo ht1.out ht2.out; clear hgo; have g1 : Below w.heap.size w w1 := (((((Below.refl _ _).alloc (Nat.le_refl _) _).alloc (by simp) _).alloc (by simp; omega) _).alloc (by simp; omega) _).trans (hb1.mono (by simp; omega)); have hQ : Blk w1 (w.heap.size + 1) #[.int .i64 kq, .int .i64 nq, .slice Q qs.length cq] := (((Blk.new_ _ 25 #[.int .i64 kq, .int .i64 nq, .slice Q qs.length cq] (by simp)).alloc _).alloc _).keep hb1; have hZ : Blk w1 (w.heap.size + 1 + 1 + 1) #[.int .i64 0, .int .i64 0, .slice none 0 0] := (Blk.new_ _ 25 _ (by simp)).keep hb1; have s1 : w.heap.size + 1 + 1 + 1 < w1.heap.size := hZ.lt; obtain ⟨y0, y1, y2⟩ := hQ.three))
    refine bodyPost_ret (v := .tuple #[.agg #[.int .i64 kf, .int .i64 nf, .slice A2 fs.length c2], .bool true]) (by simp [results, Try.results97, go_sem, z0, z1, z2]) rfl ⟨kf, nf, fs, A2, c2, rfl, hide (fun u hu => by injection hu with hu; exact hu.symm), by omega, hl2, ?_, ?_⟩
    · exact ((((hf2.setCell (by simp; omega) _).setCell (by simp; omega) _).setCell (by simp; omega) _).rdp).mono (fun b hb => Or.inr (by have := hb.1; have := g1.size; omega))
    · exact ((g2.setCell (by simp; omega) _).setCell (by simp; omega) _).setCell (by simp; omega) _
  | none =>
    have hrw : rwS m (.mk kp np ps) (.mk kq nq qs) (.mk k n ks) = (rwL m (.mk kp np ps) (.mk kq nq qs) k 0 ks).map (Tm.mk k n) := by rw [rwS, ht]
    rw [hrw]
    have ht1 := hide (show (tryS m 0 (.mk kp np ps) (.mk k n ks)).getD [] = [] by rw [ht]; rfl)
    have ht2 := hide (show (tryS m 0 (.mk kp np ps) (.mk k n ks)).isSome = false by rw [ht]; rfl)
    obtain ⟨ro, hro⟩ : ∃ ro, rwL m (.mk kp np ps) (.mk kq nq qs) k 0 ks = ro := ⟨_, rfl⟩
    rw [hro]
    have hro' := hide hro
    rw [hgB] at hg
    have hg' := hide (List.all_eq_true.1 hg)
    have ih' := hide ih
    clear ht hrw hro hvp hvq hv e1 e2 hg ih hpw
    go_enter Try.func97, Try.ntmps97
    go_wp2_with (go_at_call 73; refine (sTry_any m hm 0 (by omega) kp np ps P cp k n ks A c _ hvp'.out hv'.out ((((hrp.alloc _).alloc _).alloc _).alloc _) ((((hr.rd.alloc _).alloc _).alloc _).alloc _)).mono ?_; rintro e w1 hgo; obtain ⟨A1, c1, rfl, hf1, hb1⟩ := gotLO_pairR hgo ht1.out ht2.out; clear hgo; have g1 : Below w.heap.size w w1 := (((((Below.refl _ _).alloc (Nat.le_refl _) _).alloc (by simp) _).alloc (by simp; omega) _).alloc (by simp; omega) _).trans (hb1.mono (by simp; omega)); have hB0 : Blk w1 w.heap.size #[.int .i64 kp, .int .i64 np, .slice P ps.length cp] := ((((Blk.new_ w 25 #[.int .i64 kp, .int .i64 np, .slice P ps.length cp] rfl).alloc _).alloc _).alloc _).keep hb1; have hB1 : Blk w1 (w.heap.size + 1) #[.int .i64 kq, .int .i64 nq, .slice Q qs.length cq] := (((Blk.new_ _ 25 #[.int .i64 kq, .int .i64 nq, .slice Q qs.length cq] (by simp)).alloc _).alloc _).keep hb1; have hB2 : Blk w1 (w.heap.size + 1 + 1) #[.int .i64 k, .int .i64 n, .slice A ks.length c] := ((Blk.new_ _ 25 #[.int .i64 k, .int .i64 n, .slice A ks.length c] (by simp)).alloc _).keep hb1; have hZ : Blk w1 (w.heap.size + 1 + 1 + 1) #[.int .i64 0, .int .i64 0, .slice none 0 0] := (Blk.new_ _ 25 _ (by simp)).keep hb1)
    go_loopw [12] (fun iv wr => ∃ j : Nat, j ≤ ks.length ∧ iv = .int .i64 j ∧ Hid (ro = (rwL m (.mk kp np ps) (.mk kq nq qs) k j (ks.drop j)).map (ks.take j ++ ·)) ∧ Blk wr w.heap.size #[.int .i64 kp, .int .i64 np, .slice P ps.length cp] ∧ Blk wr (w.heap.size + 1) #[.int .i64 kq, .int .i64 nq, .slice Q qs.length cq] ∧ Blk wr (w.heap.size + 1 + 1) #[.int .i64 k, .int .i64 n, .slice A ks.length c] ∧ Blk wr (w.heap.size + 1 + 1 + 1) #[.int .i64 0, .int .i64 0, .slice none 0 0] ∧ Below w.heap.size w wr) (fun iv _ => ks.length - (intOf iv).toNat)
    case atStart => exact ⟨0, Nat.zero_le _, rfl, hide (by rw [← hro'.out]; simp), hB0, hB1, hB2, hZ, g1⟩
    case round =>
      clear hB0 hB1 hB2 hZ g1
      obtain ⟨j, hj, rfl, hinv, hB0, hB1, hB2, hZ, g1⟩ := hrel
      have lZ := hZ.lt
      by_cases hlt : j < ks.length
      · obtain ⟨b, off, k', n', ks', A', c', rfl, hkj, -, -, -, hl', -⟩ := hr.at_ hlt
        have hun := under_le k j
        obtain ⟨u, hu⟩ : ∃ u : Nat, under k j = (u : Int) := ⟨(under k j).toNat, by omega⟩
        obtain ⟨n3, hn3⟩ : ∃ n3 : Int, (if kp = 1 ∧ (m : Int) ≤ np then np + u else np) = n3 := ⟨_, rfl⟩
        obtain ⟨s3, hs3⟩ : ∃ s3 : List Tm, shSL u kp m 0 ps = s3 := ⟨_, rfl⟩
        obtain ⟨n8, hn8⟩ : ∃ n8 : Int, (if kq = 1 ∧ (m : Int) ≤ nq then nq + u else nq) = n8 := ⟨_, rfl⟩
        obtain ⟨s8, hs8⟩ : ∃ s8 : List Tm, shSL u kq m 0 qs = s8 := ⟨_, rfl⟩
        have hf3 : shS u m (.mk kp np ps) = .mk kp n3 s3 := by rw [shS, hn3, hs3]
        have hf8 : shS u m (.mk kq nq qs) = .mk kq n8 s8 := by rw [shS, hn8, hs8]
        have hh3 := hide (show shS ((d + u : Nat) : Int) m p0 = .mk kp n3 s3 by rw [← hf3, ← e1'.out, (shS_shS (by omega) (by omega)).1]; congr 1; omega)
        have hh8 := hide (show shS ((d + u : Nat) : Int) m q0 = .mk kq n8 s8 by rw [← hf8, ← e2'.out, (shS_shS (by omega) (by omega)).1]; congr 1; omega)
        obtain ⟨oo, hoo⟩ : ∃ oo, rwS m (.mk kp n3 s3) (.mk kq n8 s8) (.mk k' n' ks') = oo := ⟨_, rfl⟩
        have hst' := hide (show rwS m (shS (under k j) m (.mk kp np ps)) (shS (under k j) m (.mk kq nq qs)) ks[j] = oo by rw [hu, hf3, hf8, hkj]; exact hoo)
        have hvk := hide (show validT (.mk k' n' ks') = true by rw [← hkj]; exact validT_kid hv'.out (List.getElem_mem hlt))
        have hgk := hide (show hgB h (.mk k' n' ks') = true by rw [← hkj]; exact hg'.out _ (List.getElem_mem hlt))
        have hsz := sizes_le (List.getElem_mem hlt)
        rw [hkj, Tm.size] at hsz
        have hkj' := hide hkj
        have hn3' := hide hn3
        have hs3' := hide hs3
        have hn8' := hide hn8
        have hs8' := hide hs8
        have hoo' := hide hoo
        have hu' := hide hu
        have hlk : (j : Int) < (ks.length : Int) := by omega
        clear hn3 hs3 hn8 hs8 hoo hf3 hf8 hkj
        obtain ⟨c20, c21, c22⟩ := hB2.three
        go_wp2_with (go_at_call 109; refine (sUnder_any _ _ _).mono ?_; rw [hu'.out]; rintro e w9 ⟨rfl, rfl⟩)
        refine name_world ?_
        intro wx hwx
        have h0x : Blk wx w.heap.size #[.int .i64 kp, .int .i64 np, .slice P ps.length cp] := by rw [hwx]; exact hB0
        have h1x : Blk wx (w.heap.size + 1) #[.int .i64 kq, .int .i64 nq, .slice Q qs.length cq] := by rw [hwx]; exact hB1
        have h2x : Blk wx (w.heap.size + 1 + 1) #[.int .i64 k, .int .i64 n, .slice (some ⟨b, off, none⟩) ks.length c] := by rw [hwx]; exact hB2
        have h3x : Blk wx (w.heap.size + 1 + 1 + 1) #[.int .i64 0, .int .i64 0, .slice none 0 0] := by rw [hwx]; exact hZ
        have bx : Below w.heap.size w wx := by rw [hwx]; exact g1
        have lx : w.heap.size + 1 + 1 + 1 < wx.heap.size := h3x.lt
        clear hwx hB0 hB1 hB2 hZ g1 lZ c20 c21 c22
        obtain ⟨b', off', k2, n2, ks2, A2, c2, hbo, hk2, hc1, hc2, hc3, hl2, hr2⟩ := (hr.below bx).at_ hlt
        injection hbo with hbo
        injection hbo with hb1' hb2'
        subst hb1' hb2'
        rw [hkj'.out] at hk2
        injection hk2 with ek en eks
        subst ek en eks
        have rpx := hrp.below bx
        have rqx := hrq.below bx
        have g00 := rule_of h0x.three.1
        have g01 := rule_of h0x.three.2.1
        have g02 := rule_of h0x.three.2.2
        have g10 := rule_of h1x.three.1
        have g11 := rule_of h1x.three.2.1
        have g12 := rule_of h1x.three.2.2
        have g20 := rule_of h2x.three.1
        have g21 := rule_of h2x.three.2.1
        have g22 := rule_of h2x.three.2.2
        have gc1 := rule_of hc1
        have gc2 := rule_of hc2
        have gc3 := rule_of hc3
        have sxx := bx.size
        go_cut [14, 15] (fun v14 v15 wy => ∃ (W : World) (g14 : Nat) (kr nr : Int) (rs : List Tm) (Ar : Option Addr) (cr : Nat), W = wy ∧ v14 = .pointer (some ⟨g14, 0, none⟩) ∧ v15 = .bool oo.isSome ∧ Blk wy g14 #[.int .i64 kr, .int .i64 nr, .slice Ar rs.length cr] ∧ Hid (∀ u, oo = some u → u = .mk kr nr rs) ∧ sizes rs + 1 ≤ 160000 + (1 + sizes ks') ∧ rs.length ≤ 9223372036854775807 ∧ RdP (fun b => p b ∨ wx.heap.size ≤ b) wy Ar 0 rs ∧ Below wx.heap.size wx wy ∧ wx.heap.size ≤ g14)
        case first =>
          obtain ⟨q0, hq0⟩ : ∃ q0, q0 = wx.drew := ⟨_, rfl⟩
          have bq0 : Below wx.heap.size wx q0 := by rw [hq0]; exact (Below.refl _ _).drew
          refine gC_start (fun w' => Below wx.heap.size wx w') [15, 16, 17, 19, 20] 21 (by kernel_rfl) rfl ?_
          refine gC_take [0, 1, 2, 4, 5, 6, 7, 9, 10, 11, 12, 13] (f := 9) (l' := #[true, true, true, false, true, true, true, true, false, true, true, true, true, true, false, false, false, false, false, false, false]) (lT := [_, _, _, _, _, _, _, _, _, _, _, _]) (by rw [← hq0]; exact bq0) rfl (by kernel_rfl) (by kernel_rfl) (by kernel_rfl) rfl (fun _ _ d _ _ h => by cases d <;> exact h) ?_
          repeat (first | ((refine takeY_skip (a' := ?_) ?_ ?_ ?_); (rotate_left); (· (simp [Region.wanted, yielded, Go.undef]; done)); (· (simp only [List.getElem_toArray, List.getElem_cons_zero, List.getElem_cons_succ, Act.put, List.setIfInBounds_toArray, List.set_cons_zero, List.set_cons_succ]; exact rfl))) | ((refine takeY_step (v := ?_) (a' := ?_) ?_ ?_ ?_ ?_); (rotate_left 2); (· (simp [Region.wanted, yielded, Go.undef]; done)); (· (intro w' hS'; go_simp; try (with_reducible rfl))); (· (simp only [List.getElem_toArray, List.getElem_cons_zero, List.getElem_cons_succ, Act.put, List.setIfInBounds_toArray, List.set_cons_zero, List.set_cons_succ]; exact rfl))))
          refine takeY_nil ?_
          rw [← hq0]
          clear hq0
          refine gC_two (i := 3) (j := 18) (by kernel_rfl) rfl rfl ?_ ?_
          · go_wp2_with (go_at_call 108; refine (sShift_any (sizes ps + 1) kp np ps P cp u m 30 _ (by omega) (by omega) hshp.out (by omega) (by omega) (by omega) (rpx.below bq0)).mono ?_; rw [hn3'.out, hs3'.out]; rintro e q1 ⟨A3x, c3x, rfl, hl3x, hf3x, hbq1⟩)
            have rq1 := hf3x.rd
            have bq1 : Below wx.heap.size wx q1 := bq0.trans (hbq1.mono bq0.size)
            have lq1 := hbq1.size
            refine mid_intro bq1 ?_
            refine gC_two (i := 8) (j := 18) (by kernel_rfl) rfl rfl ?_ ?_
            · go_wp2_with (go_at_call 108; refine (sShift_any (sizes qs + 1) kq nq qs Q cq u m 30 _ (by omega) (by omega) hshq.out (by omega) (by omega) (by omega) (rqx.below bq1)).mono ?_; rw [hn8'.out, hs8'.out]; rintro e q2 ⟨A8x, c8x, rfl, hl8x, hf8x, hbq2⟩)
              have rq2 := hf8x.rd
              have Pq2 := rq1.below hbq2
              have bq2 : Below wx.heap.size wx q2 := bq1.trans (hbq2.mono bq1.size)
              have lq2 := hbq2.size
              refine mid_intro bq2 ?_
              refine gC_two (i := 14) (j := 18) (by kernel_rfl) rfl rfl ?_ ?_
              · go_wp2_with (go_at_call 97; refine (ih'.out (d + u) kp n3 s3 A3x c3x kq n8 s8 A8x c8x k' n' ks' A2 c2 _ hh3.out hh8.out hvk.out hgk.out (by omega) Pq2 rq2 (hr2.below bq2) (fun b hb => by have := hpw'.out b hb; have := bq2.size; omega)).mono ?_; rw [hoo'.out]; rintro e q3 ⟨kr, nr, rs, Ar, cr, rfl, hru, hrs, hrl, hrr, hbq3⟩)
                have rq3 := rdp_ltR.2 _ _ _ hrr
                have Pq3 := Pq2.below hbq3
                have Qq3 := rq2.below hbq3
                have bq3 : Below wx.heap.size wx q3 := bq2.trans (hbq3.mono bq2.size)
                have lq3 := hbq3.size
                refine mid_intro bq3 ?_
                refine gC_takeT [15, 16, 17] (f := 3) (l' := #[true, true, true, true, true, true, true, true, true, true, true, true, true, true, true, true, true, true, false, false, false]) (lT := [_, _, _]) rfl (by kernel_rfl) (by kernel_rfl) (by kernel_rfl) rfl (fun _ _ d _ _ h => by cases d <;> exact h) ?_
                repeat (first | ((refine takeY_skip (a' := ?_) ?_ ?_ ?_); (rotate_left); (· (simp [Region.wanted, yielded, Go.undef]; done)); (· (simp only [List.getElem_toArray, List.getElem_cons_zero, List.getElem_cons_succ, Act.put, List.setIfInBounds_toArray, List.set_cons_zero, List.set_cons_succ]; exact rfl))) | ((refine takeY_step (v := ?_) (a' := ?_) ?_ ?_ ?_ ?_); (rotate_left 2); (· (simp [Region.wanted, yielded, Go.undef]; done)); (· (intro w' hS'; go_simp; try (with_reducible rfl))); (· (simp only [List.getElem_toArray, List.getElem_cons_zero, List.getElem_cons_succ, Act.put, List.setIfInBounds_toArray, List.set_cons_zero, List.set_cons_succ]; exact rfl))))
                refine takeY_nil ?_
                refine gC_one (i := 18) (by kernel_rfl) rfl ?_
                · go_wp2_with fail
                  refine name_midR ?_
                  intro q4 hn
                  have hbq4 : Below q3.heap.size q3 q4 := by rw [hn]; exact (Below.refl _ _).alloc (Nat.le_refl _) _
                  have zq4 : Blk q4 q3.heap.size #[.int .i64 0, .int .i64 0, .slice none 0 0] := by rw [hn]; exact Blk.new_ _ 25 _ rfl
                  have seq4 : q3.heap.size < q4.heap.size := by rw [hn]; simp
                  clear hn
                  have Pq4 := Pq3.below hbq4
                  have Qq4 := Qq3.below hbq4
                  have Rq4 := rq3.below hbq4
                  have bq4 : Below wx.heap.size wx q4 := bq3.trans (hbq4.mono bq3.size)
                  have lq4 := hbq4.size
                  refine mid_intro bq4 ?_
                  refine gC_end [19, 20] (lB := [_, _]) (by simp) (by kernel_rfl) (by kernel_rfl) rfl ?_
                  obtain ⟨d0, d1, d2⟩ := zq4.three
                  have e0 := zq4.frozen 0
                  have e1 := zq4.frozen 1
                  have e2 := zq4.frozen 2
                  have szl := zq4.lt
                  have szb : wx.heap.size ≤ q3.heap.size := by first | exact bq0.size | exact bq3.size
                  have szr : wx.heap.size ≤ q2.heap.size := by first | exact bq0.size | exact bq2.size
                  have hnz : ¬ ((p q3.heap.size ∨ q2.heap.size ≤ q3.heap.size) ∧ q3.heap.size < q3.heap.size) := by
                    rintro ⟨h | h, h2⟩
                    · have := hpw'.out _ h; omega
                    · omega
                  go_wp2_with fail
                  go_meet
                  exact ⟨_, q3.heap.size, kr, nr, rs, Ar, cr, rfl, rfl, rfl, ((zq4.set_ 0 _).set_ 1 _).set_ 2 _, hru, hrs, hrl, ((((Rq4).setCell (a := ⟨q3.heap.size, 0, none⟩) hnz _).setCell (a := ⟨q3.heap.size, 1, none⟩) hnz _).setCell (a := ⟨q3.heap.size, 2, none⟩) hnz _).mono (fun b hb => hb.1.imp id (fun h => Nat.le_trans szr h)), ((bq4.setCell szb _).setCell szb _).setCell szb _, szb⟩
              · go_wp2_with fail
                refine name_midR ?_
                intro q5 hn
                have hbq5 : Below q2.heap.size q2 q5 := by rw [hn]; exact (Below.refl _ _).alloc (Nat.le_refl _) _
                have zq5 : Blk q5 q2.heap.size #[.int .i64 0, .int .i64 0, .slice none 0 0] := by rw [hn]; exact Blk.new_ _ 25 _ rfl
                have seq5 : q2.heap.size < q5.heap.size := by rw [hn]; simp
                clear hn
                have Pq5 := Pq2.below hbq5
                have Qq5 := rq2.below hbq5
                have bq5 : Below wx.heap.size wx q5 := bq2.trans (hbq5.mono bq2.size)
                have lq5 := hbq5.size
                refine mid_intro bq5 ?_
                refine gC_one (i := 14) (by kernel_rfl) rfl ?_
                · go_wp2_with (go_at_call 97; refine (ih'.out (d + u) kp n3 s3 A3x c3x kq n8 s8 A8x c8x k' n' ks' A2 c2 _ hh3.out hh8.out hvk.out hgk.out (by omega) Pq5 Qq5 (hr2.below bq5) (fun b hb => by have := hpw'.out b hb; have := bq5.size; omega)).mono ?_; rw [hoo'.out]; rintro e q6 ⟨kr, nr, rs, Ar, cr, rfl, hru, hrs, hrl, hrr, hbq6⟩)
                  have rq6 := rdp_ltR.2 _ _ _ hrr
                  have Pq6 := Pq5.below hbq6
                  have Qq6 := Qq5.below hbq6
                  have Zq6 := zq5.keep hbq6
                  have bq6 : Below wx.heap.size wx q6 := bq5.trans (hbq6.mono bq5.size)
                  have lq6 := hbq6.size
                  refine mid_intro bq6 ?_
                  refine gC_takeT [15, 16, 17] (f := 2) (l' := #[true, true, true, true, true, true, true, true, true, true, true, true, true, true, true, true, true, true, true, false, false]) (lT := [_, _, _]) rfl (by kernel_rfl) (by kernel_rfl) (by kernel_rfl) rfl (fun _ _ d _ _ h => by cases d <;> exact h) ?_
                  repeat (first | ((refine takeY_skip (a' := ?_) ?_ ?_ ?_); (rotate_left); (· (simp [Region.wanted, yielded, Go.undef]; done)); (· (simp only [List.getElem_toArray, List.getElem_cons_zero, List.getElem_cons_succ, Act.put, List.setIfInBounds_toArray, List.set_cons_zero, List.set_cons_succ]; exact rfl))) | ((refine takeY_step (v := ?_) (a' := ?_) ?_ ?_ ?_ ?_); (rotate_left 2); (· (simp [Region.wanted, yielded, Go.undef]; done)); (· (intro w' hS'; go_simp; try (with_reducible rfl))); (· (simp only [List.getElem_toArray, List.getElem_cons_zero, List.getElem_cons_succ, Act.put, List.setIfInBounds_toArray, List.set_cons_zero, List.set_cons_succ]; exact rfl))))
                  refine takeY_nil ?_
                  refine gC_end [19, 20] (lB := [_, _]) (by simp) (by kernel_rfl) (by kernel_rfl) rfl ?_
                  obtain ⟨d0, d1, d2⟩ := Zq6.three
                  have e0 := Zq6.frozen 0
                  have e1 := Zq6.frozen 1
                  have e2 := Zq6.frozen 2
                  have szl := Zq6.lt
                  have szb : wx.heap.size ≤ q2.heap.size := by first | exact bq0.size | exact bq2.size
                  have szr : wx.heap.size ≤ q5.heap.size := by first | exact bq0.size | exact bq5.size
                  have hnz : ¬ ((p q2.heap.size ∨ q5.heap.size ≤ q2.heap.size) ∧ q2.heap.size < q6.heap.size) := by
                    rintro ⟨h | h, h2⟩
                    · have := hpw'.out _ h; omega
                    · omega
                  go_wp2_with fail
                  go_meet
                  exact ⟨_, q2.heap.size, kr, nr, rs, Ar, cr, rfl, rfl, rfl, ((Zq6.set_ 0 _).set_ 1 _).set_ 2 _, hru, hrs, hrl, ((((rq6).setCell (a := ⟨q2.heap.size, 0, none⟩) hnz _).setCell (a := ⟨q2.heap.size, 1, none⟩) hnz _).setCell (a := ⟨q2.heap.size, 2, none⟩) hnz _).mono (fun b hb => hb.1.imp id (fun h => Nat.le_trans szr h)), ((bq6.setCell szb _).setCell szb _).setCell szb _, szb⟩
            · go_wp2_with fail
              refine name_midR ?_
              intro q7 hn
              have hbq7 : Below q1.heap.size q1 q7 := by rw [hn]; exact (Below.refl _ _).alloc (Nat.le_refl _) _
              have zq7 : Blk q7 q1.heap.size #[.int .i64 0, .int .i64 0, .slice none 0 0] := by rw [hn]; exact Blk.new_ _ 25 _ rfl
              have seq7 : q1.heap.size < q7.heap.size := by rw [hn]; simp
              clear hn
              have Pq7 := rq1.below hbq7
              have bq7 : Below wx.heap.size wx q7 := bq1.trans (hbq7.mono bq1.size)
              have lq7 := hbq7.size
              refine mid_intro bq7 ?_
              refine gC_one (i := 8) (by kernel_rfl) rfl ?_
              · go_wp2_with (go_at_call 108; refine (sShift_any (sizes qs + 1) kq nq qs Q cq u m 30 _ (by omega) (by omega) hshq.out (by omega) (by omega) (by omega) (rqx.below bq7)).mono ?_; rw [hn8'.out, hs8'.out]; rintro e q8 ⟨A8x, c8x, rfl, hl8x, hf8x, hbq8⟩)
                have rq8 := hf8x.rd
                have Pq8 := Pq7.below hbq8
                have Zq8 := zq7.keep hbq8
                have bq8 : Below wx.heap.size wx q8 := bq7.trans (hbq8.mono bq7.size)
                have lq8 := hbq8.size
                refine mid_intro bq8 ?_
                refine gC_one (i := 14) (by kernel_rfl) rfl ?_
                · go_wp2_with (go_at_call 97; refine (ih'.out (d + u) kp n3 s3 A3x c3x kq n8 s8 A8x c8x k' n' ks' A2 c2 _ hh3.out hh8.out hvk.out hgk.out (by omega) Pq8 rq8 (hr2.below bq8) (fun b hb => by have := hpw'.out b hb; have := bq8.size; omega)).mono ?_; rw [hoo'.out]; rintro e q9 ⟨kr, nr, rs, Ar, cr, rfl, hru, hrs, hrl, hrr, hbq9⟩)
                  have rq9 := rdp_ltR.2 _ _ _ hrr
                  have Pq9 := Pq8.below hbq9
                  have Zq9 := Zq8.keep hbq9
                  have Qq9 := rq8.below hbq9
                  have bq9 : Below wx.heap.size wx q9 := bq8.trans (hbq9.mono bq8.size)
                  have lq9 := hbq9.size
                  refine mid_intro bq9 ?_
                  refine gC_takeT [15, 16, 17] (f := 2) (l' := #[true, true, true, true, true, true, true, true, true, true, true, true, true, true, true, true, true, true, true, false, false]) (lT := [_, _, _]) rfl (by kernel_rfl) (by kernel_rfl) (by kernel_rfl) rfl (fun _ _ d _ _ h => by cases d <;> exact h) ?_
                  repeat (first | ((refine takeY_skip (a' := ?_) ?_ ?_ ?_); (rotate_left); (· (simp [Region.wanted, yielded, Go.undef]; done)); (· (simp only [List.getElem_toArray, List.getElem_cons_zero, List.getElem_cons_succ, Act.put, List.setIfInBounds_toArray, List.set_cons_zero, List.set_cons_succ]; exact rfl))) | ((refine takeY_step (v := ?_) (a' := ?_) ?_ ?_ ?_ ?_); (rotate_left 2); (· (simp [Region.wanted, yielded, Go.undef]; done)); (· (intro w' hS'; go_simp; try (with_reducible rfl))); (· (simp only [List.getElem_toArray, List.getElem_cons_zero, List.getElem_cons_succ, Act.put, List.setIfInBounds_toArray, List.set_cons_zero, List.set_cons_succ]; exact rfl))))
                  refine takeY_nil ?_
                  refine gC_end [19, 20] (lB := [_, _]) (by simp) (by kernel_rfl) (by kernel_rfl) rfl ?_
                  obtain ⟨d0, d1, d2⟩ := Zq9.three
                  have e0 := Zq9.frozen 0
                  have e1 := Zq9.frozen 1
                  have e2 := Zq9.frozen 2
                  have szl := Zq9.lt
                  have szb : wx.heap.size ≤ q1.heap.size := by first | exact bq0.size | exact bq1.size
                  have szr : wx.heap.size ≤ q8.heap.size := by first | exact bq0.size | exact bq8.size
                  have hnz : ¬ ((p q1.heap.size ∨ q8.heap.size ≤ q1.heap.size) ∧ q1.heap.size < q9.heap.size) := by
                    rintro ⟨h | h, h2⟩
                    · have := hpw'.out _ h; omega
                    · omega
                  go_wp2_with fail
                  go_meet
                  exact ⟨_, q1.heap.size, kr, nr, rs, Ar, cr, rfl, rfl, rfl, ((Zq9.set_ 0 _).set_ 1 _).set_ 2 _, hru, hrs, hrl, ((((rq9).setCell (a := ⟨q1.heap.size, 0, none⟩) hnz _).setCell (a := ⟨q1.heap.size, 1, none⟩) hnz _).setCell (a := ⟨q1.heap.size, 2, none⟩) hnz _).mono (fun b hb => hb.1.imp id (fun h => Nat.le_trans szr h)), ((bq9.setCell szb _).setCell szb _).setCell szb _, szb⟩
          · go_wp2_with fail
            refine name_midR ?_
            intro q10 hn
            have hbq10 : Below q0.heap.size q0 q10 := by rw [hn]; exact (Below.refl _ _).alloc (Nat.le_refl _) _
            have zq10 : Blk q10 q0.heap.size #[.int .i64 0, .int .i64 0, .slice none 0 0] := by rw [hn]; exact Blk.new_ _ 25 _ rfl
            have seq10 : q0.heap.size < q10.heap.size := by rw [hn]; simp
            clear hn
            have bq10 : Below wx.heap.size wx q10 := bq0.trans (hbq10.mono bq0.size)
            have lq10 := hbq10.size
            refine mid_intro bq10 ?_
            refine gC_one (i := 3) (by kernel_rfl) rfl ?_
            · go_wp2_with (go_at_call 108; refine (sShift_any (sizes ps + 1) kp np ps P cp u m 30 _ (by omega) (by omega) hshp.out (by omega) (by omega) (by omega) (rpx.below bq10)).mono ?_; rw [hn3'.out, hs3'.out]; rintro e q11 ⟨A3x, c3x, rfl, hl3x, hf3x, hbq11⟩)
              have rq11 := hf3x.rd
              have Zq11 := zq10.keep hbq11
              have bq11 : Below wx.heap.size wx q11 := bq10.trans (hbq11.mono bq10.size)
              have lq11 := hbq11.size
              refine mid_intro bq11 ?_
              refine gC_one (i := 8) (by kernel_rfl) rfl ?_
              · go_wp2_with (go_at_call 108; refine (sShift_any (sizes qs + 1) kq nq qs Q cq u m 30 _ (by omega) (by omega) hshq.out (by omega) (by omega) (by omega) (rqx.below bq11)).mono ?_; rw [hn8'.out, hs8'.out]; rintro e q12 ⟨A8x, c8x, rfl, hl8x, hf8x, hbq12⟩)
                have rq12 := hf8x.rd
                have Zq12 := Zq11.keep hbq12
                have Pq12 := rq11.below hbq12
                have bq12 : Below wx.heap.size wx q12 := bq11.trans (hbq12.mono bq11.size)
                have lq12 := hbq12.size
                refine mid_intro bq12 ?_
                refine gC_one (i := 14) (by kernel_rfl) rfl ?_
                · go_wp2_with (go_at_call 97; refine (ih'.out (d + u) kp n3 s3 A3x c3x kq n8 s8 A8x c8x k' n' ks' A2 c2 _ hh3.out hh8.out hvk.out hgk.out (by omega) Pq12 rq12 (hr2.below bq12) (fun b hb => by have := hpw'.out b hb; have := bq12.size; omega)).mono ?_; rw [hoo'.out]; rintro e q13 ⟨kr, nr, rs, Ar, cr, rfl, hru, hrs, hrl, hrr, hbq13⟩)
                  have rq13 := rdp_ltR.2 _ _ _ hrr
                  have Zq13 := Zq12.keep hbq13
                  have Pq13 := Pq12.below hbq13
                  have Qq13 := rq12.below hbq13
                  have bq13 : Below wx.heap.size wx q13 := bq12.trans (hbq13.mono bq12.size)
                  have lq13 := hbq13.size
                  refine mid_intro bq13 ?_
                  refine gC_takeT [15, 16, 17] (f := 2) (l' := #[true, true, true, true, true, true, true, true, true, true, true, true, true, true, true, true, true, true, true, false, false]) (lT := [_, _, _]) rfl (by kernel_rfl) (by kernel_rfl) (by kernel_rfl) rfl (fun _ _ d _ _ h => by cases d <;> exact h) ?_
                  repeat (first | ((refine takeY_skip (a' := ?_) ?_ ?_ ?_); (rotate_left); (· (simp [Region.wanted, yielded, Go.undef]; done)); (· (simp only [List.getElem_toArray, List.getElem_cons_zero, List.getElem_cons_succ, Act.put, List.setIfInBounds_toArray, List.set_cons_zero, List.set_cons_succ]; exact rfl))) | ((refine takeY_step (v := ?_) (a' := ?_) ?_ ?_ ?_ ?_); (rotate_left 2); (· (simp [Region.wanted, yielded, Go.undef]; done)); (· (intro w' hS'; go_simp; try (with_reducible rfl))); (· (simp only [List.getElem_toArray, List.getElem_cons_zero, List.getElem_cons_succ, Act.put, List.setIfInBounds_toArray, List.set_cons_zero, List.set_cons_succ]; exact rfl))))
                  refine takeY_nil ?_
                  refine gC_end [19, 20] (lB := [_, _]) (by simp) (by kernel_rfl) (by kernel_rfl) rfl ?_
                  obtain ⟨d0, d1, d2⟩ := Zq13.three
                  have e0 := Zq13.frozen 0
                  have e1 := Zq13.frozen 1
                  have e2 := Zq13.frozen 2
                  have szl := Zq13.lt
                  have szb : wx.heap.size ≤ q0.heap.size := by first | exact bq0.size | exact bq0.size
                  have szr : wx.heap.size ≤ q12.heap.size := by first | exact bq0.size | exact bq12.size
                  have hnz : ¬ ((p q0.heap.size ∨ q12.heap.size ≤ q0.heap.size) ∧ q0.heap.size < q13.heap.size) := by
                    rintro ⟨h | h, h2⟩
                    · have := hpw'.out _ h; omega
                    · omega
                  go_wp2_with fail
                  go_meet
                  exact ⟨_, q0.heap.size, kr, nr, rs, Ar, cr, rfl, rfl, rfl, ((Zq13.set_ 0 _).set_ 1 _).set_ 2 _, hru, hrs, hrl, ((((rq13).setCell (a := ⟨q0.heap.size, 0, none⟩) hnz _).setCell (a := ⟨q0.heap.size, 1, none⟩) hnz _).setCell (a := ⟨q0.heap.size, 2, none⟩) hnz _).mono (fun b hb => hb.1.imp id (fun h => Nat.le_trans szr h)), ((bq13.setCell szb _).setCell szb _).setCell szb _, szb⟩
        case rest =>
          obtain ⟨wy, g14, kr, nr, rs, Ar, cr, hwy, rfl, rfl, hR14, hru, hrs, hrl, hrr, hxy, hg14⟩ := hcut
          subst hwy
          have h0y := h0x.keep hxy
          have h1y := h1x.keep hxy
          have h2y := h2x.keep hxy
          have h3y := h3x.keep hxy
          have by_ := bx.trans (hxy.mono bx.size)
          obtain ⟨y20, y21, y22⟩ := h2y.three
          obtain ⟨r0, r1, r2⟩ := hR14.three
          have sxy := hxy.size
          have l3y := h3y.lt
          have l14 := hR14.lt
          clear g00 g01 g02 g10 g11 g12 g20 g21 g22 gc1 gc2 gc3
          cases oo with
          | none =>
            have hstp := hide (rwL_none_step hlt hst'.out)
            go_wp2_with fail
            go_roundw
            case rel => exact ⟨j + 1, by omega, by go_num, hide (by rw [hinv.out, hstp.out]), h0y, h1y, h2y, h3y, by_⟩
            case measure => simp [intOf]; omega
          | some uu =>
            have huu := hru.out uu rfl
            subst huu
            have hfin := hide (show ro = some (ks.set j (.mk kr nr rs)) by rw [hinv.out]; exact rwL_some_step hlt hst'.out)
            have hsl : (ks.set j (.mk kr nr rs)).length = ks.length := List.length_set
            have hset := hide (show ∀ (i : Nat) (t : Tm), ks[i]? = some t → (ks.set j (.mk kr nr rs))[i]? = some (if i = j then .mk kr nr rs else t) by
              intro i t hi
              have hil : i < ks.length := (List.getElem?_eq_some_iff.1 hi).1
              by_cases hij : i = j
              · subst hij; simp [hil]
              · rw [List.getElem?_set_ne (fun h => hij h.symm), hi, if_neg hij])
            have hszf : sizes (ks.set j (.mk kr nr rs)) ≤ 160000 + sizes ks := sizes_set_le hlt (by rw [hkj'.out, Tm.size, Tm.size]; omega)
            have hszf' := hide hszf
            obtain ⟨LL, hLL⟩ : ∃ LL, ks.set j (.mk kr nr rs) = LL := ⟨_, rfl⟩
            rw [hLL] at hsl hszf
            have hsl' := hide hsl
            have hll : LL.length ≤ 1000000 := by rw [hsl]; omega
            clear hsl
            have hLL' := hide hLL
            have hset2 := hide (show ∀ (i : Nat) (t : Tm), ks[i]? = some t → LL[i]? = some (if i = j then .mk kr nr rs else t) by rw [← hLL]; exact hset.out)
            clear hszf' hset hLL
            obtain ⟨y0, y1, y2⟩ := h3y.three
            have hrr2 := rdp_ltR.2 _ _ _ hrr
            go_wp2_with (go_at_call 140; refine (sWith_any k n ks _ c j kr nr rs Ar cr LL hsl'.out hset2.out _ (by omega) hrl (hr.below by_).rd hrr2 (fun b hb => hb.2)).mono ?_; rintro e wz ⟨Az, cz, rfl, hlz, hrz, hbz⟩; have hZz := h3y.keep hbz; obtain ⟨z0, z1, z2⟩ := hZz.three; have f0 := hZz.frozen 0; have f1 := hZz.frozen 1; have f2 := hZz.frozen 2; have gz := by_.trans (hbz.mono by_.size); have lzz := hbz.size)
            have hnp : ¬ ((((p (w.heap.size + 1 + 1 + 1) ∨ wx.heap.size ≤ (w.heap.size + 1 + 1 + 1)) ∧ (w.heap.size + 1 + 1 + 1) < wy.heap.size) ∨ wy.heap.size ≤ (w.heap.size + 1 + 1 + 1))) := by
              rintro (⟨h | h, -⟩ | h)
              · have := hpw'.out _ h; omega
              · omega
              · omega
            refine bodyPost_ret (v := .tuple #[.agg #[.int .i64 k, .int .i64 n, .slice Az LL.length cz], .bool true]) (by simp [results, Try.results97, go_sem, z0, z1, z2]) rfl ⟨k, n, LL, Az, cz, by rw [hfin.out]; rfl, hide (fun u hu => by rw [hfin.out, hLL'.out] at hu; injection hu with hu; exact hu.symm), by omega, by omega, ?_, ?_⟩
            · exact (((hrz.setCell (a := ⟨(w.heap.size + 1 + 1 + 1), 0, none⟩) hnp _).setCell (a := ⟨(w.heap.size + 1 + 1 + 1), 1, none⟩) hnp _).setCell (a := ⟨(w.heap.size + 1 + 1 + 1), 2, none⟩) hnp _).mono (fun b hb => by rcases hb with ⟨h | h, -⟩ | h; exact Or.inl h; exact Or.inr (by omega); exact Or.inr (by omega))
            · exact ((gz.setCell (by simp; omega) _).setCell (by simp; omega) _).setCell (by simp; omega) _
      · have hjl : j = ks.length := by omega
        have hre : ro = none := by rw [hinv.out]; exact rwL_end hjl
        have hre' := hide hre
        clear hre
        obtain ⟨c20, c21, c22⟩ := hB2.three
        obtain ⟨z0, z1, z2⟩ := hZ.three
        have f0 := hZ.frozen 0
        have f1 := hZ.frozen 1
        have f2 := hZ.frozen 2
        have hnl : ¬ ((j : Int) < (ks.length : Int)) := by omega
        have hnp : ¬ p (w.heap.size + 1 + 1 + 1) := fun hh => by have := hpw'.out _ hh; omega
        go_wp2_with fail
        refine bodyPost_ret (v := .tuple #[.agg #[.int .i64 k, .int .i64 n, .slice A ks.length c], .bool false]) (by simp [results, Try.results97, go_sem, z0, z1, z2]) rfl ⟨k, n, ks, A, c, by rw [hre'.out]; rfl, hide (fun u hu => by rw [hre'.out] at hu; cases hu), by omega, by omega, ?_, ?_⟩
        · exact (((((hr.below g1).setCell (a := ⟨(w.heap.size + 1 + 1 + 1), 0, none⟩) hnp _).setCell (a := ⟨(w.heap.size + 1 + 1 + 1), 1, none⟩) hnp _).setCell (a := ⟨(w.heap.size + 1 + 1 + 1), 2, none⟩) hnp _)).mono (fun b hb => Or.inl hb)
        · exact ((g1.setCell (by simp; omega) _).setCell (by simp; omega) _).setCell (by simp; omega) _
end Go.Proofs.Ytodkenpmhhbppaa
