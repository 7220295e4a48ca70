/-
  Contracts of the functions that the law reaches, and plain lemmas. No condition.
-/
import Derived.Test.YtodkenpmhhbppaaK4
import Derived.Test.YtodkenpmhhbppaaK12
import Derived.Test.YtodkenpmhhbppaaK15
namespace Go.Proofs.Ytodkenpmhhbppaa
set_option linter.unusedSimpArgs false
set_option linter.unusedVariables false
open Go.RowKit
/-- how many binders stand around a place -/
def undT : Tm → List Int → Nat
  | _, [] => 0
  | t, i :: is => (under t.k i).toNat + undT (t.kids.getD i.toNat default) is
theorem undT_append : ∀ (xs ys : List Int) (t u : Tm), atT t xs = some u → undT t (xs ++ ys) = undT t xs + undT u ys
  | [], ys, t, u, h => by cases h; simp [undT]
  | i :: is, ys, t, u, h => by
    rw [atT] at h
    split at h
    · rw [List.cons_append, undT, undT, undT_append is ys _ u h]; omega
    · cases h
theorem undT_take {t u : Tm} {xs : List Int} {j : Nat} (hj : j < xs.length) (h : atT t (xs.take j) = some u) : undT t (xs.take (j + 1)) = undT t (xs.take j) + (under u.k xs[j]).toNat := by
  rw [List.take_succ_eq_append_getElem hj, undT_append _ _ _ _ h, undT, undT]; omega
theorem undT_le : ∀ (xs : List Int) (t : Tm), undT t xs ≤ xs.length
  | [], t => by simp [undT]
  | i :: is, t => by
    have := undT_le is (t.kids.getD i.toNat default)
    have h2 := under_le t.k i
    rw [undT, List.length_cons]; omega
theorem Blk.cells3 {w : World} {b : Nat} {x y z : Value} (h : Blk w b #[x, y, z]) : w.cell? ⟨b, 0, none⟩ = some x ∧ w.cell? ⟨b, 1, none⟩ = some y ∧ w.cell? ⟨b, 2, none⟩ = some z := ⟨h.at_ rfl, h.at_ rfl, h.at_ rfl⟩
set_option maxHeartbeats 4000000 in
set_option maxRecDepth 100000 in
theorem iWalked_any (p : Nat → Prop) (k n : Int) (ks : List Tm) (A : Option Addr) (c : Nat) (xs : List Int) (P : Option Addr) (cp : Nat) (w : World) (hM : sizes ks ≤ 1000000000) (hx : xs.length ≤ 1000000000) (hr : RdP p w A 0 ks) (hpw : ∀ b, p b → b < w.heap.size) (hi : RdI w P xs) {u : Tm} (hu : atT (.mk k n ks) xs = some u) :
    Calls Try.prog 136 #[.agg #[.int .i64 k, .int .i64 n, .slice A ks.length c], .slice P xs.length cp] w (fun e w' => ∃ k2 n2 A2 m2 c2 L cl, e = .returned (.tuple #[.agg #[.int .i64 k2, .int .i64 n2, .slice A2 m2 c2], .slice L (undT (.mk k n ks) xs) cl, .bool true]) ∧ Below w.heap.size w w') := by
  have hlen := length_le_sizes ks
  have hu' := hide hu
  clear hu
  go_enter Try.func136, Try.ntmps136
  go_wp2_with fail
  go_loopw [7, 12] (fun v i wr => ∃ (j : Nat) (k1 n1 : Int) (ks1 : List Tm) (A1 : Option Addr) (c1 : Nat) (ts : List Tm), j ≤ xs.length ∧ i = .int .i64 j ∧ Hid (atT (.mk k n ks) (xs.take j) = some (.mk k1 n1 ks1)) ∧ Hid (ts.length = undT (.mk k n ks) (xs.take j)) ∧ PartR p (w.heap.size + 1 + 1) wr v ts ∧ sizes ks1 ≤ 1000000000 ∧ RdP p w A1 0 ks1 ∧ Blk wr w.heap.size #[.int .i64 k1, .int .i64 n1, .slice A1 ks1.length c1] ∧ Blk wr (w.heap.size + 1) #[.int .i64 0, .int .i64 0, .slice none 0 0] ∧ Below w.heap.size w wr)
    (fun _ i _ => xs.length - (intOf i).toNat)
  case atStart => exact ⟨0, k, n, ks, A, c, [], Nat.zero_le _, rfl, hide rfl, hide rfl, PartR.nil, hM, hr, (Blk.new_ _ _ _ rfl).alloc _, Blk.new_ _ _ _ (by simp), ((Below.refl _ _).alloc (by simp) _).alloc (by simp) _⟩
  case round =>
    obtain ⟨j, k1, n1, ks1, A1, c1, ts, hj, rfl, hat, hts, hp, hl1, hr1, hB1, hB2, hb⟩ := hrel
    have hl1' := length_le_sizes ks1
    have lB2 := hB2.lt
    by_cases hlt : j < xs.length
    · obtain ⟨b, off, rfl, hc⟩ := hi.below hb j hlt
      have hnx := atT_take hlt hat.out
      have hun := undT_take hlt hat.out
      have hne : atT (.mk k n ks) (xs.take (j + 1)) ≠ none := fun h => by have := atT_none h; rw [hu'.out] at this; cases this
      have htl : ts.length ≤ 1000000000 := by have := undT_le (xs.take j) (.mk k n ks); have := hts.out; rw [List.length_take] at *; omega
      generalize hxj : xs[j] = x at hc hnx hun
      have hxj' := hide hxj
      clear hxj
      by_cases hin : 0 ≤ x ∧ x < ks1.length
      · obtain ⟨i, rfl⟩ : ∃ i : Nat, x = (i : Int) := ⟨x.toNat, by omega⟩
        have hik : i < ks1.length := by omega
        obtain ⟨b3, off3, k3, n3, ks3, A3, c3, rfl, hkj3, hd1, hd2, hd3, hl3, hr3⟩ := hr1.at_ hik
        have hst : atT (.mk k n ks) (xs.take (j + 1)) = some (.mk k3 n3 ks3) := by
          rw [hnx, if_pos (show 0 ≤ (i : Int) ∧ (i : Int) < (Tm.mk k1 n1 ks1).kids.length from hin), Int.toNat_natCast, show (Tm.mk k1 n1 ks1).kids = ks1 from rfl, List.getD_eq_getElem?_getD, List.getElem?_eq_getElem hik, Option.getD_some, hkj3]
        have hsz := sizes_le (List.getElem_mem hik)
        rw [hkj3] at hsz
        simp only [Tm.size] at hsz
        have hst' := hide hst
        have hun' := hide hun
        have hw0 : (decide (0 ≤ (i : Int)) && decide ((i : Int) ≤ (ks1.length : Int) - 1)) = true := by simp; omega
        clear hkj3 hst hnx hne hun
        have z2 := (Keeps.of_below hb) _ _ hd1
        have z3 := (Keeps.of_below hb) _ _ hd2
        have z4 := (Keeps.of_below hb) _ _ hd3
        have cc2 : wr.cell? ⟨w.heap.size, 2, none⟩ = some (.slice (some ⟨b3, off3, none⟩) ks1.length c1) := hB1.at_ rfl
        have cc0 : wr.cell? ⟨w.heap.size, 0, none⟩ = some (.int .i64 k1) := hB1.at_ rfl
        have cc1 : wr.cell? ⟨w.heap.size, 1, none⟩ = some (.int .i64 n1) := hB1.at_ rfl
        have f0 := hB1.frozen 0
        have f1 := hB1.frozen 1
        have f2 := hB1.frozen 2
        by_cases q : 0 < under k1 i
        · have q1 : under k1 i = 1 := by have := under_le k1 i; omega
          have qd : decide (0 < under k1 i) = true := decide_eq_true q
          have h0l : 0 < ks1.length := by omega
          obtain ⟨b4, off4, k4, n4, ks4, A4, c4, e4, hkj4, ha1, ha2, ha3, hl4, hr4⟩ := hr1.at_ h0l
          injection e4 with e4
          injection e4 with e4 e5
          subst e4 e5
          rw [Nat.zero_mul, Nat.add_zero] at ha1 ha2 ha3
          have y2 := (Keeps.of_below hb) _ _ ha1
          have y3 := (Keeps.of_below hb) _ _ ha2
          have y4 := (Keeps.of_below hb) _ _ ha3
          clear hkj4 q
          go_wp2_with (first | (go_at_call 69; refine (within_any _ _ _ _).mono ?_; rw [hw0]; rintro e w' ⟨rfl, rfl⟩) | (go_at_call 127; refine (iUnder_any _ _ _).mono ?_; rintro e w' ⟨rfl, rfl⟩) | (at_builtin; refine wpList_append_rd (lo := p) (B := w.heap.size + 1 + 1) (m := ts.length) (k := k4) (n := n4) (ks := ks4) (A := A4) (c := c4) (q := p) hp (by omega) (hr4.below hb) (fun b hb' => ⟨.inl hb', by have := hpw b hb'; have := hb.size; omega, fun e => by obtain ⟨xs1, h1, _⟩ := hp; have := (h1.lt b e).1; have := hpw b hb'; omega⟩) hl4 rfl (by omega) rfl _ _ rfl rfl (by show Value.slice (some ⟨wr.heap.size, 0, none⟩) 1 1 = _; simp) ?_; intro A2 c2 w2 hp2 hb2 hg2; have hbf : Below w.heap.size w w2 := hb.trans (hb2.mono (by omega)); have q1' : Blk w2 w.heap.size #[.int .i64 k1, .int .i64 n1, .slice (some ⟨b3, off3, none⟩) ks1.length c1] := hB1.below hb2 (by omega); have q2' : Blk w2 (w.heap.size + 1) #[.int .i64 0, .int .i64 0, .slice none 0 0] := hB2.below hb2 (by omega); clear z2 z3 z4 cc0 cc1 cc2 f0 f1 f2 y2 y3 y4; have z2 := (Keeps.of_below hbf) _ _ hd1; have z3 := (Keeps.of_below hbf) _ _ hd2; have z4 := (Keeps.of_below hbf) _ _ hd3; obtain ⟨cc0, cc1, cc2⟩ := q1'.cells3; have f0 := q1'.frozen 0; have f1 := q1'.frozen 1; have f2 := q1'.frozen 2))
          go_roundw
          case rel => exact ⟨j + 1, k3, n3, ks3, A3, c3, ts ++ [.mk k4 n4 ks4], by omega, by go_num, hst', hide (by rw [hun'.out, List.length_append, hts.out, show (Tm.mk k1 n1 ks1).k = k1 from rfl, q1]; rfl), ((hp2.setCell ⟨fun h => by have := hpw _ h; simp at this, by simp; omega⟩ _).setCell ⟨fun h => by have := hpw _ h; simp at this, by simp; omega⟩ _).setCell ⟨fun h => by have := hpw _ h; simp at this, by simp; omega⟩ _, by omega, hr3, ((q1'.set_ 0 _).set_ 1 _).set_ 2 _, ((q2'.far (by simp) _).far (by simp) _).far (by simp) _, ((hbf.setCell (by simp) _).setCell (by simp) _).setCell (by simp) _⟩
          case measure => simp [intOf]; omega
        · have qd : decide (0 < under k1 i) = false := decide_eq_false q
          have q1 : under k1 i = 0 := by have := under_le k1 i; omega
          clear q
          go_wp2_with (first | (go_at_call 69; refine (within_any _ _ _ _).mono ?_; rw [hw0]; rintro e w' ⟨rfl, rfl⟩) | (go_at_call 127; refine (iUnder_any _ _ _).mono ?_; rintro e w' ⟨rfl, rfl⟩))
          go_roundw
          case rel => exact ⟨j + 1, k3, n3, ks3, A3, c3, ts, by omega, by go_num, hst', hide (by rw [hun'.out, hts.out, show (Tm.mk k1 n1 ks1).k = k1 from rfl, q1]; rfl), ((hp.setCell ⟨fun h => by have := hpw _ h; simp at this, by simp; omega⟩ _).setCell ⟨fun h => by have := hpw _ h; simp at this, by simp; omega⟩ _).setCell ⟨fun h => by have := hpw _ h; simp at this, by simp; omega⟩ _, by omega, hr3, ((hB1.set_ 0 _).set_ 1 _).set_ 2 _, ((hB2.far (by simp) _).far (by simp) _).far (by simp) _, ((hb.setCell (by simp) _).setCell (by simp) _).setCell (by simp) _⟩
          case measure => simp [intOf]; omega
      · exact absurd (by rw [hnx, if_neg (show ¬ (0 ≤ x ∧ x < (Tm.mk k1 n1 ks1).kids.length) from hin)]) hne
    · have hjl : j = xs.length := by omega
      subst hjl
      have hts' := hts.out
      rw [List.take_length] at hts'
      obtain ⟨L, cl, rfl⟩ := hp.shape
      rw [hts'] at hp ⊢
      have cc0 : wr.cell? ⟨w.heap.size, 0, none⟩ = some (.int .i64 k1) := hB1.at_ rfl
      have cc1 : wr.cell? ⟨w.heap.size, 1, none⟩ = some (.int .i64 n1) := hB1.at_ rfl
      have cc2 : wr.cell? ⟨w.heap.size, 2, none⟩ = some (.slice A1 ks1.length c1) := hB1.at_ rfl
      have d0 : wr.cell? ⟨w.heap.size + 1, 0, none⟩ = some (.int .i64 0) := hB2.at_ rfl
      have d1 : wr.cell? ⟨w.heap.size + 1, 1, none⟩ = some (.int .i64 0) := hB2.at_ rfl
      have d2 : wr.cell? ⟨w.heap.size + 1, 2, none⟩ = some (.slice none 0 0) := hB2.at_ rfl
      have e0 := hB2.frozen 0
      have e1 := hB2.frozen 1
      have e2 := hB2.frozen 2
      go_wp2_with fail
      refine bodyPost_ret (v := .tuple #[.agg #[.int .i64 k1, .int .i64 n1, .slice A1 ks1.length c1], .slice L (undT (.mk k n ks) xs) cl, .bool true]) (by simp [results, Try.results136, go_sem, d0, d1, d2]) rfl ⟨_, _, _, _, _, L, cl, rfl, ?_⟩
      exact ((hb.setCell (by simp) _).setCell (by simp) _).setCell (by simp) _
set_option maxHeartbeats 1000000 in
set_option maxRecDepth 100000 in
theorem iAround_any (p : Nat → Prop) (k n : Int) (ks : List Tm) (A : Option Addr) (c : Nat) (xs : List Int) (P : Option Addr) (cp : Nat) (w : World) (hM : sizes ks ≤ 1000000000) (hx : xs.length ≤ 1000000000) (hr : RdP p w A 0 ks) (hpw : ∀ b, p b → b < w.heap.size) (hi : RdI w P xs) {u : Tm} (hu : atT (.mk k n ks) xs = some u) :
    Calls Try.prog 91 #[.agg #[.int .i64 k, .int .i64 n, .slice A ks.length c], .slice P xs.length cp] w (fun e w' => e = .returned (.int .i64 (undT (.mk k n ks) xs)) ∧ Below w.heap.size w w') := by
  go_enter Try.func91, Try.ntmps91
  go_wp2_with (go_at_call 136; refine (iWalked_any p k n ks A c xs P cp _ hM hx (hr.alloc _) (fun b hb => by have := hpw b hb; simp; omega) (hi.alloc _) hu).mono ?_; rintro e w1 ⟨k2, n2, A2, m2, c2, L, cl, rfl, hb1⟩; have hb : Below w.heap.size w w1 := ((Below.refl _ _).alloc (Nat.le_refl _) _).trans (hb1.mono (by simp)))
  go_ret
  exact ⟨rfl, hb.alloc hb.size _⟩
open Go.RowKit
mutual
/-- all numbers of a term are at most b -/
def hiN (b : Int) : Tm → Bool
  | .mk k n ks => decide (n ≤ b) && hiNL b ks
def hiNL (b : Int) : List Tm → Bool
  | [] => true
  | t :: ts => hiN b t && hiNL b ts
end
theorem hiN_up {b c : Int} (h : b ≤ c) : (∀ t, hiN b t = true → hiN c t = true) ∧ ∀ ts, hiNL b ts = true → hiNL c ts = true := by
  refine Tm.ind2 (fun k n ks ih ht => ?_) (fun _ => rfl) (fun t ts h1 h2 ht => ?_)
  · rw [hiN, Bool.and_eq_true, decide_eq_true_eq] at ht ⊢
    exact ⟨by omega, ih ht.2⟩
  · rw [hiNL, Bool.and_eq_true] at ht ⊢
    exact ⟨h1 ht.1, h2 ht.2⟩
theorem shSL_len (j k c : Int) : ∀ (ts : List Tm) (i : Nat), (shSL j k c i ts).length = ts.length
  | [], i => rfl
  | t :: ts, i => by rw [shSL, List.length_cons, List.length_cons, shSL_len j k c ts (i + 1)]
/-- a shift within the limit keeps the shape -/
theorem shS_shapeU {j : Int} (hj : 0 ≤ j) : (∀ t (q : Nat) (c : Int), shape q t = true → hiN (20 - j) t = true → shape q (shS j c t) = true) ∧ ∀ ts (q : Nat) (k c : Int) (i : Nat), (∀ t, t ∈ ts → shape q t = true) → hiNL (20 - j) ts = true → ∀ t, t ∈ shSL j k c i ts → shape q t = true := by
  refine Tm.ind2 (fun k n ks ih q c hs hn => ?_) (fun _ _ _ _ _ _ t ht => by rw [shSL] at ht; cases ht) (fun t ts h1 h2 q k c i hs hn u hu => ?_)
  · obtain ⟨q, rfl, ha, h0, hm, hk⟩ := shape_pos hs
    rw [hiN, Bool.and_eq_true, decide_eq_true_eq] at hn
    rw [shS, shape_split]
    refine ⟨by rw [shSL_len]; exact ha, ?_, ?_, ih q k c 0 hk hn.2⟩
    · split <;> omega
    · split
      · rename_i h1
        have : mostN k = 20 := by rw [h1.1]; rfl
        omega
      · exact hm
  · rw [hiNL, Bool.and_eq_true] at hn
    rw [shSL] at hu
    rcases List.mem_cons.1 hu with rfl | hu
    · exact h1 q _ (hs t List.mem_cons_self) hn.1
    · exact h2 q k c (i + 1) (fun t ht => hs t (List.mem_cons_of_mem _ ht)) hn.2 u hu
theorem shS_valid {j c : Int} (hj : 0 ≤ j) {t : Tm} (hv : validT t = true) (hn : hiN (20 - j) t = true) : validT (shS j c t) = true := by
  simp only [validT, Bool.and_eq_true, decide_eq_true_eq] at hv ⊢
  exact ⟨(shS_shapeU hj).1 t 30 c hv.1 hn, by rw [shS_size j]; exact hv.2⟩
/-- the program's shift, within the limit -/
theorem shiftI_shS {j c : Int} (hj : 0 ≤ j) {t : Tm} (hv : validT t = true) (hn : hiN (20 - j) t = true) : shiftI j c t = some (shS j c t) := by
  have h2 := shS_valid (c := c) hj hv hn
  have hsh := validT_shape30 hv
  have hok : chgOk (shOk j c) 0 t = true := shOk_of_shape j c hj t 30 30 0 hsh (by rw [Int.add_zero]; exact validT_shape30 h2)
  have hc : chg (shF j c) 0 t = shS j c t := by rw [shS_chg j c t 30 0 hsh, Int.add_zero]
  unfold shiftI
  rw [if_pos hok, hc, if_pos h2]
/-- two shifts at one place are one -/
theorem shS_shS {i j : Int} (hi : 0 ≤ i) (hj : 0 ≤ j) : (∀ t (c : Int), shS i c (shS j c t) = shS (i + j) c t) ∧ ∀ ts (k c : Int) (q : Nat), shSL i k c q (shSL j k c q ts) = shSL (i + j) k c q ts := by
  refine Tm.ind2 (fun k n ks ih c => ?_) (fun _ _ _ => rfl) (fun t ts h1 h2 k c q => ?_)
  · rw [shS, shS, shS, ih]
    by_cases h : k = 1 ∧ c ≤ n
    · rw [if_pos h, if_pos h, if_pos ⟨h.1, by omega⟩]; congr 1; omega
    · rw [if_neg h, if_neg h, if_neg h]
  · rw [shSL, shSL, shSL, h1, h2]
mutual
/-- the first place that matches, with what is found there; d binders stand around the term -/
def fndS (m : Nat) (p : Tm) (d : Int) : Tm → Option (List Int × Int × List Tm)
  | .mk k n ks => match tryS m 0 (shS d m p) (.mk k n ks) with
    | some L => some ([], d, L)
    | none => fndL m p k d 0 ks
def fndL (m : Nat) (p : Tm) (k d : Int) (i : Nat) : List Tm → Option (List Int × Int × List Tm)
  | [] => none
  | t :: ts => match fndS m p (d + under k i) t with
    | some r => some ((i : Int) :: r.1, r.2)
    | none => fndL m p k d (i + 1) ts
end
mutual
/-- the reference's rewriting -/
def rwS (m : Nat) (p q : Tm) : Tm → Option Tm
  | .mk k n ks => match tryS m 0 p (.mk k n ks) with
    | some L => some (flS L 0 q)
    | none => (rwL m p q k 0 ks).map (Tm.mk k n)
def rwL (m : Nat) (p q : Tm) (k : Int) (i : Nat) : List Tm → Option (List Tm)
  | [] => none
  | t :: ts => match rwS m (shS (under k i) m p) (shS (under k i) m q) t with
    | some u => some (u :: ts)
    | none => (rwL m p q k (i + 1) ts).map (t :: ·)
end
theorem fndL_ne {m : Nat} {p : Tm} {k : Int} : ∀ (ts : List Tm) (d : Int) (i : Nat) (r : Int × List Tm), fndL m p k d i ts ≠ some ([], r)
  | [], d, i, r => by rw [fndL]; exact fun h => by cases h
  | t :: ts, d, i, r => by
    rw [fndL]
    split
    · intro h; cases h
    · exact fndL_ne ts d (i + 1) r
theorem rw_fnd {m : Nat} {p q : Tm} : (∀ t (d : Int), 0 ≤ d → rwS m (shS d m p) (shS d m q) t = (fndS m p d t).map fun r => putN t r.1 (flS r.2.2 0 (shS r.2.1 m q))) ∧
    ∀ ts (k d : Int) (i : Nat) (pre : List Tm), 0 ≤ d → pre.length = i → (rwL m (shS d m p) (shS d m q) k i ts).map (pre ++ ·) = (fndL m p k d i ts).map fun r => (pre ++ ts).set (r.1.headD 0).toNat (putN ((pre ++ ts).getD (r.1.headD 0).toNat default) r.1.tail (flS r.2.2 0 (shS r.2.1 m q))) := by
  refine Tm.ind2 (fun k n ks ih d hd => ?_) (fun k d i pre hd hp => by rw [rwL, fndL]; rfl) (fun t ts h1 h2 k d i pre hd hp => ?_)
  · rw [rwS, fndS]
    cases ht : tryS m 0 (shS d m p) (.mk k n ks) with
    | some L => simp [putN]
    | none =>
      simp only
      have h := ih k d 0 [] hd rfl
      simp only [List.nil_append] at h
      rw [show (rwL m (shS d m p) (shS d m q) k 0 ks).map (Tm.mk k n) = ((rwL m (shS d m p) (shS d m q) k 0 ks).map fun x => x).map (Tm.mk k n) from by simp, h]
      cases hf : fndL m p k d 0 ks with
      | none => rfl
      | some r =>
        obtain ⟨path, r2⟩ := r
        simp only [Option.map_some]
        have hne : path ≠ [] := by
          intro e
          subst e
          exact absurd hf (fndL_ne _ _ _ _)
        cases path with
        | nil => exact absurd rfl hne
        | cons a is => simp [putN]
  · have hu : 0 ≤ under k i := (under_le k i).1
    rw [rwL, fndL]
    rw [(shS_shS hu hd).1, (shS_shS hu hd).1, Int.add_comm (under k i) d, h1 (d + under k i) (by omega)]
    cases hf : fndS m p (d + under k i) t with
    | some r =>
      simp only [Option.map_some]
      have hg : (pre ++ t :: ts).getD i default = t := by rw [List.getD_eq_getElem?_getD, List.getElem?_append_right (by omega), hp]; simp
      have hs : ∀ u, (pre ++ t :: ts).set i u = pre ++ u :: ts := fun u => by rw [List.set_append, if_neg (by omega), hp]; simp
      simp only [List.headD_cons, List.tail_cons, show ((i : Int)).toNat = i from by omega, hg, hs]
    | none =>
      simp only [Option.map_none]
      have h := h2 k d (i + 1) (pre ++ [t]) hd (by simp [hp])
      simp only [List.append_assoc, List.singleton_append] at h
      rw [← h]
      cases rwL m (shS d m p) (shS d m q) k (i + 1) ts with
      | none => rfl
      | some x => simp
open Go.RowKit
/-- no way from the root is longer than b -/
def hgB : Nat → Tm → Bool
  | 0, _ => false
  | b + 1, .mk _ _ ks => ks.all fun t => hgB b t
/-- the program's rewriting at one place -/
def ansI (m : Nat) (q T : Tm) (x : List Int) (d : Int) (L : List Tm) : Option Tm := (fillI L (shS d m q)).bind fun u => vO (putN T x u)
/-- the program's rewriting, over the places that are left -/
def loopI (m : Nat) (p q T : Tm) : List (List Int) → Option Tm
  | [] => none
  | x :: xs => match shiftI (undT T x) m p with
    | none => loopI m p q T xs
    | some p' => match tryS m 0 p' ((atT T x).getD default) with
      | none => loopI m p q T xs
      | some L => match shiftI (undT T x) m q with
        | none => none
        | some q' => (fillI L q').bind fun u => vO (putN T x u)
theorem loop_one {m : Nat} {p q T t : Tm} {x : List Int} {xs : List (List Int)} (hp : validT p = true) (hp3 : hiN 3 p = true) (hq : validT q = true) (hq3 : hiN 3 q = true) (hx : x.length ≤ 17) (hat : atT T x = some t) :
    loopI m p q T (x :: xs) = match tryS m 0 (shS (undT T x) m p) t with | none => loopI m p q T xs | some L => ansI m q T x (undT T x) L := by
  have hu := undT_le x T
  rw [loopI, shiftI_shS (by omega) hp ((hiN_up (by omega)).1 p hp3), hat]
  simp only [Option.getD_some]
  split
  · rfl
  · rw [shiftI_shS (by omega) hq ((hiN_up (by omega)).1 q hq3)]; rfl
theorem loop_fnd {m : Nat} {p q T : Tm} (hp : validT p = true) (hp3 : hiN 3 p = true) (hq : validT q = true) (hq3 : hiN 3 q = true) :
    (∀ t, ∀ (c : Nat) (x : List Int) (rest : List (List Int)), hgB c t = true → x.length + c ≤ 18 → atT T x = some t → loopI m p q T (plT allT x t ++ rest) = match fndS m p (undT T x) t with | none => loopI m p q T rest | some r => ansI m q T (x ++ r.1) r.2.1 r.2.2) ∧
    ∀ ts, ∀ (c : Nat) (x : List Int) (rest : List (List Int)) (k n : Int) (us : List Tm) (i : Nat), (∀ t, t ∈ ts → hgB c t = true) → x.length + 1 + c ≤ 18 → atT T x = some (.mk k n us) → us.drop i = ts → loopI m p q T (plL allT x i ts ++ rest) = match fndL m p k (undT T x) i ts with | none => loopI m p q T rest | some r => ansI m q T (x ++ r.1) r.2.1 r.2.2 := by
  refine Tm.ind2 (fun k n ks ih c x rest hc hx hat => ?_) (fun c x rest k n us i hc hx hat hd => by rw [plL, fndL]; rfl) (fun t ts h1 h2 c x rest k n us i hc hx hat hd => ?_)
  · cases c with
    | zero => rw [hgB] at hc; cases hc
    | succ c =>
      rw [plT, if_pos (show allT (.mk k n ks) = true from rfl), List.append_assoc, List.singleton_append, loop_one hp hp3 hq hq3 (by omega) hat, fndS]
      rw [hgB] at hc
      cases ht : tryS m 0 (shS (undT T x) m p) (.mk k n ks) with
      | some L => simp only [List.append_nil]
      | none =>
        simp only
        exact ih c x rest k n ks 0 (List.all_eq_true.1 hc) (by omega) hat rfl
  · have hi : i < us.length := by
      rcases Nat.lt_or_ge i us.length with h | h
      · exact h
      · rw [List.drop_eq_nil_of_le h] at hd; cases hd
    have hd2 := List.drop_eq_getElem_cons hi
    rw [hd] at hd2
    injection hd2 with e1 e2
    have hg : us.getD i default = t := by rw [List.getD_eq_getElem?_getD, List.getElem?_eq_getElem hi, e1]; rfl
    have hat2 : atT T (x ++ [(i : Int)]) = some t := by
      rw [atT_append, hat, Option.bind_some, atT, if_pos ⟨by omega, by show (i : Int) < us.length; omega⟩]
      show atT (us.getD (i : Int).toNat default) [] = _
      rw [show ((i : Int)).toNat = i from by omega, hg]; rfl
    have hun : (undT T (x ++ [(i : Int)]) : Int) = undT T x + under k i := by
      rw [undT_append _ _ _ _ hat, undT, undT]
      have := (under_le k i).1
      show ((undT T x + ((under k (i : Int)).toNat + 0) : Nat) : Int) = _
      omega
    rw [plL, List.append_assoc, h1 c (x ++ [(i : Int)]) _ (hc t List.mem_cons_self) (by simp; omega) hat2, fndL, hun]
    cases hf : fndS m p (undT T x + under k i) t with
    | some r => simp
    | none =>
      simp only
      exact h2 c x rest k n us (i + 1) (fun u hu => hc u (List.mem_cons_of_mem _ hu)) hx hat e2.symm
/-- the first place that matches is a place, the binders around it are counted, and the match is one -/
theorem fnd_at {m : Nat} {p : Tm} : (∀ t (d : Int) (x : List Int) (e : Int) (L : List Tm), fndS m p d t = some (x, e, L) → ∃ u, atT t x = some u ∧ e = d + undT t x ∧ tryS m 0 (shS e m p) u = some L) ∧
    ∀ ts (k n d : Int) (i : Nat) (us : List Tm) (x : List Int) (e : Int) (L : List Tm), us.drop i = ts → fndL m p k d i ts = some (x, e, L) → ∃ u, atT (.mk k n us) x = some u ∧ e = d + undT (.mk k n us) x ∧ tryS m 0 (shS e m p) u = some L := by
  refine Tm.ind2 (fun k n ks ih d x e L h => ?_) (fun k n d i us x e L _ h => by rw [fndL] at h; cases h) (fun t ts h1 h2 k n d i us x e L hd h => ?_)
  · rw [fndS] at h
    split at h
    · rename_i L' hL
      cases h
      exact ⟨_, rfl, by simp [undT], hL⟩
    · exact ih k n d 0 ks x e L rfl h
  · have hi : i < us.length := by
      rcases Nat.lt_or_ge i us.length with h | h
      · exact h
      · rw [List.drop_eq_nil_of_le h] at hd; cases hd
    have hd2 := List.drop_eq_getElem_cons hi
    rw [hd] at hd2
    injection hd2 with e1 e2
    have hg : us.getD i default = t := by rw [List.getD_eq_getElem?_getD, List.getElem?_eq_getElem hi, e1]; rfl
    rw [fndL] at h
    split at h
    · rename_i r hr
      obtain ⟨x', e', L'⟩ := r
      cases h
      obtain ⟨u, hu, he, hL⟩ := h1 _ _ _ _ hr
      refine ⟨u, ?_, ?_, hL⟩
      · rw [atT, if_pos ⟨by omega, by show (i : Int) < us.length; omega⟩]
        show atT (us.getD (i : Int).toNat default) _ = _
        rw [show ((i : Int)).toNat = i from by omega, hg]; exact hu
      · rw [undT]
        have := (under_le k i).1
        show _ = d + (((under k (i : Int)).toNat + undT (us.getD (i : Int).toNat default) x' : Nat) : Int)
        rw [show ((i : Int)).toNat = i from by omega, hg]
        omega
    · exact h2 k n d (i + 1) us x e L e2.symm h
theorem put_at : ∀ (x : List Int) (t u : Tm), atT t x = some u → putN t x u = t
  | [], t, u, h => by cases h; cases t; simp [putN]
  | i :: is, .mk k n ks, u, h => by
    rw [atT] at h
    split at h
    · rename_i hh
      change atT (ks.getD i.toNat default) is = some u at h
      rw [putN, put_at is _ u h]
      have hi : i.toNat < ks.length := by have := hh.2; change i < (ks.length : Int) at this; omega
      congr 1
      rw [List.getD_eq_getElem?_getD, List.getElem?_eq_getElem hi]
      simp
    · cases h
theorem at_len : ∀ (x : List Int) (c : Nat) (t u : Tm), hgB c t = true → atT t x = some u → x.length + 1 ≤ c
  | [], 0, t, u, hc, h => by rw [hgB] at hc; cases hc
  | [], c + 1, t, u, hc, h => by simp
  | i :: is, 0, t, u, hc, h => by rw [hgB] at hc; cases hc
  | i :: is, c + 1, .mk k n ks, u, hc, h => by
    rw [hgB] at hc
    rw [atT] at h
    split at h
    · rename_i hh
      change atT (ks.getD i.toNat default) is = some u at h
      have hi : i.toNat < ks.length := by have := hh.2; change i < (ks.length : Int) at this; omega
      rw [List.getD_eq_getElem?_getD, List.getElem?_eq_getElem hi] at h
      have := at_len is c _ u (List.all_eq_true.1 hc _ (List.getElem_mem hi)) h
      simp; omega
    · cases h
/-- the terms that a match finds are valid, and there are m of them -/
theorem try_valid {m : Nat} {p u : Tm} {L : List Tm} (h : tryS m 0 p u = some L) : L.length = m ∧ ∀ t, t ∈ L → validT t = true := by
  obtain ⟨st, hmt, rfl, hall, hl, hl2⟩ := tryS_some h
  refine ⟨hl, fun t ht => ?_⟩
  obtain ⟨i, hi, rfl⟩ := List.getElem_of_mem ht
  have h1 := mt_found (m := m) p 0 u (List.replicate m zeroT, List.replicate m false) (fun i hi => by
    simp only [List.getD_eq_getElem?_getD, List.getElem?_replicate] at hi
    split at hi <;> simp at hi) (by simp) (by simp) i (by
      rw [hmt]
      exact (all_getD st.2).1 hall i (by omega))
  rw [hmt] at h1
  simpa [List.getD_eq_getElem?_getD, List.getElem?_eq_getElem hi] using h1
/-- what is filled at a place -/
theorem ans_eq {m : Nat} (hm : m ≤ 6) {q T u : Tm} {x : List Int} {d : Nat} {L : List Tm} (hq : validT q = true) (hq3 : hiN 3 q = true) (hd : d ≤ 17) (hat : atT T x = some u) (hL : L.length = m) (hLv : ∀ t, t ∈ L → validT t = true) : ansI m q T x d L = vO (putN T x (flS L 0 (shS d m q))) := by
  have hqv := shS_valid (j := d) (c := m) (by omega) hq ((hiN_up (by omega)).1 q hq3)
  have hf := fill_same (shS d m q) L
  have hany : (L.any fun a => !validT a) = false := by
    rw [List.any_eq_false]; intro a ha; simp [hLv a ha]
  have e1 : fillTI (shS d m q) L = fillI L (shS d m q) := by unfold fillTI; rw [if_pos ⟨hqv, by omega, hany⟩]
  rw [e1] at hf
  unfold ansI
  rw [← hf]
  unfold fillTS
  by_cases hv : validT (flS L 0 (shS d m q)) = true
  · rw [if_pos ⟨hqv, by omega, hany, hv⟩]; rfl
  · rw [if_neg (fun h => hv h.2.2.2)]
    rw [vO, if_neg (fun h => hv (putN_valid x T u _ hat h))]; rfl
/-- the reference's answer -/
def rwTS (p : Tm) (z : Int) (q t : Tm) : Option Tm := if validT p = true ∧ validT q = true ∧ validT t = true ∧ 0 ≤ z ∧ z ≤ 6 then (rwS z.toNat p q t).bind vO else none
/-- the program's answer -/
def rwTI (p : Tm) (z : Int) (q t : Tm) : Option Tm := if validT p = true ∧ validT q = true ∧ validT t = true ∧ 0 ≤ z ∧ z ≤ 6 then loopI z.toNat p q t (plT allT [] t) else none
theorem rw_loop {m : Nat} (hm : m ≤ 6) {p q t : Tm} (hp : validT p = true) (hp3 : hiN 3 p = true) (hq : validT q = true) (hq3 : hiN 3 q = true) (hg : hgB 18 t = true) :
    loopI m p q t (plT allT [] t) = (rwS m p q t).bind vO ∧ (rwS m p q t).isSome = (fndS m p 0 t).isSome := by
  have h1 := (loop_fnd (m := m) (T := t) hp hp3 hq hq3).1 t 18 [] [] hg (by simp) rfl
  have h2 := (rw_fnd (m := m) (p := p) (q := q)).1 t 0 (Int.le_refl 0)
  rw [shS_zero, shS_zero] at h2
  rw [List.append_nil] at h1
  rw [h1, h2]
  change (match fndS m p (0 : Int) t with | none => _ | some r => _) = _ ∧ _
  cases hf : fndS m p 0 t with
  | none => exact ⟨rfl, rfl⟩
  | some r =>
    obtain ⟨x, e, L⟩ := r
    refine ⟨?_, rfl⟩
    obtain ⟨u, hat, he, hL⟩ := fnd_at.1 t 0 x e L hf
    have hlen := at_len x 18 t u hg hat
    have hu := undT_le x t
    have hv := try_valid hL
    have he' : e = ((undT t x : Nat) : Int) := by omega
    subst he'
    simp only [List.nil_append, Option.map_some, Option.bind_some]
    exact ans_eq hm hq hq3 (by omega) hat hv.1 hv.2
theorem rw_same {p q t : Tm} {z : Int} (hp3 : validT p = true → hiN 3 p = true) (hq3 : hiN 3 q = true) (hg : validT t = true → hgB 18 t = true) : rwTS p z q t = rwTI p z q t := by
  unfold rwTS rwTI
  split
  · rename_i h
    exact (rw_loop (by omega) h.1 (hp3 h.1) h.2.1 hq3 (hg h.2.2.1)).1.symm
  · rfl
/-- rewriting by the pattern itself gives the term back -/
theorem rw_self {p q t : Tm} {z : Int} (hp3 : validT p = true → hiN 3 p = true) (hg : validT t = true → hgB 18 t = true) (h : (rwTS p z q t).isSome = true) : rwTI p z p t = some t := by
  unfold rwTS at h
  split at h
  · rename_i hh
    obtain ⟨hp, hq, ht, h0, h6⟩ := hh
    unfold rwTI
    rw [if_pos ⟨hp, hp, ht, h0, h6⟩]
    have h1 := rw_loop (m := z.toNat) (by omega) hp (hp3 hp) hp (hp3 hp) (hg ht)
    rw [h1.1]
    have h2 := (rw_fnd (m := z.toNat) (p := p) (q := p)).1 t 0 (Int.le_refl 0)
    have h3 := (rw_fnd (m := z.toNat) (p := p) (q := q)).1 t 0 (Int.le_refl 0)
    rw [shS_zero] at h2
    rw [shS_zero, shS_zero] at h3
    rw [h2]
    cases hf : fndS z.toNat p 0 t with
    | none => rw [h3, hf] at h; cases h
    | some r =>
      obtain ⟨x, e, L⟩ := r
      obtain ⟨u, hat, he, hL⟩ := fnd_at.1 t 0 x e L hf
      have hlen := at_len x 18 t u (hg ht) hat
      have hu := undT_le x t
      have he' : e = ((undT t x : Nat) : Int) := by omega
      have hev := shS_valid (j := e) (c := z.toNat) (by omega) hp ((hiN_up (by omega)).1 p (hp3 hp))
      have huv := atT_valid hat ht
      have hmf : matchTS (shS e z.toNat p) z u = some L := by
        unfold matchTS
        rw [if_pos ⟨hev, huv, h0, h6⟩]; exact hL
      have hfl := (match_fill hmf).1
      unfold fillTS at hfl
      split at hfl
      · injection hfl with hfl
        simp only [Option.map_some, Option.bind_some]
        rw [hfl, put_at x t u hat, vO, if_pos ht]
      · cases hfl
  · cases h
open Go.RowKit
/-- all numbers are at most 3, and the term is no higher than d -/
def hid : Nat → Tm → Bool
  | 0, _ => false
  | d + 1, .mk _ n ks => decide (n ≤ 3) && ks.all (hid d)
theorem hid_up : ∀ {a b : Nat} {t : Tm}, a ≤ b → hid a t = true → hid b t = true
  | 0, b, t, _, h => by rw [hid] at h; cases h
  | a + 1, 0, t, hab, h => by omega
  | a + 1, b + 1, .mk k n ks, hab, h => by
    rw [hid, Bool.and_eq_true] at h ⊢
    exact ⟨h.1, List.all_eq_true.2 fun t ht => hid_up (by omega) (List.all_eq_true.1 h.2 t ht)⟩
theorem hid_hgB : ∀ {d : Nat} {t : Tm}, hid d t = true → hgB d t = true
  | 0, t, h => by rw [hid] at h; cases h
  | d + 1, .mk k n ks, h => by
    rw [hid, Bool.and_eq_true] at h
    rw [hgB]
    exact List.all_eq_true.2 fun t ht => hid_hgB (List.all_eq_true.1 h.2 t ht)
theorem hiNL_of {b : Int} : ∀ {ts : List Tm}, (∀ t, t ∈ ts → hiN b t = true) → hiNL b ts = true
  | [], _ => rfl
  | t :: ts, h => by rw [hiNL, h t List.mem_cons_self, hiNL_of fun u hu => h u (List.mem_cons_of_mem _ hu)]; rfl
theorem hid_hiN : ∀ {d : Nat} {t : Tm}, hid d t = true → hiN 3 t = true
  | 0, t, h => by rw [hid] at h; cases h
  | d + 1, .mk k n ks, h => by
    rw [hid, Bool.and_eq_true] at h
    rw [hiN, Bool.and_eq_true]
    exact ⟨h.1, hiNL_of fun t ht => hid_hiN (List.all_eq_true.1 h.2 t ht)⟩
theorem hgB_up : ∀ {a b : Nat} {t : Tm}, a ≤ b → hgB a t = true → hgB b t = true
  | 0, b, t, _, h => by rw [hgB] at h; cases h
  | a + 1, 0, t, hab, h => by omega
  | a + 1, b + 1, .mk k n ks, hab, h => by
    rw [hgB] at h ⊢
    exact List.all_eq_true.2 fun t ht => hgB_up (by omega) (List.all_eq_true.1 h t ht)
theorem valid_n20 {k n : Int} {ks : List Tm} (h : validT (.mk k n ks) = true) : n ≤ 20 := by
  simp only [validT, Bool.and_eq_true] at h
  obtain ⟨q, _, _, _, hm, _⟩ := shape_pos h.1
  have : mostN k ≤ 20 := by unfold mostN; repeat' split <;> omega
  omega
end Go.Proofs.Ytodkenpmhhbppaa
