/-
  Contracts of the functions that the law reaches, and plain lemmas. No condition.
-/
import Derived.Test.YthgmofdfecioaaaGreatDoorK4
import Derived.Test.YthgmofdfecioaaaGreatDoorK9
import Derived.Test.YthgmofdfecioaaaGreatDoorK11
namespace Go.Proofs.YthgmofdfecioaaaGreatDoor
set_option linter.unusedSimpArgs false
set_option linter.unusedVariables false
open Go.RowKit
/-- a term that has been read, and the text behind it -/
def ReadT (w : World) (k n : Int) (ks : List Tm) (rest : List UInt8) (e : Ending) (w' : World) : Prop :=
  ∃ (A : Option Addr) (c : Nat), e = .returned (.tuple #[.agg #[.int .i64 k, .int .i64 n, .slice A ks.length c], .string (byt rest), .bool true]) ∧ ks.length ≤ 9223372036854775807 ∧ Fresh w.heap.size w' A ks ∧ Below w.heap.size w w'
def ReadOk (d : Nat) (t : Tm) (b : List UInt8) : Prop := ∀ (k n : Int) (ks : List Tm), t = .mk k n ks → ∀ (rest : List UInt8) (D : Int) (w : World), b.length + rest.length ≤ 5000 → NdL rest → 1 ≤ D → D + d ≤ 31 → GM w →
  Calls Tryz.prog 86 #[.string (byt (b ++ rest)), .int .i64 D] w (ReadT w k n ks rest)
set_option maxHeartbeats 4000000 in
set_option maxRecDepth 100000 in
theorem read_num (d k : Nat) (n : Int) (c : UInt8) (h : (k = 1 ∧ n ≤ 9 ∨ k = 2 ∧ n ≤ 3) ∧ 0 ≤ n ∧ (c.toNat : Int) = 48 + n) : ReadOk (d + 1) (.mk k n []) ((shpX[k - 1]?).getD [] ++ [c]) := by
  intro k' n' ks' ht rest D w hl hr hD hD2 hm
  injection ht with h1 h2 h3
  subst h1 h2 h3
  obtain ⟨a, ha, ha2⟩ : ∃ a, shp k = [a] ∧ (shpX[k - 1]?).getD [] = [a] := by rcases h.1 with ⟨rfl, _⟩ | ⟨rfl, _⟩ <;> exact ⟨_, rfl, rfl⟩
  rw [ha2, show ([a] ++ [c] ++ rest) = a :: c :: rest from rfl]
  have hl2 : rest.length ≤ 5000 := by omega
  have hkind := hide (fun w => kindAt_of (k := k) (by rcases h.1 with ⟨rfl, _⟩ | ⟨rfl, _⟩ <;> decide) (c := a) (x := []) (l := c :: rest) ha (by simp; omega) w)
  have hk0 : ((kind0 k : Nat) : Int) = k := by rcases h.1 with ⟨rfl, _⟩ | ⟨rfl, _⟩ <;> rfl
  have hnum := hide (fun w => readNumber_any n c ⟨h.2.1, by omega, h.2.2⟩ rest hr (by omega) w)
  have hn0 := h.2.1
  obtain ⟨s, hs⟩ : ∃ s, byt (a :: c :: rest) = s := ⟨_, rfl⟩
  have hsz : s.size = rest.length + 1 + 1 := by subst hs; simp [byt, ByteArray.size]
  have hx : s.extract 1 (rest.length + 1 + 1) = byt (c :: rest) := by rw [← hsz]; subst hs; exact byt_drop1 a (c :: rest)
  have hkind' : Hid (∀ w, Calls Tryz.prog 112 #[.string s] w fun e w' => e = .returned (.int .i64 (k : Nat)) ∧ Below w.heap.size w w') := by
    refine hide fun w => ?_
    have := hkind.out w
    rw [hs, hk0] at this
    exact this
  have hsg : (1 : Int) ≤ (rest.length : Int) + 1 + 1 := by omega
  have hsl : s.size ≤ 100000 := by omega
  rw [hs]
  have hh := hide h.1
  clear hs hkind ha ha2 hr
  have d0 : decide (30 < D) = false := decide_eq_false (by omega)
  have dn : decide (0 ≤ n) = true := decide_eq_true hn0
  rcases hh.out with ⟨rfl, _⟩ | ⟨rfl, _⟩
  · clear h
    go_enter Tryz.func86, Tryz.ntmps86
    go_wp2_with (first
      | (go_at_call 113; refine (hnum.out _).mono ?_; rintro e w2 ⟨rfl, hb2⟩; have hX := (Blk.new_ w1 27 #[.int .i64 1, .int .i64 0, .slice none 0 0] rfl).keep hb2; replace hZ := (hZ.alloc (.cells #[.int .i64 1, .int .i64 0, .slice none 0 0] 27)).keep hb2; have x0 := hX.at_ (i := 0) rfl; have x1 := hX.at_ (i := 1) rfl; have x2 := hX.at_ (i := 2) rfl; have f0 := hX.frozen 1; have d0 := hZ.at_ (i := 0) rfl; have d1 := hZ.at_ (i := 1) rfl; have d2 := hZ.at_ (i := 2) rfl; have e0 := hZ.frozen 0; have e1 := hZ.frozen 1; have e2 := hZ.frozen 2; have lx := hX.lt; have lz := hZ.lt; have g2 : Below w.heap.size w w2 := (g1.alloc (by omega) _).trans (hb2.mono (by simp; omega)))
      | (go_at_call 112; refine (hkind'.out _).mono ?_; rintro e w1 ⟨rfl, hb1⟩; have hZ := (Blk.new_ w 27 #[.int .i64 0, .int .i64 0, .slice none 0 0] rfl).keep hb1; have g1 : Below w.heap.size w w1 := ((Below.refl _ _).alloc (Nat.le_refl _) _).trans (hb1.mono (by simp)); have s1 := hZ.lt))
    refine bodyPost_ret (v := .tuple #[.agg #[.int .i64 1, .int .i64 n, .slice none 0 0], .string (byt rest), .bool true]) (by simp [results, Tryz.results86, go_sem, d0, d1, d2]) rfl ⟨none, 0, rfl, by simp, Fresh.nil, ?_⟩
    exact (((g2.setCell (by simp; omega) _).setCell (by simp) _).setCell (by simp) _).setCell (by simp) _
  · clear h
    go_enter Tryz.func86, Tryz.ntmps86
    go_wp2_with (first
      | (go_at_call 113; refine (hnum.out _).mono ?_; rintro e w2 ⟨rfl, hb2⟩; have hX := (Blk.new_ w1 27 #[.int .i64 2, .int .i64 0, .slice none 0 0] rfl).keep hb2; replace hZ := (hZ.alloc (.cells #[.int .i64 2, .int .i64 0, .slice none 0 0] 27)).keep hb2; have x0 := hX.at_ (i := 0) rfl; have x1 := hX.at_ (i := 1) rfl; have x2 := hX.at_ (i := 2) rfl; have f0 := hX.frozen 1; have d0 := hZ.at_ (i := 0) rfl; have d1 := hZ.at_ (i := 1) rfl; have d2 := hZ.at_ (i := 2) rfl; have e0 := hZ.frozen 0; have e1 := hZ.frozen 1; have e2 := hZ.frozen 2; have lx := hX.lt; have lz := hZ.lt; have g2 : Below w.heap.size w w2 := (g1.alloc (by omega) _).trans (hb2.mono (by simp; omega)))
      | (go_at_call 112; refine (hkind'.out _).mono ?_; rintro e w1 ⟨rfl, hb1⟩; have hZ := (Blk.new_ w 27 #[.int .i64 0, .int .i64 0, .slice none 0 0] rfl).keep hb1; have g1 : Below w.heap.size w w1 := ((Below.refl _ _).alloc (Nat.le_refl _) _).trans (hb1.mono (by simp)); have s1 := hZ.lt))
    refine bodyPost_ret (v := .tuple #[.agg #[.int .i64 2, .int .i64 n, .slice none 0 0], .string (byt rest), .bool true]) (by simp [results, Tryz.results86, go_sem, d0, d1, d2]) rfl ⟨none, 0, rfl, by simp, Fresh.nil, ?_⟩
    exact (((g2.setCell (by simp; omega) _).setCell (by simp) _).setCell (by simp) _).setCell (by simp) _
theorem node_facts {k : Nat} (hk : 3 ≤ k ∧ k ≤ 16) : ∃ (c : UInt8) (y z : List UInt8) (ps : List (List UInt8)), shp k = c :: y ∧ prt k = (c :: z) :: ps ∧ (prt (kind0 k)).head? = some (c :: z) ∧ (prt (kind0 k)).length = (prt k).length ∧ 3 ≤ kind0 k ∧ kind0 k ≤ 16 ∧ z.length ≤ 1 ∧ (c.toNat = 40 ↔ (k = 3 ∨ k = 5 ∨ k = 13)) := by
  rcases prt_kinds hk with rfl | rfl | rfl | rfl | rfl | rfl | rfl | rfl | rfl | rfl | rfl | rfl | rfl | rfl <;> exact ⟨_, _, _, _, rfl, rfl, rfl, rfl, by decide, by decide, by decide, by decide⟩
theorem kind0_or {k K : Nat} (h : kind0 k = K) : K = k ∨ ((0 : Nat) = 0 ∧ K = 3 ∧ (k = 5 ∨ k = 13)) := by
  unfold kind0 at h
  by_cases hk : k = 5 ∨ k = 13
  · rw [if_pos hk] at h; exact .inr ⟨rfl, h.symm, hk⟩
  · rw [if_neg hk] at h; exact .inl h.symm
theorem prt_len {k : Nat} (hk : 3 ≤ k ∧ k ≤ 16) : 1 ≤ (prt k).length ∧ (prt k).length ≤ 5 := by
  rcases prt_kinds hk with rfl | rfl | rfl | rfl | rfl | rfl | rfl | rfl | rfl | rfl | rfl | rfl | rfl | rfl <;> decide
theorem shapes_at {g : Nat} (w : World) (hg : g = w.heap.size) : Calls Tryz.prog 115 #[] w fun e w' => e = .returned (.slice (some ⟨g, 0, none⟩) 16 16) ∧ Blk w' g (strs shpX) ∧ Below w.heap.size w w' := by
  subst hg; exact shapes_any w
theorem split_at {k g : Nat} (hk : 3 ≤ k ∧ k ≤ 16) (w : World) (hm : GM w) (hg : g = w.heap.size) : Calls Tryz.prog 114 #[.string (byt (shp k)), .string ⟨#[46]⟩] w fun e w' =>
    e = .returned (.slice (some ⟨g, 0, none⟩) (prt k).length (prt k).length) ∧ Blk w' g (strs (prt k)) ∧ Below w.heap.size w w' := by
  subst hg; exact split_any hk w hm
theorem prt_cell {w : World} {g : Nat} {ps : List (List UInt8)} (hB : Blk w g (strs ps)) {j : Nat} {p : List UInt8} (hp : ps[j]? = some p) : w.cell? ⟨g, j, none⟩ = some (.string (byt p)) := by
  obtain ⟨hj, rfl⟩ := List.getElem?_eq_some_iff.1 hp
  exact hB.at_ (strs_get hj)
theorem strs_kind {w : World} {g : Nat} {ps : List (List UInt8)} (hB : Blk w g (strs ps)) {o : Nat} {k : Int} (h : w.cell? ⟨g, o, none⟩ = some (.int .i64 k)) : False := by
  rw [hB.cell] at h
  simp only [strs, List.getElem?_toArray, List.getElem?_map] at h
  cases hx : ps[o]? with
  | none => rw [hx] at h; cases h
  | some x => rw [hx] at h; cases h
theorem part_ne {B : Nat} {w : World} {Av : Option Addr} {j cv gp : Nat} {us : List Tm} {ps : List (List UInt8)} (hp : Part B w (.slice Av j cv) us) (hl : us.length = j) (h0 : j = 0 → Av = none) (hP : Blk w gp (strs ps)) : some gp ≠ (Value.slice Av j cv).ownBlock := by
  intro e
  cases j with
  | zero => rw [h0 rfl] at e; cases e
  | succ j =>
    obtain ⟨A', c', e', hf⟩ := hp.fresh
    injection e' with e1 e2 e3
    subst e1
    obtain ⟨b, off, k, n, ks, A2, c2, rfl, _, hc, _⟩ := hf.rd.at_ (j := 0) (by omega)
    simp only [Value.ownBlock] at e
    first
      | (injection e with e; subst e; exact strs_kind hP hc)
      | (split at e <;> first | cases e | (injection e with e; subst e; exact strs_kind hP hc))
/-- the shape of a kind, where it lies -/
theorem shp_cell {w : World} {g : Nat} (hB : Blk w g (strs shpX)) {K : Nat} (hK : 3 ≤ K ∧ K ≤ 16) : w.cell? ⟨g, K - 1, none⟩ = some (.string (byt (shp K))) := by
  have hj : K - 1 < shpX.length := by show K - 1 < 16; omega
  have := hB.at_ (strs_get hj)
  rw [this]
  simp [shp, List.getElem?_eq_getElem hj]
set_option maxHeartbeats 8000000 in
set_option maxRecDepth 100000 in
theorem read_node (d k : Nat) (ts : List Tm) (xs : List (List UInt8)) (hk : 3 ≤ k ∧ k ≤ 16) (hl : (prt k).length = ts.length + 1) (hx : xs.length = ts.length)
    (ih : ∀ (j : Nat) (t : Tm) (x : List UInt8), ts[j]? = some t → xs[j]? = some x → ReadOk d t x) : ReadOk (d + 1) (.mk k 0 ts) (inter (prt k) xs) := by
  intro k' n' ks' ht rest D w hlen hr hD hD2 hm
  injection ht with h1 h2 h3
  subst h1 h2 h3
  obtain ⟨c, y, z, ps, e1, e2, e3, e4, e5, e6, e7, e8⟩ := node_facts hk
  obtain ⟨K, hK⟩ : ∃ K, kind0 k = K := ⟨_, rfl⟩
  rw [hK] at e3 e4 e5 e6
  have hpl := prt_len hk
  rw [e2, inter] at hlen ⊢
  have hkind := hide (fun w => kindAt_of (k := k) ⟨by omega, hk.2⟩ (c := c) (x := y) (l := z ++ rem xs ps ++ rest) e1 (by simp at hlen ⊢; omega) w)
  rw [hK] at hkind
  have hS : c :: z ++ rem xs ps ++ rest = c :: (z ++ rem xs ps ++ rest) := by simp
  rw [hS]
  obtain ⟨hi, hc⟩ := byt_head (c := c) (l := z ++ rem xs ps ++ rest) rfl
  have hcut := hide (fun w => cut_any (c :: z) (rem xs ps ++ rest) w)
  rw [show c :: z ++ (rem xs ps ++ rest) = c :: (z ++ rem xs ps ++ rest) by simp] at hcut
  obtain ⟨s, hs⟩ : ∃ s, byt (c :: (z ++ rem xs ps ++ rest)) = s := ⟨_, rfl⟩
  have hsl : s.size ≤ 100000 := by subst hs; simp [byt, ByteArray.size] at hlen ⊢; omega
  have hzc : ∃ hi : 0 < s.size, (s[0]'hi).toNat = c.toNat := by subst hs; exact ⟨hi, hc⟩
  rw [hs] at hkind hcut ⊢
  clear hi hc hS hs
  obtain ⟨hi, hc⟩ := hzc
  obtain ⟨p0, hp0⟩ : ∃ p0, c :: z = p0 := ⟨_, rfl⟩
  rw [hp0] at e3 hcut
  have d0 : decide (30 < D) = false := decide_eq_false (by omega)
  have dk : decide ((K : Int) < 0) = false := decide_eq_false (by omega)
  have q1 : ((K : Int) == 1) = false := beq_eq_false_iff_ne.2 (by omega)
  have q2 : ((K : Int) == 2) = false := beq_eq_false_iff_ne.2 (by omega)
  have hK1 : (1 : Int) ≤ K := by omega
  have hK2 : (K : Int) ≤ 16 := by omega
  have hm' := hide hm
  have hcell := hide (fun (w : World) (g : Nat) (hB : Blk w g (strs shpX)) => shp_cell hB (K := K) ⟨e5, e6⟩)
  have e3' : (prt K)[0]? = some p0 := by rw [← List.head?_eq_getElem?]; exact e3
  have hsplit := hide (fun (w : World) (g : Nat) (h : GM w) (hg : g = w.heap.size) => split_at (k := K) (g := g) ⟨e5, e6⟩ w h hg)
  have hl3 : (0 : Int) < (ts.length : Int) + 1 := by omega
  have hl4 := hide (And.intro e3' e4)
  have hlr : (rem xs ps ++ rest).length ≤ 5000 := by simp at hlen ⊢; omega
  have hh := hide (And.intro hk (And.intro hK (And.intro e8 e2)))
  rw [hl] at e4 hpl
  have hps : ps.length = ts.length := by rw [e2] at hl; simpa using hl
  have hX := hide (And.intro hps (And.intro hx (And.intro hr ih)))
  clear hk hK e8 e2 hm e1 hlen hl hps hx hr ih
  go_enter Tryz.func86, Tryz.ntmps86
  go_wp2_with (first
    | (go_at_call 116; refine (hcut.out _).mono ?_; rintro e w4 ⟨rfl, rfl⟩)
    | (go_at_call 114; refine (hsplit.out _ w2.heap.size gm2 rfl).mono ?_; rintro e w3 ⟨rfl, hP, hb3⟩; have hpc := prt_cell hP hl4.out.1; have gm3 := gm2.keep hb3; replace hT := hT.keep hb3; replace hZ := hZ.keep hb3; have g3 : Below w.heap.size w w3 := g2.trans (hb3.mono (by omega)))
    | (go_at_call 115; refine (shapes_at (g := w1.heap.size + 1) _ (by simp)).mono ?_; rintro e w2 ⟨rfl, hH, hb2⟩; have gm2 : GM w2 := ((hm'.out.keep g1).alloc _).keep hb2; have hcl := hcell.out _ _ hH; have hT := (Blk.new_ w1 27 #[.int .i64 K, .int .i64 0, .slice none 0 0] rfl).keep hb2; replace hZ := (hZ.alloc (.cells #[.int .i64 K, .int .i64 0, .slice none 0 0] 27)).keep hb2; have s2 : w1.heap.size + 1 ≤ w2.heap.size := (by have := hb2.size; simpa using this); have g2 : Below w.heap.size w w2 := (g1.alloc (by omega) _).trans (hb2.mono (by simp; omega)))
    | (go_at_call 112; refine (hkind.out _).mono ?_; rintro e w1 ⟨rfl, hb1⟩; have hZ := (Blk.new_ w 27 #[.int .i64 0, .int .i64 0, .slice none 0 0] rfl).keep hb1; have g1 : Below w.heap.size w w1 := ((Below.refl _ _).alloc (Nat.le_refl _) _).trans (hb1.mono (by simp)); have s1 := hZ.lt))
  go_loopw [11, 12, 13, 14] (fun P r ok i wr => ∃ (j kj gp : Nat) (Av : Option Addr) (cv : Nat) (R : List UInt8), j ≤ ts.length ∧ Hid (R = rem (xs.drop j) (ps.drop j) ++ rest) ∧ R.length ≤ 5000 ∧ P = .slice (some ⟨gp, 0, none⟩) (ts.length + 1) (ts.length + 1) ∧ r = .string (byt R) ∧ ok = .bool true ∧ i = .int .i64 ((j : Int) + 1) ∧ Part (w1.heap.size + 1) wr (.slice Av j cv) (ts.take j) ∧ Hid (j = 0 → Av = none) ∧ w1.heap.size < gp ∧ Blk wr gp (strs (prt kj)) ∧ Blk wr w1.heap.size #[.int .i64 kj, .int .i64 0, .slice Av j cv] ∧ Blk wr w.heap.size #[.int .i64 0, .int .i64 0, .slice none 0 0] ∧ Below w.heap.size w wr ∧ Hid (kj = k ∨ (j = 0 ∧ kj = 3 ∧ (k = 5 ∨ k = 13)))) (fun _ _ _ i _ => ts.length + 2 - (intOf i).toNat)
  case atStart => exact ⟨0, K, w2.heap.size, none, 0, _, Nat.zero_le _, hide (by simp), hlr, rfl, rfl, rfl, rfl, Part.nil, hide (fun _ => rfl), by omega, hP, hT, hZ, g3, hide (kind0_or hh.out.2.1)⟩
  case round =>
    obtain ⟨j, kj, gp, Av, cv, R, hj, hR, hRl, rfl, rfl, rfl, rfl, hp, hgp, hgl, hPr, hTr, hZr, hb, hkj⟩ := hrel
    by_cases hlt : j < ts.length
    · obtain ⟨k1, n1, ks1, hk1⟩ : ∃ k n ks, ts[j] = .mk k n ks := by cases h : ts[j]; exact ⟨_, _, _, rfl⟩
      have hlx : j < xs.length := by have := hX.out.2.1; omega
      have hlp : j < ps.length := by have := hX.out.1; omega
      obtain ⟨x, hxj⟩ : ∃ x, xs[j]? = some x := ⟨_, List.getElem?_eq_getElem hlx⟩
      obtain ⟨p, hpj⟩ : ∃ p, ps[j]? = some p := ⟨_, List.getElem?_eq_getElem hlp⟩
      obtain ⟨R2, hR2⟩ : ∃ R2, rem (xs.drop (j + 1)) (ps.drop (j + 1)) ++ rest = R2 := ⟨_, rfl⟩
      have hRe : R = x ++ (p ++ R2) := by rw [hR.out, rem_drop hxj hpj, ← hR2]; simp
      have hprt : (prt k)[j + 1]? = some p := by rw [hh.out.2.2.2]; simpa using hpj
      have hnd : NdL (p ++ R2) := by
        rcases prt_sign hh.out.1 hprt with ⟨rfl, h⟩ | ⟨c', q, rfl, h⟩
        · have h4 := congrArg List.length hh.out.2.2.2
          simp only [List.length_cons] at h4
          have h5 := hX.out.1
          have h6 := hX.out.2.1
          rw [← hR2, show xs.drop (j + 1) = [] from List.drop_eq_nil_of_le (by omega), rem_nil]
          exact hX.out.2.2.1
        · exact h
      have hkid := hide (fun w' (hg : GM w') => hX.out.2.2.2 j (.mk k1 n1 ks1) x (by rw [List.getElem?_eq_getElem hlt, hk1]) hxj k1 n1 ks1 rfl (p ++ R2) (D + 1) w' (by rw [hRe] at hRl; simpa using hRl) hnd (by omega) (by omega) hg)
      have hk1' := hide hk1
      have hcut2 := hide (fun w' => cut_any p R2 w')
      have hR2' := hide hR2
      have hR2l : R2.length ≤ 5000 := by rw [hRe] at hRl; simp at hRl; omega
      have hprt' := hide hprt
      have gmr : GM wr := hm'.out.keep hb
      have hne1 : gp ≠ w1.heap.size := by omega
      have hne2 : w1.heap.size ≠ gp := by omega
      have hne3 : gp ≠ w.heap.size := by omega
      have lr := hb.size
      have lt1 := hTr.lt
      have lp1 := hPr.lt
      have lz1 := hZr.lt
      subst hRe
      clear hxj hpj hR2 hprt hk1 hnd hR hlx hlp hRl
      obtain ⟨z0, hz0⟩ : ∃ z0, c.toNat = z0 := ⟨_, rfl⟩
      rw [hz0] at hc
      have hz0' := hide hz0
      clear hz0
      by_cases h40 : z0 = 40
      · have q40 : ((z0 : Int) == 40) = true := by rw [h40]; rfl
        by_cases hj0 : j = 0
        · subst hj0
          have hz1 := hide (hz0'.out.trans h40)
          have hav : Av = none := hgp.out rfl
          subst hav
          clear hz0' hgp
          subst h40
          have hk3 := hh.out.2.2.1
          have hkk : k = 3 ∨ k = 5 ∨ k = 13 := by
            rcases hk3.1 hz1.out with h | h | h <;> simp [h]
          clear hk3
          rcases hkk with rfl | rfl | rfl
          · have hpe : p = [62] := by have := hprt'.out; simpa [prt] using this.symm
            have hts : Hid (ts.length = 2) := hide (by have := hX.out.1; have h2 := hh.out.2.2.2; simp [prt] at h2; rw [← h2.2] at this; simpa using this.symm)
            subst hpe
            simp only [List.cons_append, List.nil_append] at hkid hcut2
            obtain ⟨qb1, qb2⟩ := byt_ne (c := 62) (l := R2)
            obtain ⟨hb0, hbz⟩ : ∃ h : 0 < (byt (62 :: R2)).size, ((byt (62 :: R2))[0]'h).toNat = 62 := byt_head rfl
            have hbs : (byt (62 :: R2)).size ≤ 100000 := by simp [byt, ByteArray.size]; omega
            have hsplit2 : Hid (∀ (w : World) (g : Nat), GM w → g = w.heap.size → Calls Tryz.prog 114 #[.string (byt (shp 3)), .string ⟨#[46]⟩] w fun e w' => e = .returned (.slice (some ⟨g, 0, none⟩) 3 3) ∧ Blk w' g (strs (prt 3)) ∧ Below w.heap.size w w') := hide (fun w g h hg => split_at (k := 3) (g := g) ⟨by decide, by decide⟩ w h hg)
            go_wp2_with (first
              | (at_builtin; refine wpList_append_built (B := w1.heap.size + 1) (m := 0) (k := k1) (n := n1) (c := c5) hp (hb5.alloc hb5.size _) (by omega) (hf5.alloc _) hl5 (by rw [List.length_take]; omega) (by omega) rfl _ _ rfl rfl (by show Value.slice (some ⟨w5.heap.size + 1, 0, none⟩) 1 1 = _; simp) ?_; intro A6 c6 w6 hp6 hb6 hg6; clear x2 f2; have hT6 := (hT5.alloc (.cells #[.int .i64 k1, .int .i64 n1, .slice A5 ks1.length c5] 27)).below hb6 (by omega); have x0 := hT6.at_ (i := 0) rfl; have x2 := hT6.at_ (i := 2) rfl; have f2 := hT6.frozen 2; have f0 := hT6.frozen 0; have lt6 := hT6.lt; have hP6 := ((hPr.keep hb5).alloc (.cells #[.int .i64 k1, .int .i64 n1, .slice A5 ks1.length c5] 27)).grown hg6 (by simp [Value.ownBlock]); have hZ6 := ((hZr.keep hb5).alloc (.cells #[.int .i64 k1, .int .i64 n1, .slice A5 ks1.length c5] 27)).below hb6 (by omega); have g6 : Below w.heap.size w w6 := ((hb.trans (hb5.mono (by omega))).alloc (by have := hb5.size; omega) _).trans (hb6.mono (by omega)); have l6 := hP6.lt)
              | (go_at_call 86; refine (hkid.out _ gmr).mono ?_; rintro e w5 ⟨A5, c5, rfl, hl5, hf5, hb5⟩; have hT5 := hTr.keep hb5; have x2 := hT5.at_ (i := 2) rfl; have f2 := hT5.frozen 2; have lt5 := hT5.lt; have s5 := hb5.size))
            refine name_world ?_
            intro wx hwx
            have hTx : Blk wx w1.heap.size #[.int .i64 3, .int .i64 0, .slice A6 1 c6] := by rw [hwx]; exact (hT6.set_ 2 _).set_ 0 _
            have hpx : Part (w1.heap.size + 1) wx (.slice A6 1 c6) [.mk k1 n1 ks1] := by rw [hwx]; have := (hp6.setCell (a := ⟨w1.heap.size, 2, none⟩) (by simp) (.slice A6 1 c6)).setCell (a := ⟨w1.heap.size, 0, none⟩) (by simp) (.int .i64 3); simpa using this
            have hZx : Blk wx w.heap.size #[.int .i64 0, .int .i64 0, .slice none 0 0] := by rw [hwx]; exact (hZ6.far (by simp; omega) _).far (by simp; omega) _
            have gx : Below w.heap.size w wx := by rw [hwx]; exact (g6.setCell (by simp; omega) _).setCell (by simp; omega) _
            have lx : w1.heap.size < wx.heap.size := hTx.lt
            have r0 := hTx.rule (i := 0) rfl
            clear hwx x0 x2 f2 f0
            refine wp_region_firstY (fun w' => Below wx.heap.size wx w') [1, 2, 3] [0] [4, 5, 6, 7] [_, _, _] [_] [_, _, _, _] (by kernel_rfl) (by kernel_rfl) rfl rfl rfl (fun _ _ d _ _ h => by cases d <;> exact h) (Below.refl _ _).drew ?_
            repeat (first | ((refine takeY_skip (a' := ?_) ?_ ?_ ?_); (rotate_left); (· (simp [Region.wanted, yielded, Go.undef]; done)); (· (simp only [List.getElem_toArray, List.getElem_cons_zero, List.getElem_cons_succ, Act.put, List.setIfInBounds_toArray, List.set_cons_zero, List.set_cons_succ]; exact rfl))) | ((refine takeY_step (v := ?_) (a' := ?_) ?_ ?_ ?_ ?_); (rotate_left 2); (· (simp [Region.wanted, yielded, Go.undef]; done)); (· (intro w' hS'; go_simp; try (with_reducible rfl))); (· (simp only [List.getElem_toArray, List.getElem_cons_zero, List.getElem_cons_succ, Act.put, List.setIfInBounds_toArray, List.set_cons_zero, List.set_cons_succ]; exact rfl))))
            refine takeY_nil (then_cons ?_)
            go_wp2_with (go_at_call 115; refine (shapes_at (g := wx.heap.size) _ (by simp)).mono ?_; rintro e w7 ⟨rfl, hH7, hb7⟩)
            have hx1 : Below wx.heap.size wx w7 := (Below.refl _ _).drew.trans hb7
            have s7 := hx1.size
            have hcl7 : w7.cell? ⟨wx.heap.size, 2, none⟩ = some (.string (byt (shp 3))) := shp_cell hH7 (K := 3) ⟨by decide, by decide⟩
            have gm7 : GM w7 := (hm'.out.keep gx).keep hx1
            refine mid_intro hx1 (then_nil ?_)
            clear r0
            go_wp2_with (first
              | (go_at_call 116; refine (hcut2.out _).mono ?_; rintro e w9 ⟨rfl, rfl⟩)
              | (go_at_call 114; refine (hsplit2.out _ w7.heap.size gm7 rfl).mono ?_; rintro e w8 ⟨rfl, hP8, hb8⟩; have hpc8 := prt_cell hP8 (j := 1) (p := [62]) rfl))
            have hx2 : Below wx.heap.size wx w8 := hx1.trans (hb8.mono s7)
            go_roundw
            case rel => exact ⟨1, 3, w7.heap.size, A6, c6, R2, by omega, hide hR2'.out.symm, hR2l, by rw [hts.out], rfl, rfl, by go_num, by rw [List.take_succ_eq_append_getElem hlt, hk1'.out]; simpa using hpx.below hx2, hide (fun h => absurd h (by omega)), by omega, hP8, hTx.keep hx2, hZx.keep hx2, gx.trans (hx2.mono gx.size), hide (.inl rfl)⟩
            case measure => simp [intOf]
          · have hpe : p = [32] := by have := hprt'.out; simpa [prt] using this.symm
            have hts : Hid (ts.length = 2) := hide (by have := hX.out.1; have h2 := hh.out.2.2.2; simp [prt] at h2; rw [← h2.2] at this; simpa using this.symm)
            subst hpe
            simp only [List.cons_append, List.nil_append] at hkid hcut2
            obtain ⟨qb1, qb2⟩ := byt_ne (c := 32) (l := R2)
            obtain ⟨hb0, hbz⟩ : ∃ h : 0 < (byt (32 :: R2)).size, ((byt (32 :: R2))[0]'h).toNat = 32 := byt_head rfl
            have hbs : (byt (32 :: R2)).size ≤ 100000 := by simp [byt, ByteArray.size]; omega
            have hsplit2 : Hid (∀ (w : World) (g : Nat), GM w → g = w.heap.size → Calls Tryz.prog 114 #[.string (byt (shp 5)), .string ⟨#[46]⟩] w fun e w' => e = .returned (.slice (some ⟨g, 0, none⟩) 3 3) ∧ Blk w' g (strs (prt 5)) ∧ Below w.heap.size w w') := hide (fun w g h hg => split_at (k := 5) (g := g) ⟨by decide, by decide⟩ w h hg)
            go_wp2_with (first
              | (at_builtin; refine wpList_append_built (B := w1.heap.size + 1) (m := 0) (k := k1) (n := n1) (c := c5) hp (hb5.alloc hb5.size _) (by omega) (hf5.alloc _) hl5 (by rw [List.length_take]; omega) (by omega) rfl _ _ rfl rfl (by show Value.slice (some ⟨w5.heap.size + 1, 0, none⟩) 1 1 = _; simp) ?_; intro A6 c6 w6 hp6 hb6 hg6; clear x2 f2; have hT6 := (hT5.alloc (.cells #[.int .i64 k1, .int .i64 n1, .slice A5 ks1.length c5] 27)).below hb6 (by omega); have x0 := hT6.at_ (i := 0) rfl; have x2 := hT6.at_ (i := 2) rfl; have f2 := hT6.frozen 2; have f0 := hT6.frozen 0; have lt6 := hT6.lt; have hP6 := ((hPr.keep hb5).alloc (.cells #[.int .i64 k1, .int .i64 n1, .slice A5 ks1.length c5] 27)).grown hg6 (by simp [Value.ownBlock]); have hZ6 := ((hZr.keep hb5).alloc (.cells #[.int .i64 k1, .int .i64 n1, .slice A5 ks1.length c5] 27)).below hb6 (by omega); have g6 : Below w.heap.size w w6 := ((hb.trans (hb5.mono (by omega))).alloc (by have := hb5.size; omega) _).trans (hb6.mono (by omega)); have l6 := hP6.lt)
              | (go_at_call 86; refine (hkid.out _ gmr).mono ?_; rintro e w5 ⟨A5, c5, rfl, hl5, hf5, hb5⟩; have hT5 := hTr.keep hb5; have x2 := hT5.at_ (i := 2) rfl; have f2 := hT5.frozen 2; have lt5 := hT5.lt; have s5 := hb5.size))
            refine name_world ?_
            intro wx hwx
            have hTx : Blk wx w1.heap.size #[.int .i64 5, .int .i64 0, .slice A6 1 c6] := by rw [hwx]; exact (hT6.set_ 2 _).set_ 0 _
            have hpx : Part (w1.heap.size + 1) wx (.slice A6 1 c6) [.mk k1 n1 ks1] := by rw [hwx]; have := (hp6.setCell (a := ⟨w1.heap.size, 2, none⟩) (by simp) (.slice A6 1 c6)).setCell (a := ⟨w1.heap.size, 0, none⟩) (by simp) (.int .i64 5); simpa using this
            have hZx : Blk wx w.heap.size #[.int .i64 0, .int .i64 0, .slice none 0 0] := by rw [hwx]; exact (hZ6.far (by simp; omega) _).far (by simp; omega) _
            have gx : Below w.heap.size w wx := by rw [hwx]; exact (g6.setCell (by simp; omega) _).setCell (by simp; omega) _
            have lx : w1.heap.size < wx.heap.size := hTx.lt
            have r0 := hTx.rule (i := 0) rfl
            clear hwx x0 x2 f2 f0
            refine wp_region_firstY (fun w' => Below wx.heap.size wx w') [1, 2, 3] [0] [4, 5, 6, 7] [_, _, _] [_] [_, _, _, _] (by kernel_rfl) (by kernel_rfl) rfl rfl rfl (fun _ _ d _ _ h => by cases d <;> exact h) (Below.refl _ _).drew ?_
            repeat (first | ((refine takeY_skip (a' := ?_) ?_ ?_ ?_); (rotate_left); (· (simp [Region.wanted, yielded, Go.undef]; done)); (· (simp only [List.getElem_toArray, List.getElem_cons_zero, List.getElem_cons_succ, Act.put, List.setIfInBounds_toArray, List.set_cons_zero, List.set_cons_succ]; exact rfl))) | ((refine takeY_step (v := ?_) (a' := ?_) ?_ ?_ ?_ ?_); (rotate_left 2); (· (simp [Region.wanted, yielded, Go.undef]; done)); (· (intro w' hS'; go_simp; try (with_reducible rfl))); (· (simp only [List.getElem_toArray, List.getElem_cons_zero, List.getElem_cons_succ, Act.put, List.setIfInBounds_toArray, List.set_cons_zero, List.set_cons_succ]; exact rfl))))
            refine takeY_nil (then_cons ?_)
            go_wp2_with (go_at_call 115; refine (shapes_at (g := wx.heap.size) _ (by simp)).mono ?_; rintro e w7 ⟨rfl, hH7, hb7⟩)
            have hx1 : Below wx.heap.size wx w7 := (Below.refl _ _).drew.trans hb7
            have s7 := hx1.size
            have hcl7 : w7.cell? ⟨wx.heap.size, 4, none⟩ = some (.string (byt (shp 5))) := shp_cell hH7 (K := 5) ⟨by decide, by decide⟩
            have gm7 : GM w7 := (hm'.out.keep gx).keep hx1
            refine mid_intro hx1 (then_nil ?_)
            clear r0
            go_wp2_with (first
              | (go_at_call 116; refine (hcut2.out _).mono ?_; rintro e w9 ⟨rfl, rfl⟩)
              | (go_at_call 114; refine (hsplit2.out _ w7.heap.size gm7 rfl).mono ?_; rintro e w8 ⟨rfl, hP8, hb8⟩; have hpc8 := prt_cell hP8 (j := 1) (p := [32]) rfl))
            have hx2 : Below wx.heap.size wx w8 := hx1.trans (hb8.mono s7)
            go_roundw
            case rel => exact ⟨1, 5, w7.heap.size, A6, c6, R2, by omega, hide hR2'.out.symm, hR2l, by rw [hts.out], rfl, rfl, by go_num, by rw [List.take_succ_eq_append_getElem hlt, hk1'.out]; simpa using hpx.below hx2, hide (fun h => absurd h (by omega)), by omega, hP8, hTx.keep hx2, hZx.keep hx2, gx.trans (hx2.mono gx.size), hide (.inl rfl)⟩
            case measure => simp [intOf]
          · have hpe : p = [42] := by have := hprt'.out; simpa [prt] using this.symm
            have hts : Hid (ts.length = 2) := hide (by have := hX.out.1; have h2 := hh.out.2.2.2; simp [prt] at h2; rw [← h2.2] at this; simpa using this.symm)
            subst hpe
            simp only [List.cons_append, List.nil_append] at hkid hcut2
            obtain ⟨qb1, qb2⟩ := byt_ne (c := 42) (l := R2)
            obtain ⟨hb0, hbz⟩ : ∃ h : 0 < (byt (42 :: R2)).size, ((byt (42 :: R2))[0]'h).toNat = 42 := byt_head rfl
            have hbs : (byt (42 :: R2)).size ≤ 100000 := by simp [byt, ByteArray.size]; omega
            have hsplit2 : Hid (∀ (w : World) (g : Nat), GM w → g = w.heap.size → Calls Tryz.prog 114 #[.string (byt (shp 13)), .string ⟨#[46]⟩] w fun e w' => e = .returned (.slice (some ⟨g, 0, none⟩) 3 3) ∧ Blk w' g (strs (prt 13)) ∧ Below w.heap.size w w') := hide (fun w g h hg => split_at (k := 13) (g := g) ⟨by decide, by decide⟩ w h hg)
            go_wp2_with (first
              | (at_builtin; refine wpList_append_built (B := w1.heap.size + 1) (m := 0) (k := k1) (n := n1) (c := c5) hp (hb5.alloc hb5.size _) (by omega) (hf5.alloc _) hl5 (by rw [List.length_take]; omega) (by omega) rfl _ _ rfl rfl (by show Value.slice (some ⟨w5.heap.size + 1, 0, none⟩) 1 1 = _; simp) ?_; intro A6 c6 w6 hp6 hb6 hg6; clear x2 f2; have hT6 := (hT5.alloc (.cells #[.int .i64 k1, .int .i64 n1, .slice A5 ks1.length c5] 27)).below hb6 (by omega); have x0 := hT6.at_ (i := 0) rfl; have x2 := hT6.at_ (i := 2) rfl; have f2 := hT6.frozen 2; have f0 := hT6.frozen 0; have lt6 := hT6.lt; have hP6 := ((hPr.keep hb5).alloc (.cells #[.int .i64 k1, .int .i64 n1, .slice A5 ks1.length c5] 27)).grown hg6 (by simp [Value.ownBlock]); have hZ6 := ((hZr.keep hb5).alloc (.cells #[.int .i64 k1, .int .i64 n1, .slice A5 ks1.length c5] 27)).below hb6 (by omega); have g6 : Below w.heap.size w w6 := ((hb.trans (hb5.mono (by omega))).alloc (by have := hb5.size; omega) _).trans (hb6.mono (by omega)); have l6 := hP6.lt)
              | (go_at_call 86; refine (hkid.out _ gmr).mono ?_; rintro e w5 ⟨A5, c5, rfl, hl5, hf5, hb5⟩; have hT5 := hTr.keep hb5; have x2 := hT5.at_ (i := 2) rfl; have f2 := hT5.frozen 2; have lt5 := hT5.lt; have s5 := hb5.size))
            refine name_world ?_
            intro wx hwx
            have hTx : Blk wx w1.heap.size #[.int .i64 13, .int .i64 0, .slice A6 1 c6] := by rw [hwx]; exact (hT6.set_ 2 _).set_ 0 _
            have hpx : Part (w1.heap.size + 1) wx (.slice A6 1 c6) [.mk k1 n1 ks1] := by rw [hwx]; have := (hp6.setCell (a := ⟨w1.heap.size, 2, none⟩) (by simp) (.slice A6 1 c6)).setCell (a := ⟨w1.heap.size, 0, none⟩) (by simp) (.int .i64 13); simpa using this
            have hZx : Blk wx w.heap.size #[.int .i64 0, .int .i64 0, .slice none 0 0] := by rw [hwx]; exact (hZ6.far (by simp; omega) _).far (by simp; omega) _
            have gx : Below w.heap.size w wx := by rw [hwx]; exact (g6.setCell (by simp; omega) _).setCell (by simp; omega) _
            have lx : w1.heap.size < wx.heap.size := hTx.lt
            have r0 := hTx.rule (i := 0) rfl
            clear hwx x0 x2 f2 f0
            refine wp_region_firstY (fun w' => Below wx.heap.size wx w') [1, 2, 3] [0] [4, 5, 6, 7] [_, _, _] [_] [_, _, _, _] (by kernel_rfl) (by kernel_rfl) rfl rfl rfl (fun _ _ d _ _ h => by cases d <;> exact h) (Below.refl _ _).drew ?_
            repeat (first | ((refine takeY_skip (a' := ?_) ?_ ?_ ?_); (rotate_left); (· (simp [Region.wanted, yielded, Go.undef]; done)); (· (simp only [List.getElem_toArray, List.getElem_cons_zero, List.getElem_cons_succ, Act.put, List.setIfInBounds_toArray, List.set_cons_zero, List.set_cons_succ]; exact rfl))) | ((refine takeY_step (v := ?_) (a' := ?_) ?_ ?_ ?_ ?_); (rotate_left 2); (· (simp [Region.wanted, yielded, Go.undef]; done)); (· (intro w' hS'; go_simp; try (with_reducible rfl))); (· (simp only [List.getElem_toArray, List.getElem_cons_zero, List.getElem_cons_succ, Act.put, List.setIfInBounds_toArray, List.set_cons_zero, List.set_cons_succ]; exact rfl))))
            refine takeY_nil (then_cons ?_)
            go_wp2_with (go_at_call 115; refine (shapes_at (g := wx.heap.size) _ (by simp)).mono ?_; rintro e w7 ⟨rfl, hH7, hb7⟩)
            have hx1 : Below wx.heap.size wx w7 := (Below.refl _ _).drew.trans hb7
            have s7 := hx1.size
            have hcl7 : w7.cell? ⟨wx.heap.size, 12, none⟩ = some (.string (byt (shp 13))) := shp_cell hH7 (K := 13) ⟨by decide, by decide⟩
            have gm7 : GM w7 := (hm'.out.keep gx).keep hx1
            refine mid_intro hx1 (then_nil ?_)
            clear r0
            go_wp2_with (first
              | (go_at_call 116; refine (hcut2.out _).mono ?_; rintro e w9 ⟨rfl, rfl⟩)
              | (go_at_call 114; refine (hsplit2.out _ w7.heap.size gm7 rfl).mono ?_; rintro e w8 ⟨rfl, hP8, hb8⟩; have hpc8 := prt_cell hP8 (j := 1) (p := [42]) rfl))
            have hx2 : Below wx.heap.size wx w8 := hx1.trans (hb8.mono s7)
            go_roundw
            case rel => exact ⟨1, 13, w7.heap.size, A6, c6, R2, by omega, hide hR2'.out.symm, hR2l, by rw [hts.out], rfl, rfl, by go_num, by rw [List.take_succ_eq_append_getElem hlt, hk1'.out]; simpa using hpx.below hx2, hide (fun h => absurd h (by omega)), by omega, hP8, hTx.keep hx2, hZx.keep hx2, gx.trans (hx2.mono gx.size), hide (.inl rfl)⟩
            case measure => simp [intOf]
        · have qj : ((j : Int) == 0) = false := beq_eq_false_iff_ne.2 (by omega)
          have qj2 : ((j : Int) + 1 == 1) = false := beq_eq_false_iff_ne.2 (by omega)
          clear h40
          obtain rfl : kj = k := hkj.out.elim id (fun h => absurd h.1 hj0)
          go_wp2_with (first
            | (go_at_call 116; refine (hcut2.out _).mono ?_; rintro e w9 ⟨rfl, rfl⟩)
            | (at_builtin; refine wpList_append_built (B := w1.heap.size + 1) (m := j) (k := k1) (n := n1) (c := c5) hp (hb5.alloc hb5.size _) (by omega) (hf5.alloc _) hl5 (by rw [List.length_take]; omega) (by omega) rfl _ _ rfl rfl (by show Value.slice (some ⟨w5.heap.size + 1, 0, none⟩) 1 1 = _; simp) ?_; intro A6 c6 w6 hp6 hb6 hg6; clear x2 f2; have hT6 := (hT5.alloc (.cells #[.int .i64 k1, .int .i64 n1, .slice A5 ks1.length c5] 27)).below hb6 (by omega); have x0 := hT6.at_ (i := 0) rfl; have x2 := hT6.at_ (i := 2) rfl; have f2 := hT6.frozen 2; have f0 := hT6.frozen 0; have lt6 := hT6.lt; have hP6 := ((hPr.keep hb5).alloc (.cells #[.int .i64 k1, .int .i64 n1, .slice A5 ks1.length c5] 27)).grown hg6 (part_ne hp (by rw [List.length_take]; omega) hgp.out hPr); have hpc6 := prt_cell hP6 hprt'.out; have hZ6 := ((hZr.keep hb5).alloc (.cells #[.int .i64 k1, .int .i64 n1, .slice A5 ks1.length c5] 27)).below hb6 (by omega); have g6 : Below w.heap.size w w6 := ((hb.trans (hb5.mono (by omega))).alloc (by have := hb5.size; omega) _).trans (hb6.mono (by omega)); have l6 := hP6.lt)
            | (go_at_call 86; refine (hkid.out _ gmr).mono ?_; rintro e w5 ⟨A5, c5, rfl, hl5, hf5, hb5⟩; have hT5 := hTr.keep hb5; have x2 := hT5.at_ (i := 2) rfl; have f2 := hT5.frozen 2; have lt5 := hT5.lt; have s5 := hb5.size))
          go_roundw
          case rel => exact ⟨j + 1, kj, gp, A6, c6, R2, by omega, hide hR2'.out.symm, hR2l, rfl, rfl, rfl, by go_num, by rw [List.take_succ_eq_append_getElem hlt, hk1'.out]; exact hp6.setCell (by simp) _, hide (fun h => absurd h (by omega)), hgl, hP6.far (by simp; omega) _, hT6.set_ 2 _, hZ6.far (by simp; omega) _, g6.setCell (by simp; omega) _, hide (.inl rfl)⟩
          case measure => simp [intOf]; omega
      · have q40 : ((z0 : Int) == 40) = false := beq_eq_false_iff_ne.2 (by omega)
        obtain rfl : kj = k := by
          rcases hkj.out with h | ⟨_, _, h⟩
          · exact h
          · exact absurd (hh.out.2.2.1.2 (h.elim (fun e => .inr (.inl e)) (fun e => .inr (.inr e)))) (by rw [hz0'.out]; exact h40)
        clear h40
        go_wp2_with (first
          | (go_at_call 116; refine (hcut2.out _).mono ?_; rintro e w9 ⟨rfl, rfl⟩)
          | (at_builtin; refine wpList_append_built (B := w1.heap.size + 1) (m := j) (k := k1) (n := n1) (c := c5) hp (hb5.alloc hb5.size _) (by omega) (hf5.alloc _) hl5 (by rw [List.length_take]; omega) (by omega) rfl _ _ rfl rfl (by show Value.slice (some ⟨w5.heap.size + 1, 0, none⟩) 1 1 = _; simp) ?_; intro A6 c6 w6 hp6 hb6 hg6; clear x2 f2; have hT6 := (hT5.alloc (.cells #[.int .i64 k1, .int .i64 n1, .slice A5 ks1.length c5] 27)).below hb6 (by omega); have x0 := hT6.at_ (i := 0) rfl; have x2 := hT6.at_ (i := 2) rfl; have f2 := hT6.frozen 2; have f0 := hT6.frozen 0; have lt6 := hT6.lt; have hP6 := ((hPr.keep hb5).alloc (.cells #[.int .i64 k1, .int .i64 n1, .slice A5 ks1.length c5] 27)).grown hg6 (part_ne hp (by rw [List.length_take]; omega) hgp.out hPr); have hpc6 := prt_cell hP6 hprt'.out; have hZ6 := ((hZr.keep hb5).alloc (.cells #[.int .i64 k1, .int .i64 n1, .slice A5 ks1.length c5] 27)).below hb6 (by omega); have g6 : Below w.heap.size w w6 := ((hb.trans (hb5.mono (by omega))).alloc (by have := hb5.size; omega) _).trans (hb6.mono (by omega)); have l6 := hP6.lt)
          | (go_at_call 86; refine (hkid.out _ gmr).mono ?_; rintro e w5 ⟨A5, c5, rfl, hl5, hf5, hb5⟩; have hT5 := hTr.keep hb5; have x2 := hT5.at_ (i := 2) rfl; have f2 := hT5.frozen 2; have lt5 := hT5.lt; have s5 := hb5.size))
        go_roundw
        case rel => exact ⟨j + 1, kj, gp, A6, c6, R2, by omega, hide hR2'.out.symm, hR2l, rfl, rfl, rfl, by go_num, by rw [List.take_succ_eq_append_getElem hlt, hk1'.out]; exact hp6.setCell (by simp) _, hide (fun h => absurd h (by omega)), hgl, hP6.far (by simp; omega) _, hT6.set_ 2 _, hZ6.far (by simp; omega) _, g6.setCell (by simp; omega) _, hide (.inl rfl)⟩
        case measure => simp [intOf]; omega
    · obtain rfl : j = ts.length := by omega
      have hRe : R = rest := by rw [hR.out, show xs.drop ts.length = [] from List.drop_eq_nil_of_le (by have := hX.out.2.1; omega), rem_nil]; rfl
      obtain rfl : kj = k := by
        rcases hkj.out with h | ⟨h1, _, h2⟩
        · exact h
        · exfalso
          have h3 := hh.out.2.2.2
          have h4 := hX.out.1
          rw [h1] at h4
          rcases h2 with rfl | rfl <;> (simp [prt] at h3; rw [← h3.2] at h4; simp at h4)
      subst hRe
      rw [List.take_length] at hp
      obtain ⟨Ax, cx, ex, hfr⟩ := hp.fresh
      injection ex with ex1 ex2 ex3
      subst ex1 ex3
      clear ex2
      have x0 := hTr.at_ (i := 0) rfl
      have x1 := hTr.at_ (i := 1) rfl
      have x2 := hTr.at_ (i := 2) rfl
      have d0 := hZr.at_ (i := 0) rfl
      have d1 := hZr.at_ (i := 1) rfl
      have d2 := hZr.at_ (i := 2) rfl
      have e0 := hZr.frozen 0
      have e1 := hZr.frozen 1
      have e2 := hZr.frozen 2
      go_wp2_with fail
      refine bodyPost_ret (v := .tuple #[.agg #[.int .i64 kj, .int .i64 0, .slice Av ts.length cv], .string (byt R), .bool true]) (by simp [results, Tryz.results86, go_sem, d0, d1, d2]) rfl ⟨Av, cv, rfl, by omega, ?_, ?_⟩
      · exact (((hfr.setCell (by simp; omega) _).setCell (by simp; omega) _).setCell (by simp; omega) _).mono (by omega)
      · exact ((hb.setCell (by simp) _).setCell (by simp) _).setCell (by simp) _
/-- a term's text is read as that term -/
theorem readTerm_any {d : Nat} {t : Tm} {b : List UInt8} (h : Tu d t b) : ReadOk d t b := by
  induction h with
  | num d k n c h => exact read_num d k n c h
  | node d k ts xs hk hl hx ht ih => exact read_node d k ts xs hk hl hx ih
end Go.Proofs.YthgmofdfecioaaaGreatDoor
