/-
  Texts that are common to the laws: Pairs, L5Draw. No condition.
-/
import Derived.Test.YtodkenpmhhbppaaK16
import Derived.Test.YtodkenpmhhbppaaK19

namespace Go.Proofs.Ytodkenpmhhbppaa
open Go.RowKit
set_option linter.unusedSimpArgs false
set_option linter.unusedVariables false

/-- two lists of texts, in new blocks -/
def Paired (w : World) (e : Ending) (w' : World) : Prop :=
  ∃ (ts : List Tm) (xs : List (List UInt8)) (us : List Tm) (ys : List (List UInt8)) (g g' : Nat), e = .returned (.tuple #[.slice (some ⟨g, 0, none⟩) ts.length ts.length, .slice (some ⟨g', 0, none⟩) us.length us.length]) ∧
    xs.length = ts.length ∧ ys.length = us.length ∧ GoodL ts xs ∧ GoodL us ys ∧ Blk w' g (strs xs) ∧ Blk w' g' (strs ys) ∧ ts.length ≤ 100 ∧ us.length ≤ 100 ∧ 0 < us.length ∧ Below w.heap.size w w'
set_option maxHeartbeats 2000000 in
set_option maxRecDepth 100000 in
theorem pairs_any (m : Nat) (hm : m < 4) (w : World) : Calls Try.prog 132 #[.int .i64 m] w (Paired w) := by
  have hB : ∀ o o' : Obj, Below w.heap.size w ((w.alloc o).alloc o') := fun o o' => ((Below.refl _ _).alloc (Nat.le_refl _) _).alloc (by simp) _
  have : m = 0 ∨ m = 1 ∨ m = 2 ∨ m = 3 := by omega
  rcases this with rfl | rfl | rfl | rfl
  · go_enter Try.func132, Try.ntmps132
    go_wp2_with fail
    go_ret2
    exact ⟨[], [], prs0, prs0X, w.heap.size, w.heap.size + 1, rfl, rfl, rfl, trivial, prs0_good, (Blk.new_ _ _ (strs []) rfl).alloc _, Blk.new_ _ _ (strs prs0X) (by simp), by decide, by decide, by decide, hB _ _⟩
  · go_enter Try.func132, Try.ntmps132
    go_wp2_with fail
    go_ret2
    exact ⟨ctx1, ctx1X, prs1, prs1X, w.heap.size, w.heap.size + 1, rfl, rfl, rfl, ctx1_good, prs1_good, (Blk.new_ _ _ (strs ctx1X) rfl).alloc _, Blk.new_ _ _ (strs prs1X) (by simp), by decide, by decide, by decide, hB _ _⟩
  · go_enter Try.func132, Try.ntmps132
    go_wp2_with fail
    go_ret2
    exact ⟨ctx2, ctx2X, prs2, prs2X, w.heap.size, w.heap.size + 1, rfl, rfl, rfl, ctx2_good, prs2_good, (Blk.new_ _ _ (strs ctx2X) rfl).alloc _, Blk.new_ _ _ (strs prs2X) (by simp), by decide, by decide, by decide, hB _ _⟩
  · go_enter Try.func132, Try.ntmps132
    go_wp2_with fail
    go_ret2
    exact ⟨ctx3, ctx3X, prs3, prs3X, w.heap.size, w.heap.size + 1, rfl, rfl, rfl, ctx3_good, prs3_good, (Blk.new_ _ _ (strs ctx3X) rfl).alloc _, Blk.new_ _ _ (strs prs3X) (by simp), by decide, by decide, by decide, hB _ _⟩
end Go.Proofs.Ytodkenpmhhbppaa

namespace Go.Proofs.Ytodkenpmhhbppaa
open Go.RowKit
set_option linter.unusedSimpArgs false
set_option linter.unusedVariables false

/-- what is wanted of l5Nat -/
def NatOk : Prop := ∀ (B r p n d : Nat) (w : World), n ≤ 3 → d ≤ 4 → p ≤ 800000000 → B ≤ w.heap.size → Rdr B w r p → Calls Try.prog 131 #[.pointer (some ⟨r, 0, none⟩), .int .i64 n, .int .i64 d] w fun e w' =>
  ∃ (k n : Int) (ks : List Tm) (A : Option Addr) (c p' : Nat), e = .returned (.agg #[.int .i64 k, .int .i64 n, .slice A ks.length c]) ∧ ks.length ≤ 9223372036854775807 ∧ sizes ks ≤ 100000 ∧ p' ≤ p + 100000 ∧ RdP (fun b => w.heap.size ≤ b) w' A 0 ks ∧ Rdr B w' r p' ∧ w.grownBy w' (some r)
/-- something and a valid term -/
def DrawnCV (B : Nat) (w : World) (r p q : Nat) (e : Ending) (w' : World) : Prop :=
  ∃ (v : Value) (k n : Int) (ks : List Tm) (A : Option Addr) (c p' : Nat), e = .returned (.tuple #[v, .agg #[.int .i64 k, .int .i64 n, .slice A ks.length c]]) ∧ ks.length ≤ 9223372036854775807 ∧ validT (.mk k n ks) = true ∧ p' ≤ p + q ∧ RdP (fun b => w.heap.size ≤ b) w' A 0 ks ∧ Rdr B w' r p' ∧ w.grownBy w' (some r)
theorem num_ctx {x : Int} (h : x ∈ ([0, 1, 2, 0] : List Int)) : ∃ d : Nat, x = d ∧ d ≤ 2 := by
  simp only [List.mem_cons, List.not_mem_nil, or_false] at h
  rcases h with rfl | rfl | rfl | rfl
  · exact ⟨0, rfl, by omega⟩
  · exact ⟨1, rfl, by omega⟩
  · exact ⟨2, rfl, by omega⟩
  · exact ⟨0, rfl, by omega⟩
theorem num_dep {x : Int} (h : x ∈ ([3, 2, 4, 1] : List Int)) : ∃ d : Nat, x = d ∧ d ≤ 4 := by
  simp only [List.mem_cons, List.not_mem_nil, or_false] at h
  rcases h with rfl | rfl | rfl | rfl
  · exact ⟨3, rfl, by omega⟩
  · exact ⟨2, rfl, by omega⟩
  · exact ⟨4, rfl, by omega⟩
  · exact ⟨1, rfl, by omega⟩
/-- the elements of a list that can be read -/
theorem elems {q : Nat → Prop} {w : World} {A : Option Addr} {us : List Tm} (h : RdP q w A 0 us) (h0 : 0 < us.length) : ∃ b off, ∃ (kf nf : Nat → Int) (af : Nat → Option Addr) (lf cf : Nat → Nat), A = some ⟨b, off, none⟩ ∧ ∀ i, (hi : i < us.length) → q b ∧ w.cell? ⟨b, off + i * 3, none⟩ = some (.int .i64 (kf i)) ∧ w.cell? ⟨b, off + i * 3 + 1, none⟩ = some (.int .i64 (nf i)) ∧ w.cell? ⟨b, off + i * 3 + 2, none⟩ = some (.slice (af i) (lf i) (cf i)) ∧
    ∃ ks, us[i] = .mk (kf i) (nf i) ks ∧ lf i = ks.length ∧ ks.length ≤ 9223372036854775807 ∧ RdP q w (af i) 0 ks := by
  obtain ⟨b, off, hA, _⟩ := h.get h0
  have key : ∀ i, ∃ (k n : Int) (a : Option Addr) (l c : Nat), (hi : i < us.length) → q b ∧ w.cell? ⟨b, off + i * 3, none⟩ = some (.int .i64 k) ∧ w.cell? ⟨b, off + i * 3 + 1, none⟩ = some (.int .i64 n) ∧ w.cell? ⟨b, off + i * 3 + 2, none⟩ = some (.slice a l c) ∧
      ∃ ks, us[i] = .mk k n ks ∧ l = ks.length ∧ ks.length ≤ 9223372036854775807 ∧ RdP q w a 0 ks := by
    intro i
    by_cases hi : i < us.length
    · obtain ⟨b', off', hA', hc⟩ := h.get hi
      rw [hA] at hA'
      injection hA' with hA'
      injection hA' with e1 e2
      subst e1 e2
      rw [Nat.zero_add] at hc
      obtain ⟨k, n, ks, hk⟩ := tm_eta us[i]
      rw [hk] at hc
      obtain ⟨h0, h1, h2, A', c', h3, h4, h5⟩ := RdPC.iff.1 hc
      exact ⟨k, n, A', ks.length, c', fun _ => ⟨h0, h1, h2, h3, ks, hk, rfl, h4, h5⟩⟩
    · exact ⟨0, 0, none, 0, 0, fun hi' => absurd hi' hi⟩
  obtain ⟨kf, h1⟩ := Classical.axiomOfChoice key
  obtain ⟨nf, h2⟩ := Classical.axiomOfChoice h1
  obtain ⟨af, h3⟩ := Classical.axiomOfChoice h2
  obtain ⟨lf, h4⟩ := Classical.axiomOfChoice h3
  obtain ⟨cf, h5⟩ := Classical.axiomOfChoice h4
  exact ⟨b, off, kf, nf, af, lf, cf, hA, fun i hi => h5 i hi⟩
theorem grown_cell {w w' : World} {r b o : Nat} {v : Value} (h : w.grownBy w' (some r)) (hc : w.cell? ⟨b, o, none⟩ = some v) (hb : b ≠ r) : w'.cell? ⟨b, o, none⟩ = some v := by
  have hl := World.block_lt_of_cell? _ _ hc
  have := h.block b hl (fun e => hb (by injection e))
  rw [← hc]
  simp only [World.cell?, this]
theorem far3 {w : World} {b o g : Nat} {v x y z : Value} (h : w.cell? ⟨b, o, none⟩ = some v) (hb : b ≠ g) : (((w.setCell ⟨g, 0, none⟩ x).setCell ⟨g, 1, none⟩ y).setCell ⟨g, 2, none⟩ z).cell? ⟨b, o, none⟩ = some v := by
  have e : (((w.setCell ⟨g, 0, none⟩ x).setCell ⟨g, 1, none⟩ y).setCell ⟨g, 2, none⟩ z).heap[b]? = w.heap[b]? :=
    (Below.heap_setCell _ ⟨g, 2, none⟩ _ b hb).trans ((Below.heap_setCell _ ⟨g, 1, none⟩ _ b hb).trans (Below.heap_setCell _ ⟨g, 0, none⟩ _ b hb))
  rw [← h]
  simp only [World.cell?, e]
set_option maxHeartbeats 8000000 in
set_option maxRecDepth 100000 in
theorem l5draw_any (hN : NatOk) (B r p : Nat) (w : World) (hp : p ≤ 700000000) (hB : B ≤ w.heap.size) (hr : Rdr B w r p) : Calls Try.prog 87 #[.pointer (some ⟨r, 0, none⟩)] w (DrawnCV B w r p 200000) := by
  have hrl := hr.lt
  go_enter Try.func87, Try.ntmps87
  go_wp2_with fail
  refine (pick_any B r p 2 _ (by omega) (by omega) (by simp; omega) (hr.alloc (by omega) _)).mono ?_
  rintro e w1 ⟨m, rfl, hm, hm0, hr1, hg1⟩
  clear hm hm0
  have hZ1 := (Blk.new_ w 25 #[.int .i64 0, .int .i64 0, .slice none 0 0] rfl).grown hg1 (by simp; omega)
  have g1 : w.grownBy w1 (some r) := grown_trans (only_alloc (World.grownBy.refl _ _) _) hg1
  have s1 := hZ1.lt
  by_cases h0 : m = 0
  · subst h0
    go_wp2_with (go_at_call 76; refine (num_any [0, 1, 2, 0] B r (p + 1) w1.heap.size _ (by decide) (by decide) (by omega) (by simp; omega) (hr1.alloc (by omega) _) (Blk.new_ _ 3 _ (by simp)) (by omega)).mono ?_; rintro e w2 ⟨x, hx, rfl, hr2, hg2⟩; obtain ⟨nn, rfl, hnn⟩ := num_ctx hx; have g2 := grown_trans (only_alloc g1 _) hg2; have hZ2 := (hZ1.alloc _).grown hg2 (by simp; omega); have s2 : w1.heap.size + 1 ≤ w2.heap.size := (by have := hg2.size; simpa using this))
    go_loopw [5, 6] (fun v jv wr => ∃ (j : Nat) (ts : List Tm), j ≤ nn ∧ ts.length = j ∧ jv = .int .i64 j ∧ Part w2.heap.size wr v ts ∧ Below w2.heap.size w2 wr) (fun _ jv _ => nn - (intOf jv).toNat)
    case atStart => exact ⟨0, [], Nat.zero_le _, rfl, rfl, Part.empty_ rfl (Nat.le_refl _), (Below.refl _ _).alloc (Nat.le_refl _) _⟩
    case round =>
      obtain ⟨j, ts, hj, htl, rfl, hq, hbr⟩ := hrel
      have htl' := hide htl
      clear htl
      have sr := hbr.size
      by_cases hlt : j < nn
      · go_wp2_with (first
          | (at_builtin; refine wpList_append_built (B := w2.heap.size) (w0 := wr) (m := j) (k := 6) (n := 0) (c := 0) (A := none) (ks := []) hq hb3 sr Fresh.nil (by simp) htl'.out (by omega) rfl _ _ rfl rfl (by show Value.slice (some ⟨w3.heap.size, 0, none⟩) 1 1 = _; simp) ?_; intro A2 c2 w5 hp2 hb2 hg2')
          | (go_at_call 98; refine (sLeaf_any _ _ _).mono ?_; rintro e w3 ⟨rfl, hb3⟩))
        go_roundw
        case rel => exact ⟨j + 1, ts ++ [.mk 6 0 []], by omega, by have := htl'.out; simp; omega, by go_num, hp2, (hbr.trans (hb3.mono sr)).trans hb2⟩
        case measure => simp [intOf]; omega
      · have hrr := hr2.below hbr (by omega)
        have gr := only_belowB g2 hbr (by omega)
        have hZr := hZ2.keep hbr
        have hje : j = nn := by omega
        subst hje
        go_wp2_with (first
          | (go_at_call 131; have _t := tok; refine (hN B r _ j dd _ (by omega) hdd (by omega) (by omega) hr3).mono ?_; rintro e w4 ⟨k4, n4, ks4, A4, c4, p4, rfl, hl4, hs4, hp4, hk4, hr4, hg4⟩; have g4 := only_alloc (grown_trans g3 hg4) (.cells #[.int .i64 k4, .int .i64 n4, .slice A4 ks4.length c4] 25); have hZ4 := (hZ3.grown hg4 (by simp; omega)).alloc (.cells #[.int .i64 k4, .int .i64 n4, .slice A4 ks4.length c4] 25); have hX := Blk.new_ w4 25 #[.int .i64 k4, .int .i64 n4, .slice A4 ks4.length c4] rfl; have s4 := hg4.size; have hr5 := hr4.alloc (by omega) (.cells #[.int .i64 k4, .int .i64 n4, .slice A4 ks4.length c4] 25); have hk5 := hk4.alloc (.cells #[.int .i64 k4, .int .i64 n4, .slice A4 ks4.length c4] 25); obtain ⟨x0, x1, x2⟩ := hX.three)
          | (go_at_call 76; refine (num_any [3, 2, 4, 1] B r (p + 1 + 1) wr.heap.size _ (by decide) (by decide) (by omega) (by simp; omega) (hrr.alloc (by omega) _) (Blk.new_ _ 3 _ (by simp)) (by omega)).mono ?_; rintro e w3 ⟨x3, hx3, rfl, hr3, hg3⟩; obtain ⟨dd, rfl, hdd⟩ := num_dep hx3; have g3 := grown_trans (only_alloc gr _) hg3; have hZ3 := (hZr.alloc _).grown hg3 (by simp; omega); have s3 : wr.heap.size + 1 ≤ w3.heap.size := (by have := hg3.size; simpa using this); have tok := trivial))
        obtain ⟨vv, hvv0⟩ : ∃ vv, validT (.mk k4 n4 ks4) = vv := ⟨_, rfl⟩
        refine (sTermValid_any k4 n4 ks4 A4 c4 _ (by omega) hk5.rd).mono ?_
        rw [hvv0]
        rintro e wz ⟨rfl, hbz⟩
        have hvv := hide hvv0
        clear hvv0
        have hZz := hZ4.keep hbz
        have hrz := hr5.below hbz (by simp; omega)
        have gz := only_below g4 hbz
        have sz : w4.heap.size + 1 ≤ wz.heap.size := by have := hbz.size; simpa using this
        have hkz := hk5.below hbz
        replace hX := hX.keep hbz
        clear x0 x1 x2
        obtain ⟨x0, x1, x2⟩ := hX.three
        cases vv with
        | false =>
          obtain ⟨pz, hpz⟩ : ∃ pz, pz = p4 := ⟨_, rfl⟩
          rw [← hpz] at hrz
          go_wp2_with fail
          refine (pick_any B r pz 4 _ (by omega) (by omega) (by omega) hrz).mono ?_
          rintro e wa ⟨ma, rfl, hma, hma0, hra, hga⟩
          have hma' : ma < 4 := by have := hma (by omega); omega
          clear hma hma0
          have hZa := hZz.grown hga (by simp; omega)
          have ga := grown_trans gz hga
          have sa := hga.size
          go_wp2_with (first
            | (go_at_call 65; have _t := tokb; refine (read_any us ys hlus (by omega) hgus.at_ g' _ hBys).mono ?_; rintro e wc ⟨Ac, cc, rfl, hfc, hbc⟩; have sc := hbc.size; have hZc := hZb.keep hbc; have hBxc := hBxs.keep hbc; have hrc := hrb.below hbc (by omega); have gc := only_below gb hbc)
            | (go_at_call 132; refine (pairs_any ma hma' _).mono ?_; rintro e wb ⟨ts, xs, us, ys, g, g', rfl, hlts, hlus, hgts, hgus, hBxs, hBys, l1, l2, l3, hbb⟩; have sb := hbb.size; have hZb := hZa.keep hbb; have hrb := hra.below hbb (by omega); have gb := only_below ga hbb; have lxs := hBxs.lt; have tokb := trivial))
          have lx := hBxc.lt
          obtain ⟨b, off, kf, nf, af, lf, cf, rfl, hel⟩ := elems hfc.rdp l3
          have hbr : b ≠ r := by have := (hel 0 l3).1.1; omega
          have hbw : b ≠ w.heap.size := by have := (hel 0 l3).1.1; omega
          have hel0 : ∀ w' : World, (∀ i (hi : i < us.length), w'.cell? ⟨b, off + i * 3, none⟩ = wc.cell? ⟨b, off + i * 3, none⟩) → True := fun _ _ => trivial
          clear hel0
          have T0 : (∀ i, i < us.length → wc.cell? ⟨b, off + i * 3, none⟩ = some (.int .i64 (kf i))) ∧ (∀ i, i < us.length → wc.cell? ⟨b, off + i * 3 + 1, none⟩ = some (.int .i64 (nf i))) ∧ (∀ i, i < us.length → wc.cell? ⟨b, off + i * 3 + 2, none⟩ = some (.slice (af i) (lf i) (cf i))) := ⟨fun i hi => (hel i hi).2.1, fun i hi => (hel i hi).2.2.1, fun i hi => (hel i hi).2.2.2.1⟩
          obtain ⟨t1, t2, t3⟩ := T0
          have hel' := hide hel
          clear hel
          go_region_held3 (fun w' => (∀ i, i < us.length → w'.cell? ⟨b, off + i * 3, none⟩ = some (.int .i64 (kf i))) ∧ (∀ i, i < us.length → w'.cell? ⟨b, off + i * 3 + 1, none⟩ = some (.int .i64 (nf i))) ∧ (∀ i, i < us.length → w'.cell? ⟨b, off + i * 3 + 2, none⟩ = some (.slice (af i) (lf i) (cf i)))) (first | exact ⟨t1, t2, t3⟩ | exact ⟨s1', s2', s3'⟩ | exact ⟨r1', r2', r3'⟩ | exact ⟨fun i hi => far3 (r1' i hi) hbw, fun i hi => far3 (r2' i hi) hbw, fun i hi => far3 (r3' i hi) hbw⟩ | go_keep) (first
            | (go_at_call 52; have _t := tokd; refine (pick_any B r (pz + 1) us.length _ (by omega) (by omega) (by omega) hrd).mono ?_; rintro e we ⟨mm, rfl, hmm, hmm0, hre, hge⟩; have hmm' : mm < us.length := (by have := hmm (by omega); omega); clear hmm hmm0; have hce := grown_trans hcd hge; have se := hge.size; have r1' : ∀ i, i < us.length → we.cell? ⟨b, off + i * 3, none⟩ = some (.int .i64 (kf i)) := (fun i hi => grown_cell hce (t1 i hi) hbr); have r2' : ∀ i, i < us.length → we.cell? ⟨b, off + i * 3 + 1, none⟩ = some (.int .i64 (nf i)) := (fun i hi => grown_cell hce (t2 i hi) hbr); have r3' : ∀ i, i < us.length → we.cell? ⟨b, off + i * 3 + 2, none⟩ = some (.slice (af i) (lf i) (cf i)) := (fun i hi => grown_cell hce (t3 i hi) hbr); have y0 := r1' mm hmm'; have y1 := r2' mm hmm'; have y2 := r3' mm hmm'; have hlys : mm < ys.length := (by omega); have ge := grown_trans gc hce; have hZe := hZc.grown hce (by simp; omega); obtain ⟨d0, d1, d2⟩ := hZe.three; have e0 := hZe.frozen 0; have e1 := hZe.frozen 1; have e2 := hZe.frozen 2; have lze := hZe.lt; have bl : b < we.heap.size := World.block_lt_of_cell? _ _ y0)
            | (go_at_call 65; refine (read_any ts xs hlts (by omega) hgts.at_ g _ hBxc.drew).mono ?_; rintro e wd ⟨Ad, cd, rfl, hfd, hbd⟩; have hcd : wc.grownBy wd (some r) := only_below (only_drew (World.grownBy.refl _ _)) hbd; have sd := hcd.size; have hrd := hrc.drew.below hbd (by simp; omega); have s1' : ∀ i, i < us.length → wd.cell? ⟨b, off + i * 3, none⟩ = some (.int .i64 (kf i)) := (fun i hi => grown_cell hcd (t1 i hi) hbr); have s2' : ∀ i, i < us.length → wd.cell? ⟨b, off + i * 3 + 1, none⟩ = some (.int .i64 (nf i)) := (fun i hi => grown_cell hcd (t2 i hi) hbr); have s3' : ∀ i, i < us.length → wd.cell? ⟨b, off + i * 3 + 2, none⟩ = some (.slice (af i) (lf i) (cf i)) := (fun i hi => grown_cell hcd (t3 i hi) hbr); have tokd := trivial))
          all_goals
            obtain ⟨_, _, _, _, ks, hk, hlf, hlk, hrk⟩ := hel'.out mm hmm'
            have hgd := hgus.at_ mm (.mk (kf mm) (nf mm) ks) ys[mm] (by rw [List.getElem?_eq_getElem hmm', hk]) (List.getElem?_eq_getElem hlys)
            have hrk2 := hrk.grown hce (fun b hb => by have := hb.1; simp; omega)
            go_wp2_with fail
            refine bodyPost_ret (v := .tuple #[.slice Ad ts.length cd, .agg #[.int .i64 (kf mm), .int .i64 (nf mm), .slice (af mm) (lf mm) (cf mm)]]) (by simp [results, Try.results87, go_sem, d0, d1, d2]) rfl ⟨_, kf mm, nf mm, ks, af mm, cf mm, _, by rw [hlf], hlk, hgd.2.1, (by omega : pz + 1 + 1 ≤ p + 200000), ?_, ?_, ?_⟩
            · exact ((((hrk2.mono (q := fun b => w.heap.size + 1 ≤ b) (fun b hb => by have := hb.1; omega)).setCell (by simp) _).setCell (by simp) _).setCell (by simp) _).mono (fun b hb => by omega)
            · exact ((hre.setCell (by simp; omega) _).setCell (by simp; omega) _).setCell (by simp; omega) _
            · exact only_setCell (only_setCell (only_setCell ge (.inr (by simp)) _) (.inr (by simp)) _) (.inr (by simp)) _
        | true =>
          obtain ⟨d0, d1, d2⟩ := hZz.three
          have e0 := hZz.frozen 0
          have e1 := hZz.frozen 1
          have e2 := hZz.frozen 2
          have x0 := hX.ruleG (g := r) (by omega) (i := 0) rfl
          have x1 := hX.ruleG (g := r) (by omega) (i := 1) rfl
          have x2 := hX.ruleG (g := r) (by omega) (i := 2) rfl
          go_wp2_with fail
          refine wp_region_firstY (fun w' => wz.grownBy w' (some r)) [0, 1] [2] [3] [_, _] [_] [_] (by kernel_rfl) (by kernel_rfl) rfl rfl rfl (fun _ _ d _ _ h => by cases d <;> exact h) (only_drew (World.grownBy.refl _ _)) ?_
          repeat (first | ((refine takeY_skip (a' := ?_) ?_ ?_ ?_); (rotate_left); (· (simp [Region.wanted, yielded]; done)); (· (simp only [List.getElem_toArray, List.getElem_cons_zero, List.getElem_cons_succ, Act.put, List.setIfInBounds_toArray, List.set_cons_zero, List.set_cons_succ]; exact rfl))) | ((refine takeY_step (v := ?_) (a' := ?_) ?_ ?_ ?_ ?_); (rotate_left 2); (· (simp [Region.wanted, yielded]; done)); (· (intro w' hS'; go_simp; try (with_reducible rfl))); (· (simp only [List.getElem_toArray, List.getElem_cons_zero, List.getElem_cons_succ, Act.put, List.setIfInBounds_toArray, List.set_cons_zero, List.set_cons_succ]; exact rfl))))
          refine takeY_nil (then_cons ?_)
          go_wp2_with fail
          refine mid_intro (only_drew (World.grownBy.refl _ _)) (then_nil ?_)
          go_wp2_with fail
          refine bodyPost_ret (v := .tuple #[u5, .agg #[.int .i64 k4, .int .i64 n4, .slice A4 ks4.length c4]]) (by simp [results, Try.results87, go_sem, d0, d1, d2]) rfl ⟨_, k4, n4, ks4, A4, c4, _, rfl, hl4, hvv.out, (by omega : p4 ≤ p + 200000), ?_, ?_, ?_⟩
          · exact ((((hkz.mono (q := fun b => w.heap.size + 1 ≤ b) (fun b hb => by omega)).drew.setCell (by simp) _).setCell (by simp) _).setCell (by simp) _).mono (fun b hb => by omega)
          · exact ((hrz.drew.setCell (by simp; omega) _).setCell (by simp; omega) _).setCell (by simp; omega) _
          · exact only_setCell (only_setCell (only_setCell (only_drew gz) (.inr (by simp)) _) (.inr (by simp)) _) (.inr (by simp)) _
  · have q0 : ((m : Int) == 0) = false := beq_eq_false_iff_ne.2 (by omega)
    obtain ⟨pz, hpz⟩ : ∃ pz, pz = p + 1 := ⟨_, rfl⟩
    obtain ⟨wz, hwz⟩ : ∃ wz, wz = w1 := ⟨_, rfl⟩
    have hrz := hr1
    have hZz := hZ1
    have gz := g1
    have sz := s1
    rw [← hpz] at hrz
    go_wp2_with fail
    refine (pick_any B r pz 4 _ (by omega) (by omega) (by omega) hrz).mono ?_
    rintro e wa ⟨ma, rfl, hma, hma0, hra, hga⟩
    have hma' : ma < 4 := by have := hma (by omega); omega
    clear hma hma0
    have hZa := hZz.grown hga (by simp; omega)
    have ga := grown_trans gz hga
    have sa := hga.size
    go_wp2_with (first
      | (go_at_call 65; have _t := tokb; refine (read_any us ys hlus (by omega) hgus.at_ g' _ hBys).mono ?_; rintro e wc ⟨Ac, cc, rfl, hfc, hbc⟩; have sc := hbc.size; have hZc := hZb.keep hbc; have hBxc := hBxs.keep hbc; have hrc := hrb.below hbc (by omega); have gc := only_below gb hbc)
      | (go_at_call 132; refine (pairs_any ma hma' _).mono ?_; rintro e wb ⟨ts, xs, us, ys, g, g', rfl, hlts, hlus, hgts, hgus, hBxs, hBys, l1, l2, l3, hbb⟩; have sb := hbb.size; have hZb := hZa.keep hbb; have hrb := hra.below hbb (by omega); have gb := only_below ga hbb; have lxs := hBxs.lt; have tokb := trivial))
    have lx := hBxc.lt
    obtain ⟨b, off, kf, nf, af, lf, cf, rfl, hel⟩ := elems hfc.rdp l3
    have hbr : b ≠ r := by have := (hel 0 l3).1.1; omega
    have hbw : b ≠ w.heap.size := by have := (hel 0 l3).1.1; omega
    have hel0 : ∀ w' : World, (∀ i (hi : i < us.length), w'.cell? ⟨b, off + i * 3, none⟩ = wc.cell? ⟨b, off + i * 3, none⟩) → True := fun _ _ => trivial
    clear hel0
    have T0 : (∀ i, i < us.length → wc.cell? ⟨b, off + i * 3, none⟩ = some (.int .i64 (kf i))) ∧ (∀ i, i < us.length → wc.cell? ⟨b, off + i * 3 + 1, none⟩ = some (.int .i64 (nf i))) ∧ (∀ i, i < us.length → wc.cell? ⟨b, off + i * 3 + 2, none⟩ = some (.slice (af i) (lf i) (cf i))) := ⟨fun i hi => (hel i hi).2.1, fun i hi => (hel i hi).2.2.1, fun i hi => (hel i hi).2.2.2.1⟩
    obtain ⟨t1, t2, t3⟩ := T0
    have hel' := hide hel
    clear hel
    go_region_held3 (fun w' => (∀ i, i < us.length → w'.cell? ⟨b, off + i * 3, none⟩ = some (.int .i64 (kf i))) ∧ (∀ i, i < us.length → w'.cell? ⟨b, off + i * 3 + 1, none⟩ = some (.int .i64 (nf i))) ∧ (∀ i, i < us.length → w'.cell? ⟨b, off + i * 3 + 2, none⟩ = some (.slice (af i) (lf i) (cf i)))) (first | exact ⟨t1, t2, t3⟩ | exact ⟨s1', s2', s3'⟩ | exact ⟨r1', r2', r3'⟩ | exact ⟨fun i hi => far3 (r1' i hi) hbw, fun i hi => far3 (r2' i hi) hbw, fun i hi => far3 (r3' i hi) hbw⟩ | go_keep) (first
      | (go_at_call 52; have _t := tokd; refine (pick_any B r (pz + 1) us.length _ (by omega) (by omega) (by omega) hrd).mono ?_; rintro e we ⟨mm, rfl, hmm, hmm0, hre, hge⟩; have hmm' : mm < us.length := (by have := hmm (by omega); omega); clear hmm hmm0; have hce := grown_trans hcd hge; have se := hge.size; have r1' : ∀ i, i < us.length → we.cell? ⟨b, off + i * 3, none⟩ = some (.int .i64 (kf i)) := (fun i hi => grown_cell hce (t1 i hi) hbr); have r2' : ∀ i, i < us.length → we.cell? ⟨b, off + i * 3 + 1, none⟩ = some (.int .i64 (nf i)) := (fun i hi => grown_cell hce (t2 i hi) hbr); have r3' : ∀ i, i < us.length → we.cell? ⟨b, off + i * 3 + 2, none⟩ = some (.slice (af i) (lf i) (cf i)) := (fun i hi => grown_cell hce (t3 i hi) hbr); have y0 := r1' mm hmm'; have y1 := r2' mm hmm'; have y2 := r3' mm hmm'; have hlys : mm < ys.length := (by omega); have ge := grown_trans gc hce; have hZe := hZc.grown hce (by simp; omega); obtain ⟨d0, d1, d2⟩ := hZe.three; have e0 := hZe.frozen 0; have e1 := hZe.frozen 1; have e2 := hZe.frozen 2; have lze := hZe.lt; have bl : b < we.heap.size := World.block_lt_of_cell? _ _ y0)
      | (go_at_call 65; refine (read_any ts xs hlts (by omega) hgts.at_ g _ hBxc.drew).mono ?_; rintro e wd ⟨Ad, cd, rfl, hfd, hbd⟩; have hcd : wc.grownBy wd (some r) := only_below (only_drew (World.grownBy.refl _ _)) hbd; have sd := hcd.size; have hrd := hrc.drew.below hbd (by simp; omega); have s1' : ∀ i, i < us.length → wd.cell? ⟨b, off + i * 3, none⟩ = some (.int .i64 (kf i)) := (fun i hi => grown_cell hcd (t1 i hi) hbr); have s2' : ∀ i, i < us.length → wd.cell? ⟨b, off + i * 3 + 1, none⟩ = some (.int .i64 (nf i)) := (fun i hi => grown_cell hcd (t2 i hi) hbr); have s3' : ∀ i, i < us.length → wd.cell? ⟨b, off + i * 3 + 2, none⟩ = some (.slice (af i) (lf i) (cf i)) := (fun i hi => grown_cell hcd (t3 i hi) hbr); have tokd := trivial))
    all_goals
      obtain ⟨_, _, _, _, ks, hk, hlf, hlk, hrk⟩ := hel'.out mm hmm'
      have hgd := hgus.at_ mm (.mk (kf mm) (nf mm) ks) ys[mm] (by rw [List.getElem?_eq_getElem hmm', hk]) (List.getElem?_eq_getElem hlys)
      have hrk2 := hrk.grown hce (fun b hb => by have := hb.1; simp; omega)
      go_wp2_with fail
      refine bodyPost_ret (v := .tuple #[.slice Ad ts.length cd, .agg #[.int .i64 (kf mm), .int .i64 (nf mm), .slice (af mm) (lf mm) (cf mm)]]) (by simp [results, Try.results87, go_sem, d0, d1, d2]) rfl ⟨_, kf mm, nf mm, ks, af mm, cf mm, _, by rw [hlf], hlk, hgd.2.1, (by omega : pz + 1 + 1 ≤ p + 200000), ?_, ?_, ?_⟩
      · exact ((((hrk2.mono (q := fun b => w.heap.size + 1 ≤ b) (fun b hb => by have := hb.1; omega)).setCell (by simp) _).setCell (by simp) _).setCell (by simp) _).mono (fun b hb => by omega)
      · exact ((hre.setCell (by simp; omega) _).setCell (by simp; omega) _).setCell (by simp; omega) _
      · exact only_setCell (only_setCell (only_setCell ge (.inr (by simp)) _) (.inr (by simp)) _) (.inr (by simp)) _
end Go.Proofs.Ytodkenpmhhbppaa
