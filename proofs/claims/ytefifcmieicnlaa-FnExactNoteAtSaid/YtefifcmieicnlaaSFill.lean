/-
  l13Fill of the reference. No condition.
-/
import Derived.Test.YtefifcmieicnlaaSShift
import Derived.Test.YtefifcmieicnlaaShift2
namespace Go.Proofs.Ytefifcmieicnlaa
open Go.RowKit
set_option linter.unusedSimpArgs false
set_option linter.unusedVariables false

set_option maxHeartbeats 1000000 in
theorem sLeaf_any (k n : Int) (w : World) : Calls Try.prog 104 #[.int .i64 k, .int .i64 n] w fun e w' => e = .returned (.agg #[.int .i64 k, .int .i64 n, .slice none 0 0]) ∧ Below w.heap.size w w' := by
  go_enter Try.func104, Try.ntmps104
  go_wp2_with fail
  refine bodyPost_ret (v := .agg #[.int .i64 k, .int .i64 n, .slice none 0 0]) (by simp [results, Try.results104, go_sem]) rfl ⟨rfl, ?_⟩
  exact (Below.refl _ _).alloc (Nat.le_refl _) _

mutual
def flS (args : List Tm) : Int → Tm → Tm
  | d, .mk k n ks => if k = 1 ∧ d ≤ n then (if n < d + args.length then shS d 0 (args.getD (n - d).toNat default) else .mk 1 (n - args.length) []) else .mk k n (flSL args k d 0 ks)
def flSL (args : List Tm) : Int → Int → Nat → List Tm → List Tm | _, _, _, [] => [] | k, d, i, t :: ts => flS args (d + under k i) t :: flSL args k d (i + 1) ts
end

theorem flSL_append (args : List Tm) (k d : Int) (us : List Tm) : ∀ (ts : List Tm) (i : Nat), flSL args k d i (ts ++ us) = flSL args k d i ts ++ flSL args k d (i + ts.length) us
  | [], i => by simp [flSL]
  | t :: ts, i => by rw [List.cons_append, flSL, flSL, flSL_append args k d us ts (i + 1), List.cons_append, List.length_cons, show i + 1 + ts.length = i + (ts.length + 1) from by omega]
theorem flSL_length (args : List Tm) (k d : Int) : ∀ (ts : List Tm) (i : Nat), (flSL args k d i ts).length = ts.length
  | [], i => by simp [flSL]
  | t :: ts, i => by rw [flSL, List.length_cons, List.length_cons, flSL_length args k d ts (i + 1)]
theorem flSL_take (args : List Tm) (k d : Int) {ks : List Tm} {j : Nat} (hj : j < ks.length) : flSL args k d 0 (ks.take (j + 1)) = flSL args k d 0 (ks.take j) ++ [flS args (d + under k j) ks[j]] := by
  rw [List.take_succ_eq_append_getElem hj, flSL_append, List.length_take, Nat.min_eq_left (Nat.le_of_lt hj), Nat.zero_add, flSL, flSL]

set_option maxHeartbeats 2000000 in
set_option maxRecDepth 100000 in
theorem sFill_any (args : List Tm) (hal : args.length ≤ 1000) (has : ∀ t, t ∈ args → shape 30 t = true) (haz : sizes args ≤ 1000000000) (N : Nat) : ∀ (k n : Int) (ks : List Tm) (A : Option Addr) (c : Nat) (B : Option Addr) (cb : Nat) (cut : Int) (q : Nat) (w : World), sizes ks < N → sizes ks ≤ 1000000000 → shape q (.mk k n ks) = true → 0 ≤ cut → cut + q ≤ 900 → Rd w A 0 ks → Rd w B 0 args →
    ∀ (k2 n2 : Int) (ks2 : List Tm), flS args cut (.mk k n ks) = .mk k2 n2 ks2 →
    Calls Try.prog 59 #[.agg #[.int .i64 k, .int .i64 n, .slice A ks.length c], .slice B args.length cb, .int .i64 cut] w (GotT w k2 n2 ks2) := by
  induction N with
  | zero => intro k n ks A c B cb cut q w hN; exact absurd hN (Nat.not_lt_zero _)
  | succ N ih =>
  intro k n ks A c B cb cut q w hN hM hsh hc0 hcq hr hrB kr nr ksr hfl
  have hlen := length_le_sizes ks
  have has' := hide has
  clear has
  obtain ⟨q, rfl⟩ : ∃ q', q = q' + 1 := by cases q with | zero => simp [shape] at hsh | succ q => exact ⟨q, rfl⟩
  obtain ⟨ha, hm1, hm2, hkids⟩ := (shape_split q k n ks).1 hsh
  rw [flS] at hfl
  by_cases hk : k = 1
  · subst hk
    have hks : ks = [] := by
      have h0 : arity 1 = 0 := rfl
      rw [h0] at ha
      exact List.eq_nil_of_length_eq_zero (by omega)
    subst hks
    have h20 : mostN 1 = 20 := rfl
    rw [h20] at hm2
    clear hkids hsh ha h20
    by_cases hcn : cut ≤ n
    · rw [if_pos ⟨rfl, hcn⟩] at hfl
      have q0 : decide (cut ≤ n) = true := by simpa using hcn
      by_cases hlt0 : n < cut + args.length
      · rw [if_pos hlt0] at hfl
        have q2 : decide (n < cut + (args.length : Int)) = true := by simpa using hlt0
        obtain ⟨j, hj⟩ : ∃ j : Nat, n = cut + (j : Int) := ⟨(n - cut).toNat, by omega⟩
        have hsub : n - cut = (j : Int) := by omega
        have hlt : j < args.length := by omega
        obtain ⟨b0, off, k', n', ks', A', c', rfl, hkj, hc1, hc2, hc3, hl', hr'⟩ := hrB.at_ hlt
        have hbl := World.block_lt_of_cell? _ _ hc1
        have hs1 := has'.out _ (List.getElem_mem hlt)
        have hz1 := sizes_le (List.getElem_mem hlt)
        have hgd : args.getD (n - cut).toNat default = .mk k' n' ks' := by rw [hsub]; simp [List.getD, List.getElem?_eq_getElem hlt, hkj]
        rw [hgd, shS] at hfl
        injection hfl with h1 h2 h3
        subst h1 h2 h3
        rw [hkj] at hs1 hz1
        simp only [Tm.size] at hz1
        have H3 := hide hkj
        have H4 := hide hs1
        have H5 := hide hlt0
        have H6 := hide hcn
        have H7 := hide hj
        clear hkj hs1 hgd hlt0 hcn hj
        obtain ⟨n2, hn2⟩ : ∃ n2, (if k' = 1 ∧ 0 ≤ n' then n' + cut else n') = n2 := ⟨_, rfl⟩
        have hn2' := hide hn2
        rw [hn2]
        clear hn2
        go_enter Try.func59, Try.ntmps59
        go_wp2_with (go_at_call 103; refine (sShift_any _ k' n' ks' A' c' cut 0 30 _ (Nat.lt_succ_self _) (by omega) H4.out (by have := H7.out; omega) (by omega) (by omega) ((hr'.alloc _).alloc _)).mono ?_; rw [hn2'.out]; rintro e w1 ⟨A1, c1, rfl, hl1, hf1, hb1⟩; have hT : Blk w1 (w.heap.size + 1) #[.int .i64 0, .int .i64 0, .slice none 0 0] := (Blk.new_ _ 29 _ (by simp)).keep hb1; obtain ⟨d0, d1, d2⟩ := hT.three; have e0 := hT.frozen 0; have e1 := hT.frozen 1; have e2 := hT.frozen 2; replace hf1 : Fresh (w.heap.size + 2) w1 A1 (shSL cut k' 0 0 ks') := hf1.mono (by simp); replace hb1 : Below w.heap.size w w1 := (((Below.refl _ _).alloc (Nat.le_refl _) _).alloc (by simp) _).trans (hb1.mono (by simp; omega)))
        refine bodyPost_ret (v := .agg #[.int .i64 k', .int .i64 n2, .slice A1 (shSL cut k' 0 0 ks').length c1]) (by simp [results, Try.results59, go_sem, d0, d1, d2]) rfl ⟨A1, c1, by simp, hl1, ?_, ?_⟩
        · exact (((hf1.setCell (by simp) _).setCell (by simp) _).setCell (by simp) _).mono (by omega)
        · exact ((hb1.setCell (by simp) _).setCell (by simp) _).setCell (by simp) _
      · rw [if_neg hlt0] at hfl
        have q2 : decide (n < cut + (args.length : Int)) = false := by simpa using hlt0
        injection hfl with h1 h2 h3
        subst h1 h2 h3
        have H5 := hide hlt0
        have H6 := hide hcn
        clear hlt0 hcn
        go_enter Try.func59, Try.ntmps59
        go_wp2_with (go_at_call 104; refine (sLeaf_any _ _ _).mono ?_; rintro e w1 ⟨rfl, hb1⟩; have hT : Blk w1 (w.heap.size + 1) #[.int .i64 0, .int .i64 0, .slice none 0 0] := (Blk.new_ _ 29 _ (by simp)).keep hb1; obtain ⟨d0, d1, d2⟩ := hT.three; have e0 := hT.frozen 0; have e1 := hT.frozen 1; have e2 := hT.frozen 2; replace hb1 : Below w.heap.size w w1 := (((Below.refl _ _).alloc (Nat.le_refl _) _).alloc (by simp) _).trans (hb1.mono (by simp; omega)))
        refine bodyPost_ret (v := .agg #[.int .i64 1, .int .i64 (n - args.length), .slice none 0 0]) (by simp [results, Try.results59, go_sem, d0, d1, d2]) rfl ⟨none, 0, by simp, by simp, Fresh.nil, ?_⟩
        exact ((hb1.setCell (by simp) _).setCell (by simp) _).setCell (by simp) _
    · rw [if_neg (by rintro ⟨-, h⟩; exact hcn h)] at hfl
      injection hfl with h1 h2 h3
      subst h1 h2 h3
      have q0 : decide (cut ≤ n) = false := by simpa using hcn
      go_enter Try.func59, Try.ntmps59
      go_wp2_with fail
      go_loopw [9] (fun i wr => i = .int .i64 0 ∧ Blk wr (w.heap.size + 1 + 1) #[.int .i64 1, .int .i64 (n), .slice none 0 0] ∧ Blk wr (w.heap.size + 1) #[.int .i64 0, .int .i64 0, .slice none 0 0] ∧ Blk wr w.heap.size #[.int .i64 1, .int .i64 n, .slice A 0 c] ∧ Below w.heap.size w wr)
        (fun _ _ => 0)
      case atStart => exact ⟨rfl, Blk.new_ _ _ _ (by simp), (Blk.new_ _ _ _ (by simp)).alloc _, ((Blk.new_ _ _ _ rfl).alloc _).alloc _, (((Below.refl _ _).alloc (by simp) _).alloc (by simp) _).alloc (by simp; omega) _⟩
      case round =>
        obtain ⟨rfl, hB3, hB2, hB1, hb⟩ := hrel
        have b2 := hB1.at_ (i := 2) rfl
        have c0 : wr.cell? ⟨w.heap.size + 1 + 1, 0, none⟩ = some (.int .i64 1) := hB3.at_ rfl
        have c1 : wr.cell? ⟨w.heap.size + 1 + 1, 1, none⟩ = some (.int .i64 (n)) := hB3.at_ rfl
        have c2 : wr.cell? ⟨w.heap.size + 1 + 1, 2, none⟩ = some (.slice none 0 0) := hB3.at_ rfl
        have d0 : wr.cell? ⟨w.heap.size + 1, 0, none⟩ = some (.int .i64 0) := hB2.at_ rfl
        have d1 : wr.cell? ⟨w.heap.size + 1, 1, none⟩ = some (.int .i64 0) := hB2.at_ rfl
        have d2 : wr.cell? ⟨w.heap.size + 1, 2, none⟩ = some (.slice none 0 0) := hB2.at_ rfl
        have e0 := hB2.frozen 0
        have e1 := hB2.frozen 1
        have e2 := hB2.frozen 2
        go_wp2_with fail
        refine bodyPost_ret (v := .agg #[.int .i64 1, .int .i64 (n), .slice none 0 0]) (by simp [results, Try.results59, go_sem, d0, d1, d2]) rfl ⟨none, 0, by simp [flSL], by simp [flSL], ?_, ?_⟩
        · simpa [flSL] using (Fresh.nil : Fresh w.heap.size _ none [])
        · exact ((hb.setCell (by simp) _).setCell (by simp) _).setCell (by simp) _
  · have hn : ¬ (k = 1 ∧ cut ≤ n) := by rintro ⟨h, -⟩; exact hk h
    rw [if_neg hn] at hfl
    injection hfl with h1 h2 h3
    subst h1 h2 h3
    have hkids' := hide hkids
    have hm2' := hide hm2
    clear hkids ha hsh hm2
    have q1 : (k == 1) = false := by simpa using hk
    clear hn hk
    go_enter Try.func59, Try.ntmps59
    go_wp2_with fail
    go_loopw [9] (fun i wr => ∃ (j : Nat) (v : Value), j ≤ ks.length ∧ i = .int .i64 j ∧ Part (w.heap.size + 3) wr v (flSL args k cut 0 (ks.take j)) ∧ Blk wr (w.heap.size + 1 + 1) #[.int .i64 k, .int .i64 (n), v] ∧ Blk wr (w.heap.size + 1) #[.int .i64 0, .int .i64 0, .slice none 0 0] ∧ Blk wr w.heap.size #[.int .i64 k, .int .i64 n, .slice A ks.length c] ∧ Below w.heap.size w wr)
      (fun i _ => ks.length - (intOf i).toNat)
    case atStart => exact ⟨0, _, Nat.zero_le _, rfl, Part.nil, Blk.new_ _ _ _ (by simp), (Blk.new_ _ _ _ (by simp)).alloc _, ((Blk.new_ _ _ _ rfl).alloc _).alloc _, (((Below.refl _ _).alloc (by simp) _).alloc (by simp) _).alloc (by simp; omega) _⟩
    case round =>
      obtain ⟨j, v, hj, rfl, hp, hB3, hB2, hB1, hb⟩ := hrel
      have c12 := hB1.at_ (i := 2) rfl
      by_cases hlt : j < ks.length
      · obtain ⟨b, off, k', n', ks', A', c', rfl, hkj, hc1, hc2, hc3, hl', hr'⟩ := (hr.below hb).at_ hlt
        have hsz := sizes_le (List.getElem_mem hlt)
        have hsk := hkids'.out _ (List.getElem_mem hlt)
        rw [hkj] at hsz hsk
        simp only [Tm.size] at hsz
        have H3 := hide hkj
        have H4 := hide hsk
        clear hkj hsk
        have hz := hB3.lt
        obtain ⟨k2, n2, ks2, hct⟩ : ∃ k2 n2 ks2, flS args (cut + under k j) (.mk k' n' ks') = .mk k2 n2 ks2 := tm_eta _
        have hct' := hide hct
        clear hct
        go_wp2_with fail
        have x2 := hB3.rule (i := 2) rfl
        have b0 := hB1.rule (i := 0) rfl
        have b2 := hB1.rule (i := 2) rfl
        have y0 := rule_of hc1
        have y1 := rule_of hc2
        have y2 := rule_of hc3
        have hun := under_le k j
        refine wp_region_firstY (fun w' => Below wr.heap.size wr w') [0, 1, 2, 3, 4, 5, 6, 7, 8, 9, 10, 11, 12, 13] [14, 15] [16, 17, 18] [_, _, _, _, _, _, _, _, _, _, _, _, _, _] [_, _] [_, _, _] (by kernel_rfl) (by kernel_rfl) rfl rfl rfl (fun _ _ d _ _ h => by cases d <;> exact h) (Below.refl _ _).drew ?_
        repeat (first | ((refine takeY_skip (a' := ?_) ?_ ?_ ?_); (rotate_left); (· (simp [Region.wanted, yielded]; done)); (· (simp only [List.getElem_toArray, List.getElem_cons_zero, List.getElem_cons_succ, Act.put, List.setIfInBounds_toArray, List.set_cons_zero, List.set_cons_succ]; exact rfl))) | ((refine takeY_step (v := ?_) (a' := ?_) ?_ ?_ ?_ ?_); (rotate_left 2); (· (simp [Region.wanted, yielded]; done)); (· (intro w' hS'; go_simp; try (with_reducible rfl))); (· (simp only [List.getElem_toArray, List.getElem_cons_zero, List.getElem_cons_succ, Act.put, List.setIfInBounds_toArray, List.set_cons_zero, List.set_cons_succ]; exact rfl))) | ((refine takeY_call (v := ?_) (a' := ?_) 105 ?_ ?_ ?_ ?_ ?_ ?_); (rotate_left 3); (· (simp [Region.wanted, yielded]; done)); (· (intro w' hS'; go_simp; try (with_reducible rfl))); (· (intro w' hS'; exact sUnder_any _ _ _)); (· (simp only [List.getElem_toArray, List.getElem_cons_zero, List.getElem_cons_succ, Act.put, List.setIfInBounds_toArray, List.set_cons_zero, List.set_cons_succ]; exact rfl))))
        refine takeY_nil (then_cons ?_)
        go_wp2_with (go_at_call 59; refine (ih k' n' ks' A' c' B cb (cut + under k j) q _ (by omega) (by omega) H4.out (by omega) (by omega) hr'.drew (hrB.below hb).drew k2 n2 ks2 hct'.out).mono ?_; rintro e w1 ⟨A1, c1, rfl, hl1, hf1, hb1⟩)
        have hx1 : Below wr.heap.size wr w1 := (Below.refl _ _).drew.trans hb1
        refine mid_intro hx1 (then_cons ?_)
        go_wp2_with fail
        refine mid_intro (hx1.alloc hx1.size _) (then_nil ?_)
        refine wpList_append_built (B := w.heap.size + 3) (m := j) hp.drew hb1 (by simp; omega) hf1 hl1 (by rw [flSL_length]; simp; omega) (by omega) rfl (.tmp 54) (.tmp 68) rfl rfl rfl ?_
        intro A2 c2 w2 hp2 hb2 hg2
        have q3 : Blk w2 (w.heap.size + 1 + 1) #[.int .i64 k, .int .i64 (n), v] := (hB3.below hx1 (by omega)).below hb2 (by omega)
        have q2 : Blk w2 (w.heap.size + 1) #[.int .i64 0, .int .i64 0, .slice none 0 0] := (hB2.below hx1 (by omega)).below hb2 (by omega)
        have q1' : Blk w2 w.heap.size #[.int .i64 k, .int .i64 n, .slice (some ⟨b, off, none⟩) ks.length c] := (hB1.below hx1 (by omega)).below hb2 (by omega)
        have c3 : w2.cell? ⟨w.heap.size + 1 + 1, 2, none⟩ = some v := q3.at_ rfl
        have z3 := q3.frozen 2
        have hbf : Below w.heap.size w w2 := (hb.trans (hx1.mono (by omega))).trans (hb2.mono (by omega))
        clear x2 y0 y1 y2 b0 b2
        go_wp2_with fail
        go_roundw
        case rel => exact ⟨j + 1, _, by omega, by go_num, by rw [flSL_take args k cut hlt, H3.out, hct'.out]; exact hp2.setCell (by simp) _, q3.set_ 2 _, q2.far (by simp) _, q1'.far (by simp; omega) _, hbf.setCell (by simp; omega) _⟩
        case measure => simp [intOf]; omega
      · have hjl : j = ks.length := by omega
        subst hjl
        rw [List.take_length] at hp
        obtain ⟨Ar, cr, rfl, hfr⟩ := hp.fresh
        have c0 : wr.cell? ⟨w.heap.size + 1 + 1, 0, none⟩ = some (.int .i64 k) := hB3.at_ rfl
        have c1 : wr.cell? ⟨w.heap.size + 1 + 1, 1, none⟩ = some (.int .i64 (n)) := hB3.at_ rfl
        have c2 : wr.cell? ⟨w.heap.size + 1 + 1, 2, none⟩ = some (.slice Ar (flSL args k cut 0 ks).length cr) := hB3.at_ rfl
        have d0 : wr.cell? ⟨w.heap.size + 1, 0, none⟩ = some (.int .i64 0) := hB2.at_ rfl
        have d1 : wr.cell? ⟨w.heap.size + 1, 1, none⟩ = some (.int .i64 0) := hB2.at_ rfl
        have d2 : wr.cell? ⟨w.heap.size + 1, 2, none⟩ = some (.slice none 0 0) := hB2.at_ rfl
        have e0 := hB2.frozen 0
        have e1 := hB2.frozen 1
        have e2 := hB2.frozen 2
        go_wp2_with fail
        refine bodyPost_ret (v := .agg #[.int .i64 k, .int .i64 (n), .slice Ar (flSL args k cut 0 ks).length cr]) (by simp [results, Try.results59, go_sem, d0, d1, d2]) rfl ⟨Ar, cr, rfl, by rw [flSL_length]; omega, ?_, ?_⟩
        · exact (((hfr.setCell (by simp) _).setCell (by simp) _).setCell (by simp) _).mono (by omega)
        · exact ((hb.setCell (by simp) _).setCell (by simp) _).setCell (by simp) _
end Go.Proofs.Ytefifcmieicnlaa
