/-
  Contracts of the functions that the law reaches, and plain lemmas. No condition.
-/
import Derived.Test.YthgmofdfecioaaaGreatDoorK3
import Derived.Test.YthgmofdfecioaaaGreatDoorK6
import Derived.Test.YthgmofdfecioaaaGreatDoorK7
import Derived.Test.YthgmofdfecioaaaGreatDoorK14
namespace Go.Proofs.YthgmofdfecioaaaGreatDoor
set_option linter.unusedSimpArgs false
set_option linter.unusedVariables false
open Go.RowKit
open Go.RowKit
mutual
def sbS (u : Tm) : Int → Int → Tm → Tm
  | x, d, .mk k n ks => if k = 1 ∧ n = x then shS d 0 u else .mk k (if k = 1 ∧ x < n then n - 1 else n) (sbSL u k x d 0 ks)
def sbSL (u : Tm) : Int → Int → Int → Nat → List Tm → List Tm | _, _, _, _, [] => [] | k, x, d, i, t :: ts => sbS u (x + under k i) (d + under k i) t :: sbSL u k x d (i + 1) ts
end
theorem sbSL_append (u : Tm) (k x d : Int) (us : List Tm) : ∀ (ts : List Tm) (i : Nat), sbSL u k x d i (ts ++ us) = sbSL u k x d i ts ++ sbSL u k x d (i + ts.length) us
  | [], i => by simp [sbSL]
  | t :: ts, i => by rw [List.cons_append, sbSL, sbSL, sbSL_append u k x d us ts (i + 1), List.cons_append, List.length_cons, show i + 1 + ts.length = i + (ts.length + 1) from by omega]
theorem sbSL_length (u : Tm) (k x d : Int) : ∀ (ts : List Tm) (i : Nat), (sbSL u k x d i ts).length = ts.length
  | [], i => by simp [sbSL]
  | t :: ts, i => by rw [sbSL, List.length_cons, List.length_cons, sbSL_length u k x d ts (i + 1)]
theorem sbSL_take (u : Tm) (k x d : Int) {ks : List Tm} {j : Nat} (hj : j < ks.length) : sbSL u k x d 0 (ks.take (j + 1)) = sbSL u k x d 0 (ks.take j) ++ [sbS u (x + under k j) (d + under k j) ks[j]] := by
  rw [List.take_succ_eq_append_getElem hj, sbSL_append, List.length_take, Nat.min_eq_left (Nat.le_of_lt hj), Nat.zero_add, sbSL, sbSL]
/-- its size -/
theorem sbS_size (u : Tm) {m : Nat} (hm : u.size ≤ m) (h1 : 1 ≤ m) (t : Tm) : ∀ x d, (sbS u x d t).size ≤ t.size * m := by
  refine (Tm.ind2 (p := fun t => ∀ x d, (sbS u x d t).size ≤ t.size * m) (q := fun ts => ∀ k x d i, sizes (sbSL u k x d i ts) ≤ sizes ts * m) ?_ ?_ ?_).1 t
  · intro k n ks ih x d
    rw [sbS]
    split
    · rw [shS_size, Tm.size, Nat.add_mul]
      omega
    · have := ih k x d 0
      rw [Tm.size, Tm.size, Nat.add_mul]
      omega
  · intro k x d i; simp [sbSL, sizes]
  · intro t ts h1 h2 k x d i
    have a := h1 (x + under k i) (d + under k i)
    have b := h2 k x d (i + 1)
    rw [sbSL, sizes, sizes, Nat.add_mul]
    omega
set_option maxHeartbeats 2000000 in
set_option maxRecDepth 100000 in
theorem sSubst_any (ku nu : Int) (us : List Tm) (hus : shape 30 (.mk ku nu us) = true) (huz : sizes us ≤ 1000000) (N : Nat) : ∀ (k n : Int) (ks : List Tm) (A : Option Addr) (c : Nat) (U : Option Addr) (cu : Nat) (x d : Int) (q : Nat) (w : World), sizes ks < N → sizes ks ≤ 1000000 → shape q (.mk k n ks) = true → 0 ≤ x → x + q ≤ 900 → 0 ≤ d → d + q ≤ 900 → Rd w A 0 ks → Rd w U 0 us →
    ∀ (k2 n2 : Int) (ks2 : List Tm), sbS (.mk ku nu us) x d (.mk k n ks) = .mk k2 n2 ks2 →
    Calls Tryz.prog 82 #[.agg #[.int .i64 k, .int .i64 n, .slice A ks.length c], .int .i64 x, .agg #[.int .i64 ku, .int .i64 nu, .slice U us.length cu], .int .i64 d] w (GotT w k2 n2 ks2) := by
  induction N with
  | zero => intro k n ks A c U cu x d q w hN; exact absurd hN (Nat.not_lt_zero _)
  | succ N ih =>
  intro k n ks A c U cu x d q w hN hM hsh hx0 hxq hd0 hdq hr hru kr nr ksr hfl
  have hlen := length_le_sizes ks
  obtain ⟨q, rfl⟩ : ∃ q', q = q' + 1 := by cases q with | zero => simp [shape] at hsh | succ q => exact ⟨q, rfl⟩
  obtain ⟨ha, hm1, hm2, hkids⟩ := (shape_split q k n ks).1 hsh
  rw [sbS] at hfl
  have hus' := hide hus
  by_cases hk : k = 1
  · subst hk
    have hks : ks = [] := by
      have h0 : arity 1 = 0 := rfl
      rw [h0] at ha
      exact List.eq_nil_of_length_eq_zero (by omega)
    subst hks
    have h20 : mostN 1 = 20 := rfl
    rw [h20] at hm2
    clear hkids hsh ha h20
    by_cases hnx : n = x
    · rw [if_pos ⟨rfl, hnx⟩, shS] at hfl
      injection hfl with h1 h2 h3
      subst h1 h2 h3
      obtain ⟨n2, hn2⟩ : ∃ n2, (if ku = 1 ∧ 0 ≤ nu then nu + d else nu) = n2 := ⟨_, rfl⟩
      have hn2' := hide hn2
      rw [hn2]
      clear hn2
      subst hnx
      go_enter Tryz.func82, Tryz.ntmps82
      go_wp2_with (go_at_call 104; refine (sShift_any _ ku nu us U cu d 0 30 _ (Nat.lt_succ_self _) (by omega) hus'.out (by omega) (by omega) (by omega) (((hru.alloc _).alloc _).alloc _)).mono ?_; rw [hn2'.out]; rintro e w1 ⟨A1, c1, rfl, hl1, hf1, hb1⟩; have hT : Blk w1 (w.heap.size + 1 + 1) #[.int .i64 0, .int .i64 0, .slice none 0 0] := (Blk.new_ _ 27 _ (by simp)).keep hb1; obtain ⟨d0, d1, d2⟩ := hT.three; have e0 := hT.frozen 0; have e1 := hT.frozen 1; have e2 := hT.frozen 2; replace hf1 : Fresh (w.heap.size + 3) w1 A1 (shSL d ku 0 0 us) := hf1.mono (by simp); replace hb1 : Below w.heap.size w w1 := ((((Below.refl _ _).alloc (Nat.le_refl _) _).alloc (by simp) _).alloc (by simp; omega) _).trans (hb1.mono (by simp; omega)))
      refine bodyPost_ret (v := .agg #[.int .i64 ku, .int .i64 n2, .slice A1 (shSL d ku 0 0 us).length c1]) (by simp [results, Tryz.results82, go_sem, d0, d1, d2]) rfl ⟨A1, c1, by simp, hl1, ?_, ?_⟩
      · exact (((hf1.setCell (by simp) _).setCell (by simp) _).setCell (by simp) _).mono (by omega)
      · exact ((hb1.setCell (by simp; omega) _).setCell (by simp; omega) _).setCell (by simp; omega) _
    · rw [if_neg (by rintro ⟨-, h⟩; exact hnx h)] at hfl
      have q0 : (n == x) = false := by simpa using hnx
      by_cases hxn : x < n
      · rw [if_pos ⟨rfl, hxn⟩] at hfl
        injection hfl with h1 h2 h3
        subst h1 h2 h3
        have q2 : decide (x < n) = true := by simpa using hxn
        clear hnx
        go_enter Tryz.func82, Tryz.ntmps82
        go_wp2_with fail
        go_loopw [10] (fun i wr => i = .int .i64 0 ∧ Blk wr (w.heap.size + 1 + 1 + 1) #[.int .i64 1, .int .i64 (n - 1), .slice none 0 0] ∧ Blk wr (w.heap.size + 1 + 1) #[.int .i64 0, .int .i64 0, .slice none 0 0] ∧ Blk wr w.heap.size #[.int .i64 1, .int .i64 n, .slice A 0 c] ∧ Below w.heap.size w wr)
          (fun _ _ => 0)
        case atStart => exact ⟨rfl, Blk.new_ _ _ _ (by simp), (Blk.new_ _ _ _ (by simp)).alloc _, (((Blk.new_ _ _ _ rfl).alloc _).alloc _).alloc _, ((((Below.refl _ _).alloc (by simp) _).alloc (by simp) _).alloc (by simp; omega) _).alloc (by simp; omega) _⟩
        case round =>
          obtain ⟨rfl, hB3, hB2, hB1, hb⟩ := hrel
          have b2 := hB1.at_ (i := 2) rfl
          obtain ⟨c0, c1, c2⟩ := hB3.three
          obtain ⟨d0, d1, d2⟩ := hB2.three
          have e0 := hB2.frozen 0
          have e1 := hB2.frozen 1
          have e2 := hB2.frozen 2
          go_wp2_with fail
          refine bodyPost_ret (v := .agg #[.int .i64 1, .int .i64 (n - 1), .slice none 0 0]) (by simp [results, Tryz.results82, go_sem, d0, d1, d2]) rfl ⟨none, 0, by simp [sbSL], by simp [sbSL], ?_, ?_⟩
          · simpa [sbSL] using (Fresh.nil : Fresh w.heap.size _ none [])
          · exact ((hb.setCell (by simp; omega) _).setCell (by simp; omega) _).setCell (by simp; omega) _
      · rw [if_neg (by rintro ⟨-, h⟩; exact hxn h)] at hfl
        injection hfl with h1 h2 h3
        subst h1 h2 h3
        have q2 : decide (x < n) = false := by simpa using hxn
        clear hnx
        go_enter Tryz.func82, Tryz.ntmps82
        go_wp2_with fail
        go_loopw [10] (fun i wr => i = .int .i64 0 ∧ Blk wr (w.heap.size + 1 + 1 + 1) #[.int .i64 1, .int .i64 (n), .slice none 0 0] ∧ Blk wr (w.heap.size + 1 + 1) #[.int .i64 0, .int .i64 0, .slice none 0 0] ∧ Blk wr w.heap.size #[.int .i64 1, .int .i64 n, .slice A 0 c] ∧ Below w.heap.size w wr)
          (fun _ _ => 0)
        case atStart => exact ⟨rfl, Blk.new_ _ _ _ (by simp), (Blk.new_ _ _ _ (by simp)).alloc _, (((Blk.new_ _ _ _ rfl).alloc _).alloc _).alloc _, ((((Below.refl _ _).alloc (by simp) _).alloc (by simp) _).alloc (by simp; omega) _).alloc (by simp; omega) _⟩
        case round =>
          obtain ⟨rfl, hB3, hB2, hB1, hb⟩ := hrel
          have b2 := hB1.at_ (i := 2) rfl
          obtain ⟨c0, c1, c2⟩ := hB3.three
          obtain ⟨d0, d1, d2⟩ := hB2.three
          have e0 := hB2.frozen 0
          have e1 := hB2.frozen 1
          have e2 := hB2.frozen 2
          go_wp2_with fail
          refine bodyPost_ret (v := .agg #[.int .i64 1, .int .i64 (n), .slice none 0 0]) (by simp [results, Tryz.results82, go_sem, d0, d1, d2]) rfl ⟨none, 0, by simp [sbSL], by simp [sbSL], ?_, ?_⟩
          · simpa [sbSL] using (Fresh.nil : Fresh w.heap.size _ none [])
          · exact ((hb.setCell (by simp; omega) _).setCell (by simp; omega) _).setCell (by simp; omega) _
  · have hn : ¬ (k = 1 ∧ n = x) := by rintro ⟨h, -⟩; exact hk h
    rw [if_neg hn, if_neg (by rintro ⟨h, -⟩; exact hk h)] at hfl
    injection hfl with h1 h2 h3
    subst h1 h2 h3
    have hkids' := hide hkids
    have hm2' := hide hm2
    clear hkids ha hsh hm2
    have q1 : (k == 1) = false := by simpa using hk
    clear hn hk
    go_enter Tryz.func82, Tryz.ntmps82
    go_wp2_with fail
    go_loopw [10, 11] (fun i _ wr => ∃ (j : Nat) (v : Value), j ≤ ks.length ∧ i = .int .i64 j ∧ Part (w.heap.size + 4) wr v (sbSL (.mk ku nu us) k x d 0 (ks.take j)) ∧ Blk wr (w.heap.size + 1 + 1 + 1) #[.int .i64 k, .int .i64 (n), v] ∧ Blk wr (w.heap.size + 1 + 1) #[.int .i64 0, .int .i64 0, .slice none 0 0] ∧ Blk wr (w.heap.size + 1) #[.int .i64 ku, .int .i64 nu, .slice U us.length cu] ∧ Blk wr w.heap.size #[.int .i64 k, .int .i64 n, .slice A ks.length c] ∧ Below w.heap.size w wr)
      (fun i _ _ => ks.length - (intOf i).toNat)
    case atStart => exact ⟨0, _, Nat.zero_le _, rfl, Part.nil, Blk.new_ _ _ _ (by simp), (Blk.new_ _ _ _ (by simp)).alloc _, ((Blk.new_ _ _ _ (by simp)).alloc _).alloc _, (((Blk.new_ _ _ _ rfl).alloc _).alloc _).alloc _, ((((Below.refl _ _).alloc (by simp) _).alloc (by simp) _).alloc (by simp; omega) _).alloc (by simp; omega) _⟩
    case round =>
      obtain ⟨j, v, hj, rfl, hp, hB3, hB2, hBu, hB1, hb⟩ := hrel
      have c12 := hB1.at_ (i := 2) rfl
      have c10 := hB1.at_ (i := 0) rfl
      by_cases hlt : j < ks.length
      · obtain ⟨b, off, k', n', ks', A', c', rfl, hkj, hc1, hc2, hc3, hl', hr'⟩ := (hr.below hb).at_ hlt
        have hsz := sizes_le (List.getElem_mem hlt)
        have hsk := hkids'.out _ (List.getElem_mem hlt)
        rw [hkj] at hsz hsk
        simp only [Tm.size] at hsz
        have H3 := hide hkj
        have H4 := hide hsk
        clear hkj hsk
        have hz := hB3.lt
        obtain ⟨k2, n2, ks2, hct⟩ : ∃ k2 n2 ks2, sbS (.mk ku nu us) (x + under k j) (d + under k j) (.mk k' n' ks') = .mk k2 n2 ks2 := tm_eta _
        have hct' := hide hct
        clear hct
        have hun := under_le k j
        go_wp2_with (go_at_call 105; refine (sUnder_any _ _ _).mono ?_; rintro e w9 ⟨rfl, rfl⟩)
        have x2 := hB3.rule (i := 2) rfl
        have a0 := hBu.rule (i := 0) rfl
        have a1 := hBu.rule (i := 1) rfl
        have a2 := hBu.rule (i := 2) rfl
        have b2 := hB1.rule (i := 2) rfl
        have y0 := rule_of hc1
        have y1 := rule_of hc2
        have y2 := rule_of hc3
        refine wp_region_firstY (fun w' => Below wr.heap.size wr w') [0, 1, 2, 3, 4, 5, 6, 7, 8, 9, 10, 11, 12, 13] [14, 15] [16, 17, 18] [_, _, _, _, _, _, _, _, _, _, _, _, _, _] [_, _] [_, _, _] (by kernel_rfl) (by kernel_rfl) rfl rfl rfl (fun _ _ d _ _ h => by cases d <;> exact h) (Below.refl _ _).drew ?_
        repeat (first | ((refine takeY_skip (a' := ?_) ?_ ?_ ?_); (rotate_left); (· (simp [Region.wanted, yielded]; done)); (· (simp only [List.getElem_toArray, List.getElem_cons_zero, List.getElem_cons_succ, Act.put, List.setIfInBounds_toArray, List.set_cons_zero, List.set_cons_succ]; exact rfl))) | ((refine takeY_step (v := ?_) (a' := ?_) ?_ ?_ ?_ ?_); (rotate_left 2); (· (simp [Region.wanted, yielded]; done)); (· (intro w' hS'; go_simp; try (with_reducible rfl))); (· (simp only [List.getElem_toArray, List.getElem_cons_zero, List.getElem_cons_succ, Act.put, List.setIfInBounds_toArray, List.set_cons_zero, List.set_cons_succ]; exact rfl))))
        refine takeY_nil (then_cons ?_)
        go_wp2_with (go_at_call 82; refine (ih k' n' ks' A' c' U cu (x + under k j) (d + under k j) q _ (by omega) (by omega) H4.out (by omega) (by omega) (by omega) (by omega) hr'.drew (hru.below hb).drew k2 n2 ks2 hct'.out).mono ?_; rintro e w1 ⟨A1, c1, rfl, hl1, hf1, hb1⟩)
        have hx1 : Below wr.heap.size wr w1 := (Below.refl _ _).drew.trans hb1
        refine mid_intro hx1 (then_cons ?_)
        go_wp2_with fail
        refine mid_intro (hx1.alloc hx1.size _) (then_nil ?_)
        refine wpList_append_built (B := w.heap.size + 4) (m := j) hp.drew hb1 (by simp; omega) hf1 hl1 (by rw [sbSL_length]; simp; omega) (by omega) rfl (.tmp 54) (.tmp 68) rfl rfl rfl ?_
        intro A2 c2 w2 hp2 hb2 hg2
        have q3 : Blk w2 (w.heap.size + 1 + 1 + 1) #[.int .i64 k, .int .i64 (n), v] := (hB3.below hx1 (by omega)).below hb2 (by omega)
        have q2 : Blk w2 (w.heap.size + 1 + 1) #[.int .i64 0, .int .i64 0, .slice none 0 0] := (hB2.below hx1 (by omega)).below hb2 (by omega)
        have qu : Blk w2 (w.heap.size + 1) #[.int .i64 ku, .int .i64 nu, .slice U us.length cu] := (hBu.below hx1 (by omega)).below hb2 (by omega)
        have q1' : Blk w2 w.heap.size #[.int .i64 k, .int .i64 n, .slice (some ⟨b, off, none⟩) ks.length c] := (hB1.below hx1 (by omega)).below hb2 (by omega)
        have c3 : w2.cell? ⟨w.heap.size + 1 + 1 + 1, 2, none⟩ = some v := q3.at_ rfl
        have z3 := q3.frozen 2
        have hbf : Below w.heap.size w w2 := (hb.trans (hx1.mono (by omega))).trans (hb2.mono (by omega))
        clear x2 y0 y1 y2 b2 a0 a1 a2
        go_wp2_with fail
        go_roundw
        case rel => exact ⟨j + 1, _, by omega, by go_num, by rw [sbSL_take _ k x d hlt, H3.out, hct'.out]; exact hp2.setCell (by simp) _, q3.set_ 2 _, q2.far (by simp) _, qu.far (by simp) _, q1'.far (by simp; omega) _, hbf.setCell (by simp; omega) _⟩
        case measure => simp [intOf]; omega
      · have hjl : j = ks.length := by omega
        subst hjl
        rw [List.take_length] at hp
        obtain ⟨Ar, cr, rfl, hfr⟩ := hp.fresh
        obtain ⟨c0, c1, c2⟩ := hB3.three
        obtain ⟨d0, d1, d2⟩ := hB2.three
        have e0 := hB2.frozen 0
        have e1 := hB2.frozen 1
        have e2 := hB2.frozen 2
        go_wp2_with fail
        refine bodyPost_ret (v := .agg #[.int .i64 k, .int .i64 (n), .slice Ar (sbSL (.mk ku nu us) k x d 0 ks).length cr]) (by simp [results, Tryz.results82, go_sem, d0, d1, d2]) rfl ⟨Ar, cr, rfl, by rw [sbSL_length]; omega, ?_, ?_⟩
        · exact (((hfr.setCell (by simp) _).setCell (by simp) _).setCell (by simp) _).mono (by omega)
        · exact ((hb.setCell (by simp; omega) _).setCell (by simp; omega) _).setCell (by simp; omega) _
open Go.RowKit
/-- the term of a number -/
def numT : Nat → Tm | 0 => .mk 7 0 [] | n + 1 => .mk 8 0 [numT n]
theorem numT_n (n : Nat) : (numT n).n = 0 := by cases n <;> rfl
/-- a row of new terms is a term's operands -/
theorem row_fresh {B g : Nat} {w : World} {us : List Tm} {xs : List Value} {f : List Nat} (h : OwX w us xs f) (hg : Blk w g xs.toArray) (hn : f.Nodup) (hf : ∀ b, b ∈ f → B ≤ b ∧ b ≠ g) (hB : B ≤ g) (hu : us ≠ []) : Fresh B w (some ⟨g, 0, none⟩) us := by
  obtain ⟨t, ht⟩ := hg
  have hl := h.length
  refine ⟨g :: f, .inr ⟨g, xs.toArray, t, f, hu, rfl, ht, rfl, ?_⟩, List.nodup_cons.2 ⟨fun hm => (hf g hm).2 rfl, hn⟩, fun b hb => ?_⟩
  · rw [show xs.toArray.toList = xs from rfl, List.take_of_length_le (by omega)]
    exact h
  · rcases List.mem_cons.1 hb with rfl | hb
    · exact hB
    · exact (hf b hb).1
set_option maxRecDepth 100000 in
theorem inode_any (k : Int) (v : Value) (hv : ∃ A l c, v = .slice A l c) (w : World) : Calls Tryz.prog 26 #[.int .i64 k, v] w fun e w' => e = .returned (.agg #[.int .i64 k, .int .i64 0, v]) ∧ Below w.heap.size w w' := by
  obtain ⟨A, l, c, rfl⟩ := hv
  go_enter Tryz.func26, Tryz.ntmps26
  go_wp2
  refine bodyPost_ret (v := .agg #[.int .i64 k, .int .i64 0, .slice A l c]) (by simp [results, Tryz.results26, go_sem]) rfl ⟨rfl, ?_⟩
  exact (Below.refl _ _).alloc (Nat.le_refl _) _
theorem isNumber_any (n : Int) (w : World) : Calls Tryz.prog 24 #[.int .i64 n] w fun e w' => e = .returned (.bool (decide (0 ≤ n) && decide (n ≤ 20))) ∧ w = w' := by
  go_enter Tryz.func24, Tryz.ntmps24
  go_wp2_with (go_at_call 36; refine (within_any _ _ _ _).mono ?_; rintro e w' ⟨rfl, rfl⟩)
  go_ret
  exact ⟨rfl, rfl⟩
set_option maxHeartbeats 4000000 in
set_option maxRecDepth 100000 in
theorem inumeral_any (m : Nat) (hm : m ≤ 1000) (w : World) : Calls Tryz.prog 27 #[.int .i64 m] w (GotT w (numT m).k 0 (numT m).ks) := by
  go_enter Tryz.func27, Tryz.ntmps27
  go_wp2_with (go_at_call 26; refine (inode_any 7 _ ⟨_, _, _, rfl⟩ _).mono ?_; rintro e w1 ⟨rfl, hb1⟩; have hZ := (Blk.new_ w 27 #[.int .i64 0, .int .i64 0, .slice none 0 0] rfl).keep hb1; have g1 : Below w.heap.size w w1 := ((Below.refl _ _).alloc (Nat.le_refl _) _).trans (hb1.mono (by simp)); have s1 := hZ.lt)
  go_loopw [0] (fun i wr => ∃ (j : Nat) (A : Option Addr) (c : Nat), j ≤ m ∧ i = .int .i64 ((m - j : Nat) : Int) ∧ Blk wr w1.heap.size #[.int .i64 (numT j).k, .int .i64 0, .slice A (numT j).ks.length c] ∧ (numT j).ks.length ≤ 1 ∧ Fresh (w1.heap.size + 1) wr A (numT j).ks ∧ Blk wr w.heap.size #[.int .i64 0, .int .i64 0, .slice none 0 0] ∧ Below w.heap.size w wr) (fun i _ => (intOf i).toNat)
  case atStart => exact ⟨0, none, 0, Nat.zero_le _, rfl, Blk.new_ _ 27 _ rfl, by simp [numT, Tm.ks], Fresh.nil, hZ.alloc _, g1.alloc (by omega) _⟩
  case round =>
    obtain ⟨j, A, c, hj, rfl, hT, hl, hf, hZr, hb⟩ := hrel
    obtain ⟨x0, x1, x2⟩ := hT.three
    have f0 := hT.frozen 0
    have f1 := hT.frozen 1
    have f2 := hT.frozen 2
    have lt := hT.lt
    by_cases hlt : j < m
    · have hq : decide ((0 : Int) < ((m - j : Nat) : Int)) = true := decide_eq_true (by omega)
      have hq2 : (0 : Int) < ((m - j : Nat) : Int) := by omega
      have he : ∃ kj ksj, numT j = .mk kj 0 ksj := by cases j <;> exact ⟨_, _, rfl⟩
      obtain ⟨kj, ksj, he⟩ := he
      have hnext : (numT (j + 1)).k = 8 ∧ (numT (j + 1)).ks = [.mk kj 0 ksj] := by rw [← he]; exact ⟨rfl, rfl⟩
      rw [he] at x0 x2 hT hl hf
      simp only [Tm.k, Tm.ks] at x0 x2 hT hl hf
      have he' := hide he
      obtain ⟨fp, hO, hnd, hge⟩ := hf
      have hOl := hO.lt
      clear he hnext
      have lz := hZr.lt
      go_wp2_with (go_at_call 26; refine (inode_any 8 _ ⟨_, _, _, rfl⟩ _).mono ?_; rintro e w2 ⟨rfl, hb2⟩; have hN := (Blk.new_ wr 27 #[.int .i64 kj, .int .i64 0, .slice A ksj.length c] rfl).keep hb2; replace hT := (hT.alloc (.cells #[.int .i64 kj, .int .i64 0, .slice A ksj.length c] 27)).keep hb2; have hO2 : Ow w2 A ksj fp := hO.frame (fun b hb => (hb2.block b (by have := hOl b hb; simp; omega)).trans (Below.heap_alloc wr _ b (hOl b hb))); replace hZr := (hZr.alloc (.cells #[.int .i64 kj, .int .i64 0, .slice A ksj.length c] 27)).keep hb2; clear x0 x1 x2 f0 f1 f2; have x0 := hT.three.1; have x1 := hT.three.2.1; have x2 := hT.three.2.2; have f0 := hT.frozen 0; have f1 := hT.frozen 1; have f2 := hT.frozen 2; have s2 : wr.heap.size + 1 ≤ w2.heap.size := (by have := hb2.size; simpa using this); have g2 : Below w.heap.size w w2 := (hb.alloc hb.size _).trans (hb2.mono (by have := hb.size; simp; omega)))
      have hfr : Fresh (w1.heap.size + 1) w2 (some ⟨wr.heap.size, 0, none⟩) [.mk kj 0 ksj] := row_fresh (OwX.one (OwT.iff.2 ⟨A, c, rfl, by omega, hO2⟩)) hN hnd (fun b hb => ⟨hge b hb, by have := hOl b hb; omega⟩) (by omega) (by simp)
      go_roundw
      case rel =>
        refine ⟨j + 1, some ⟨wr.heap.size, 0, none⟩, 1, by omega, by rw [show ((m - (j + 1) : Nat) : Int) = ((m - j : Nat) : Int) - 1 by omega], ((hT.set_ 0 _).set_ 1 _).set_ 2 _, by show 1 ≤ 1; omega, ?_, ((hZr.far (by simp; omega) _).far (by simp; omega) _).far (by simp; omega) _, ((g2.setCell (by simp; omega) _).setCell (by simp; omega) _).setCell (by simp; omega) _⟩
        show Fresh _ _ _ [numT j]
        rw [he'.out]
        exact ((hfr.setCell (by simp) _).setCell (by simp) _).setCell (by simp) _
      case measure => simp [intOf]; omega
    · obtain rfl : j = m := by omega
      have hq : decide ((0 : Int) < ((j - j : Nat) : Int)) = false := decide_eq_false (by omega)
      have hq2 : ¬ (0 : Int) < ((j - j : Nat) : Int) := by omega
      obtain ⟨d0, d1, d2⟩ := hZr.three
      have e0 := hZr.frozen 0
      have e1 := hZr.frozen 1
      have e2 := hZr.frozen 2
      have lz := hZr.lt
      go_wp2_with fail
      refine bodyPost_ret (v := .agg #[.int .i64 (numT j).k, .int .i64 0, .slice A (numT j).ks.length c]) (by simp [results, Tryz.results27, go_sem, d0, d1, d2]) rfl ⟨A, c, rfl, by omega, ?_, ((hb.setCell (by simp) _).setCell (by simp) _).setCell (by simp) _⟩
      exact (((hf.setCell (by simp; omega) _).setCell (by simp; omega) _).setCell (by simp; omega) _).mono (by omega)
set_option maxHeartbeats 4000000 in
set_option maxRecDepth 100000 in
theorem snumeral_any (m : Nat) (hm : m ≤ 1000) (w : World) : Calls Tryz.prog 54 #[.int .i64 m] w (GotT w (numT m).k 0 (numT m).ks) := by
  go_enter Tryz.func54, Tryz.ntmps54
  go_wp2_with (go_at_call 78; refine (sLeaf_any 7 0 _).mono ?_; rintro e w1 ⟨rfl, hb1⟩; have hZ := (Blk.new_ w 27 #[.int .i64 0, .int .i64 0, .slice none 0 0] rfl).keep hb1; have g1 : Below w.heap.size w w1 := ((Below.refl _ _).alloc (Nat.le_refl _) _).trans (hb1.mono (by simp)); have s1 := hZ.lt)
  go_loopw [4] (fun i wr => ∃ (j : Nat) (A : Option Addr) (c : Nat), j ≤ m ∧ i = .int .i64 j ∧ Blk wr w1.heap.size #[.int .i64 (numT j).k, .int .i64 0, .slice A (numT j).ks.length c] ∧ (numT j).ks.length ≤ 1 ∧ Fresh (w1.heap.size + 1) wr A (numT j).ks ∧ Blk wr w.heap.size #[.int .i64 0, .int .i64 0, .slice none 0 0] ∧ Below w.heap.size w wr) (fun i _ => m - (intOf i).toNat)
  case atStart => exact ⟨0, none, 0, Nat.zero_le _, rfl, Blk.new_ _ 27 _ rfl, by simp [numT, Tm.ks], Fresh.nil, hZ.alloc _, g1.alloc (by omega) _⟩
  case round =>
    obtain ⟨j, A, c, hj, rfl, hT, hl, hf, hZr, hb⟩ := hrel
    obtain ⟨x0, x1, x2⟩ := hT.three
    have f0 := hT.frozen 0
    have f1 := hT.frozen 1
    have f2 := hT.frozen 2
    have lt := hT.lt
    by_cases hlt : j < m
    · have he : ∃ kj ksj, numT j = .mk kj 0 ksj := by cases j <;> exact ⟨_, _, rfl⟩
      obtain ⟨kj, ksj, he⟩ := he
      rw [he] at x0 x2 hT hl hf
      simp only [Tm.k, Tm.ks] at x0 x2 hT hl hf
      have he' := hide he
      obtain ⟨fp, hO, hnd, hge⟩ := hf
      clear he
      have lz := hZr.lt
      go_wp2_with (go_at_call 32; refine (l1Node_any (B := w1.heap.size + 1) (us := [.mk kj 0 ksj]) 8 (by simp; omega) (OwX.one (OwT.iff.2 ⟨A, c, rfl, by omega, hO.frame (fun b hb => Below.heap_alloc wr _ b (hO.lt b hb))⟩)) hnd hge (by simp) _ 1 (Blk.new_ _ 27 _ rfl)).mono ?_; rintro e w2 ⟨A2, c2, rfl, hf2, hb2⟩; replace hT := (hT.alloc (.cells #[.int .i64 kj, .int .i64 0, .slice A ksj.length c] 27)).keep hb2; replace hZr := (hZr.alloc (.cells #[.int .i64 kj, .int .i64 0, .slice A ksj.length c] 27)).keep hb2; clear x0 x1 x2 f0 f1 f2; have x0 := hT.three.1; have x1 := hT.three.2.1; have x2 := hT.three.2.2; have f0 := hT.frozen 0; have f1 := hT.frozen 1; have f2 := hT.frozen 2; have s2 : wr.heap.size + 1 ≤ w2.heap.size := (by have := hb2.size; simpa using this); have g2 : Below w.heap.size w w2 := (hb.alloc hb.size _).trans (hb2.mono (by have := hb.size; simp; omega)))
      go_roundw
      case rel =>
        refine ⟨j + 1, A2, c2, by omega, by go_num, ((hT.set_ 0 _).set_ 1 _).set_ 2 _, by show 1 ≤ 1; omega, ?_, ((hZr.far (by simp; omega) _).far (by simp; omega) _).far (by simp; omega) _, ((g2.setCell (by simp; omega) _).setCell (by simp; omega) _).setCell (by simp; omega) _⟩
        show Fresh _ _ _ [numT j]
        rw [he'.out]
        exact ((hf2.setCell (by simp) _).setCell (by simp) _).setCell (by simp) _
      case measure => simp [intOf]; omega
    · obtain rfl : j = m := by omega
      obtain ⟨d0, d1, d2⟩ := hZr.three
      have e0 := hZr.frozen 0
      have e1 := hZr.frozen 1
      have e2 := hZr.frozen 2
      have lz := hZr.lt
      go_wp2_with fail
      refine bodyPost_ret (v := .agg #[.int .i64 (numT j).k, .int .i64 0, .slice A (numT j).ks.length c]) (by simp [results, Tryz.results54, go_sem, d0, d1, d2]) rfl ⟨A, c, rfl, by omega, ?_, ((hb.setCell (by simp) _).setCell (by simp) _).setCell (by simp) _⟩
      exact (((hf.setCell (by simp; omega) _).setCell (by simp; omega) _).setCell (by simp; omega) _).mono (by omega)
/-- what Numeral answers -/
def numO (n : Int) : Option Tm := if 0 ≤ n ∧ n ≤ 20 then some (numT n.toNat) else none
theorem tm_parts (t : Tm) : t = .mk t.k t.n t.ks := by cases t; rfl
set_option maxHeartbeats 2000000 in
set_option maxRecDepth 100000 in
theorem sNumeral_any (n : Int) (w : World) : Calls Tryz.prog 30 #[.int .i64 n] w (GotP w (numO n)) := by
  by_cases h : 0 ≤ n ∧ n ≤ 20
  · obtain ⟨m, rfl⟩ := Int.eq_ofNat_of_zero_le h.1
    have d1 : decide ((m : Int) < 0) = false := decide_eq_false (by omega)
    have d2 : decide ((20 : Int) < (m : Int)) = false := decide_eq_false (by omega)
    have hm : m ≤ 1000 := by omega
    have ho : numO (m : Int) = some (numT m) := by rw [numO, if_pos h, Int.toNat_natCast]
    rw [ho]
    clear h ho
    go_enter Tryz.func30, Tryz.ntmps30
    go_wp2_with (go_at_call 54; refine (snumeral_any m hm _).mono ?_; rintro e w1 ⟨A, c, rfl, hl, hf, hb1⟩; have hZ := (Blk.new_ w 27 #[.int .i64 0, .int .i64 0, .slice none 0 0] rfl).keep hb1; obtain ⟨d0, d1, d2⟩ := hZ.three; have e0 := hZ.frozen 0; have e1 := hZ.frozen 1; have e2 := hZ.frozen 2; have g1 : Below w.heap.size w w1 := ((Below.refl _ _).alloc (Nat.le_refl _) _).trans (hb1.mono (by simp)))
    refine bodyPost_ret (v := .tuple #[.agg #[.int .i64 (numT m).k, .int .i64 0, .slice A (numT m).ks.length c], .bool true]) (by simp [results, Tryz.results30, go_sem, d0, d1, d2]) rfl ⟨(numT m).k, 0, (numT m).ks, A, c, ?_, rfl, hl, ?_, ((g1.setCell (by simp) _).setCell (by simp) _).setCell (by simp) _⟩
    · have := tm_parts (numT m); rw [numT_n] at this; exact this
    · exact (((hf.setCell (by simp) _).setCell (by simp) _).setCell (by simp) _).mono (by simp)
  · have ho : numO n = none := by rw [numO, if_neg h]
    rw [ho]
    by_cases h1 : n < 0
    · have d1 : decide (n < 0) = true := decide_eq_true h1
      clear h ho
      go_enter Tryz.func30, Tryz.ntmps30
      go_wp2
      refine bodyPost_ret (v := .tuple #[.agg #[.int .i64 0, .int .i64 0, .slice none 0 0], .bool false]) (by simp [results, Tryz.results30, go_sem]) rfl ⟨0, 0, [], none, 0, rfl, rfl, by simp, Fresh.nil, ?_⟩
      exact (Below.refl _ _).alloc (Nat.le_refl _) _
    · have d1 : decide (n < 0) = false := decide_eq_false h1
      have d2 : decide (20 < n) = true := decide_eq_true (by omega)
      clear h ho
      go_enter Tryz.func30, Tryz.ntmps30
      go_wp2
      refine bodyPost_ret (v := .tuple #[.agg #[.int .i64 0, .int .i64 0, .slice none 0 0], .bool false]) (by simp [results, Tryz.results30, go_sem]) rfl ⟨0, 0, [], none, 0, rfl, rfl, by simp, Fresh.nil, ?_⟩
      exact (Below.refl _ _).alloc (Nat.le_refl _) _
/-- what SubstTerm of the reference answers at the innermost variable, both terms valid -/
def instS (u t : Tm) : Option Tm := if validT (sbS u 0 0 t) = true then some (sbS u 0 0 t) else none
theorem index_any (w : World) : Calls Tryz.prog 81 #[.int .i64 0] w fun e w' => e = .returned (.bool true) ∧ w = w' := by
  go_enter Tryz.func81, Tryz.ntmps81
  go_wp2
  go_ret
  exact ⟨rfl, rfl⟩
set_option maxHeartbeats 4000000 in
set_option maxRecDepth 100000 in
theorem sSubstTerm_any (k n : Int) (ks : List Tm) (A : Option Addr) (c : Nat) (ku nu : Int) (us : List Tm) (U : Option Addr) (cu : Nat) (w : World) (hv : validT (.mk k n ks) = true) (hu : validT (.mk ku nu us) = true) (hr : Rd w A 0 ks) (hru : Rd w U 0 us) :
    Calls Tryz.prog 56 #[.agg #[.int .i64 k, .int .i64 n, .slice A ks.length c], .int .i64 0, .agg #[.int .i64 ku, .int .i64 nu, .slice U us.length cu]] w (GotP w (instS (.mk ku nu us) (.mk k n ks))) := by
  have hM := validT_size' hv
  have hMu := validT_size' hu
  have hsu : shape 30 (.mk ku nu us) = true := by simp only [validT, Bool.and_eq_true] at hu; exact hu.1
  have hst : shape 30 (.mk k n ks) = true := by simp only [validT, Bool.and_eq_true] at hv; exact hv.1
  obtain ⟨k2, n2, ks2, hres⟩ : ∃ k2 n2 ks2, sbS (.mk ku nu us) 0 0 (.mk k n ks) = .mk k2 n2 ks2 := by cases h : sbS (.mk ku nu us) 0 0 (.mk k n ks); exact ⟨_, _, _, rfl⟩
  have hsz2 : sizes ks2 ≤ 1000000 := by
    have := sbS_size (.mk ku nu us) (m := 401) (by rw [Tm.size]; omega) (by omega) (.mk k n ks) 0 0
    rw [hres, Tm.size, Tm.size] at this
    have h2 : (sizes ks + 1) * 401 ≤ 401 * 401 := Nat.mul_le_mul (by omega) (Nat.le_refl _)
    omega
  have hsub := hide (fun A c U cu (w : World) (h1 : Rd w A 0 ks) (h2 : Rd w U 0 us) => sSubst_any ku nu us hsu (by omega) (sizes ks + 1) k n ks A c U cu 0 0 30 w (Nat.lt_succ_self _) (by omega) hst (by omega) (by omega) (by omega) (by omega) h1 h2 k2 n2 ks2 hres)
  have hv' := hide hv
  have hu' := hide hu
  have hi : instS (.mk ku nu us) (.mk k n ks) = if validT (.mk k2 n2 ks2) = true then some (.mk k2 n2 ks2) else none := by rw [instS, hres]
  rw [hi]
  clear hv hu hsu hst hres hi
  cases hv2 : validT (.mk k2 n2 ks2) with
  | true =>
    have hv2' := hide hv2
    clear hv2
    go_enter Tryz.func56, Tryz.ntmps56
    go_wp2_with (first
      | (go_at_call 55; have _t := hf3; refine (sTermValid_any k2 n2 ks2 A3 c3 _ (by omega) (hf3.rd.alloc _)).mono ?_; rw [hv2'.out]; rintro e w4 ⟨rfl, hb4⟩; replace hZ := (hZ.alloc (.cells #[.int .i64 k2, .int .i64 n2, .slice A3 ks2.length c3] 27)).keep hb4; have hX := (Blk.new_ w3 27 #[.int .i64 k2, .int .i64 n2, .slice A3 ks2.length c3] rfl).keep hb4; obtain ⟨x0, x1, x2⟩ := hX.three; obtain ⟨d0, d1, d2⟩ := hZ.three; have e0 := hZ.frozen 0; have e1 := hZ.frozen 1; have e2 := hZ.frozen 2; have lz := hZ.lt; have lx := hX.lt; have s4 : w3.heap.size + 1 ≤ w4.heap.size := (by have := hb4.size; simpa using this); have g4 := (g3.alloc g3.size _).trans (hb4.mono (by have := g3.size; simp; omega)))
      | (go_at_call 82; refine (hsub.out A c U cu _ hr2 hru2).mono ?_; rintro e w3 ⟨A3, c3, rfl, hl3, hf3, hb3⟩; replace hA := hA.keep hb3; replace hU := hU.keep hb3; replace hZ := hZ.keep hb3; clear a0 a1 a2 u0 u1 u2; obtain ⟨a0, a1, a2⟩ := hA.three; obtain ⟨u0, u1, u2⟩ := hU.three; have lA := hA.lt; have g3 := g2.trans (hb3.mono g2.size); have s23 := hb3.size)
      | (go_at_call 81; refine (index_any _).mono ?_; rintro e w9 ⟨rfl, rfl⟩)
      | (go_at_call 55; have _t := hb1; refine (sTermValid_any ku nu us U cu _ (by omega) hru1).mono ?_; rw [hu'.out]; rintro e w2 ⟨rfl, hb2⟩; replace hA := hA.keep hb2; replace hU := hU.keep hb2; replace hZ := hZ.keep hb2; clear a0 a1 a2 u0 u1 u2; obtain ⟨a0, a1, a2⟩ := hA.three; obtain ⟨u0, u1, u2⟩ := hU.three; have lA := hA.lt; have g2 := g1.trans (hb2.mono g1.size); have s22 := hb2.size; have hr2 := hr1.below hb2; have hru2 := hru1.below hb2)
      | (go_at_call 55; refine (sTermValid_any k n ks A c _ (by omega) (((hr.alloc _).alloc _).alloc _)).mono ?_; rw [hv'.out]; rintro e w1 ⟨rfl, hb1⟩; have hA := ((Blk.new_ w 27 #[.int .i64 k, .int .i64 n, .slice A ks.length c] rfl).alloc (.cells #[.int .i64 ku, .int .i64 nu, .slice U us.length cu] 27)).alloc (.cells #[.int .i64 0, .int .i64 0, .slice none 0 0] 27); replace hA := hA.keep hb1; have hU : Blk w1 (w.heap.size + 1) #[.int .i64 ku, .int .i64 nu, .slice U us.length cu] := ((Blk.new_ _ 27 _ (by simp)).alloc _).keep hb1; have hZ : Blk w1 (w.heap.size + 1 + 1) #[.int .i64 0, .int .i64 0, .slice none 0 0] := (Blk.new_ _ 27 _ (by simp)).keep hb1; obtain ⟨a0, a1, a2⟩ := hA.three; obtain ⟨u0, u1, u2⟩ := hU.three; have g1 : Below w.heap.size w w1 := (((Below.refl _ _).alloc (Nat.le_refl _) _).alloc (by simp) _).alloc (by simp; omega) _ |>.trans (hb1.mono (by simp; omega)); have lA := hA.lt; have s12 : w.heap.size + 1 + 1 + 1 ≤ w1.heap.size := (by have := hb1.size; simpa using this); have hr1 := (((hr.alloc _).alloc _).alloc _).below hb1; have hru1 := (((hru.alloc _).alloc _).alloc _).below hb1))
    refine bodyPost_ret (v := .tuple #[.agg #[.int .i64 k2, .int .i64 n2, .slice A3 ks2.length c3], .bool true]) (by simp [results, Tryz.results56, go_sem, d0, d1, d2]) rfl ⟨k2, n2, ks2, A3, c3, by simp, by simp, hl3, ?_, ((g4.setCell (by simp; omega) _).setCell (by simp; omega) _).setCell (by simp; omega) _⟩
    have hf4 := (hf3.alloc (.cells #[.int .i64 k2, .int .i64 n2, .slice A3 ks2.length c3] 27)).below hb4
    exact ((((hf4.setCell (a := ⟨w.heap.size + 1 + 1, 0, none⟩) (by simp; omega) _).setCell (by simp; omega) _).setCell (by simp; omega) _).mono (by omega))
  | false =>
    have hv2' := hide hv2
    clear hv2
    go_enter Tryz.func56, Tryz.ntmps56
    go_wp2_with (first
      | (go_at_call 55; have _t := hf3; refine (sTermValid_any k2 n2 ks2 A3 c3 _ (by omega) (hf3.rd.alloc _)).mono ?_; rw [hv2'.out]; rintro e w4 ⟨rfl, hb4⟩; replace hZ := (hZ.alloc (.cells #[.int .i64 k2, .int .i64 n2, .slice A3 ks2.length c3] 27)).keep hb4; have hX := (Blk.new_ w3 27 #[.int .i64 k2, .int .i64 n2, .slice A3 ks2.length c3] rfl).keep hb4; obtain ⟨x0, x1, x2⟩ := hX.three; obtain ⟨d0, d1, d2⟩ := hZ.three; have e0 := hZ.frozen 0; have e1 := hZ.frozen 1; have e2 := hZ.frozen 2; have lz := hZ.lt; have lx := hX.lt; have s4 : w3.heap.size + 1 ≤ w4.heap.size := (by have := hb4.size; simpa using this); have g4 := (g3.alloc g3.size _).trans (hb4.mono (by have := g3.size; simp; omega)))
      | (go_at_call 82; refine (hsub.out A c U cu _ hr2 hru2).mono ?_; rintro e w3 ⟨A3, c3, rfl, hl3, hf3, hb3⟩; replace hA := hA.keep hb3; replace hU := hU.keep hb3; replace hZ := hZ.keep hb3; clear a0 a1 a2 u0 u1 u2; obtain ⟨a0, a1, a2⟩ := hA.three; obtain ⟨u0, u1, u2⟩ := hU.three; have lA := hA.lt; have g3 := g2.trans (hb3.mono g2.size); have s23 := hb3.size)
      | (go_at_call 81; refine (index_any _).mono ?_; rintro e w9 ⟨rfl, rfl⟩)
      | (go_at_call 55; have _t := hb1; refine (sTermValid_any ku nu us U cu _ (by omega) hru1).mono ?_; rw [hu'.out]; rintro e w2 ⟨rfl, hb2⟩; replace hA := hA.keep hb2; replace hU := hU.keep hb2; replace hZ := hZ.keep hb2; clear a0 a1 a2 u0 u1 u2; obtain ⟨a0, a1, a2⟩ := hA.three; obtain ⟨u0, u1, u2⟩ := hU.three; have lA := hA.lt; have g2 := g1.trans (hb2.mono g1.size); have s22 := hb2.size; have hr2 := hr1.below hb2; have hru2 := hru1.below hb2)
      | (go_at_call 55; refine (sTermValid_any k n ks A c _ (by omega) (((hr.alloc _).alloc _).alloc _)).mono ?_; rw [hv'.out]; rintro e w1 ⟨rfl, hb1⟩; have hA := ((Blk.new_ w 27 #[.int .i64 k, .int .i64 n, .slice A ks.length c] rfl).alloc (.cells #[.int .i64 ku, .int .i64 nu, .slice U us.length cu] 27)).alloc (.cells #[.int .i64 0, .int .i64 0, .slice none 0 0] 27); replace hA := hA.keep hb1; have hU : Blk w1 (w.heap.size + 1) #[.int .i64 ku, .int .i64 nu, .slice U us.length cu] := ((Blk.new_ _ 27 _ (by simp)).alloc _).keep hb1; have hZ : Blk w1 (w.heap.size + 1 + 1) #[.int .i64 0, .int .i64 0, .slice none 0 0] := (Blk.new_ _ 27 _ (by simp)).keep hb1; obtain ⟨a0, a1, a2⟩ := hA.three; obtain ⟨u0, u1, u2⟩ := hU.three; have g1 : Below w.heap.size w w1 := (((Below.refl _ _).alloc (Nat.le_refl _) _).alloc (by simp) _).alloc (by simp; omega) _ |>.trans (hb1.mono (by simp; omega)); have lA := hA.lt; have s12 : w.heap.size + 1 + 1 + 1 ≤ w1.heap.size := (by have := hb1.size; simpa using this); have hr1 := (((hr.alloc _).alloc _).alloc _).below hb1; have hru1 := (((hru.alloc _).alloc _).alloc _).below hb1))
    refine bodyPost_ret (v := .tuple #[.agg #[.int .i64 0, .int .i64 0, .slice none 0 0], .bool false]) (by simp [results, Tryz.results56, go_sem, d0, d1, d2]) rfl ⟨0, 0, [], none, 0, by simp, by simp, by simp, Fresh.nil, ((g4.setCell (by simp; omega) _).setCell (by simp; omega) _).setCell (by simp; omega) _⟩
set_option maxHeartbeats 2000000 in
set_option maxRecDepth 100000 in
theorem sInst_any (k n : Int) (ks : List Tm) (A : Option Addr) (c : Nat) (ku nu : Int) (us : List Tm) (U : Option Addr) (cu : Nat) (w : World) (hv : validT (.mk k n ks) = true) (hu : validT (.mk ku nu us) = true) (hr : Rd w A 0 ks) (hru : Rd w U 0 us) :
    Calls Tryz.prog 33 #[.agg #[.int .i64 k, .int .i64 n, .slice A ks.length c], .agg #[.int .i64 ku, .int .i64 nu, .slice U us.length cu]] w (GotP w (instS (.mk ku nu us) (.mk k n ks))) := by
  have hs := hide (fun (w : World) (h1 : Rd w A 0 ks) (h2 : Rd w U 0 us) => sSubstTerm_any k n ks A c ku nu us U cu w hv hu h1 h2)
  obtain ⟨o, ho⟩ : ∃ o, instS (.mk ku nu us) (.mk k n ks) = o := ⟨_, rfl⟩
  rw [ho] at hs ⊢
  clear hv hu ho
  go_enter Tryz.func33, Tryz.ntmps33
  go_wp2_with (go_at_call 56; refine (hs.out _ (((hr.alloc _).alloc _).alloc _) (((hru.alloc _).alloc _).alloc _)).mono ?_; rintro e w3 ⟨k3, n3, ks3, A3, c3, hk, rfl, hl3, hf3, hb3⟩; have hk' := hide hk; clear hk; have hZ3 : Blk w3 (w.heap.size + 1 + 1) #[.int .i64 0, .int .i64 0, .slice none 0 0] := (Blk.new_ _ 27 _ (by simp)).keep hb3; obtain ⟨d0, d1, d2⟩ := hZ3.three; have e0 := hZ3.frozen 0; have e1 := hZ3.frozen 1; have e2 := hZ3.frozen 2; have g3 : Below w.heap.size w w3 := (((Below.refl _ _).alloc (Nat.le_refl _) _).alloc (by simp) _).alloc (by simp; omega) _ |>.trans (hb3.mono (by simp; omega)))
  refine bodyPost_ret (v := .tuple #[.agg #[.int .i64 k3, .int .i64 n3, .slice A3 ks3.length c3], .bool o.isSome]) (by simp [results, Tryz.results33, go_sem, d0, d1, d2]) rfl ⟨k3, n3, ks3, A3, c3, hk'.out, rfl, hl3, ?_, ((g3.setCell (by simp; omega) _).setCell (by simp; omega) _).setCell (by simp; omega) _⟩
  exact (((hf3.setCell (by simp) _).setCell (by simp) _).setCell (by simp) _).mono (by simp; omega)
open Go.RowKit
set_option maxRecDepth 100000
/-- a proof applied to a number; a statement at that number -/
structure UseOk (s p : Tm) (m : Nat) (pk pn : Int) (pks : List Tm) (kb nb : Int) (kbs : List Tm) (rk rn : Int) (rks : List Tm) : Prop where
  hs : s = .mk 3 0 [.mk 6 0 [], .mk kb nb kbs]
  hp : p = .mk pk pn pks
  hm : m ≤ 20
  hpv : validT (.mk pk pn pks) = true
  hbv : validT (.mk kb nb kbs) = true
  hnv : validT (numT m) = true
  hav : validT (.mk 5 0 [.mk pk pn pks, numT m]) = true
  hi : instS (numT m) (.mk kb nb kbs) = some (.mk rk rn rks)
  hj : substI 0 (numT m) (.mk kb nb kbs) = some (.mk rk rn rks)
  hr : validT (.mk rk rn rks) = true
def useB (s p : Tm) (m : Nat) : Bool := match s.ks with
  | [_, b] => validT p && validT b && validT (numT m) && validT (.mk 5 0 [p, numT m]) && validT (sbS (numT m) 0 0 b) && chgOk (sbOk 0 (numT m)) 0 b && tmEq (chg (sbF 0 (numT m)) 0 b) (sbS (numT m) 0 0 b)
  | _ => false
theorem useB_ok {s p b : Tm} {m : Nat} (hs : s = .mk 3 0 [.mk 6 0 [], b]) (hm : m ≤ 20) (h : useB s p m = true) : ∃ pk pn pks kb nb kbs rk rn rks, UseOk s p m pk pn pks kb nb kbs rk rn rks := by
  obtain ⟨pk, pn, pks⟩ := p
  obtain ⟨kb, nb, kbs⟩ := b
  subst hs
  simp only [useB, Tm.ks, Bool.and_eq_true] at h
  obtain ⟨⟨⟨⟨⟨⟨h1, h2⟩, h3⟩, h4⟩, h5⟩, h6⟩, h7⟩ := h
  obtain ⟨rk, rn, rks, hr⟩ : ∃ rk rn rks, sbS (numT m) 0 0 (.mk kb nb kbs) = .mk rk rn rks := by cases h : sbS (numT m) 0 0 (.mk kb nb kbs); exact ⟨_, _, _, rfl⟩
  have h8 := tmEq_iff.1 h7
  rw [hr] at h5 h8
  exact ⟨pk, pn, pks, kb, nb, kbs, rk, rn, rks, rfl, rfl, hm, h1, h2, h3, h4, by rw [instS, hr, if_pos h5], by rw [substI, if_pos h6, h8, if_pos h5], h5⟩
theorem use1 : ∀ m : Fin 21, useB thS1 thP1 m.val = true := by decide +kernel
theorem use2 : ∀ m : Fin 21, useB thS2 thP2 m.val = true := by decide +kernel
theorem use3 : ∀ m : Fin 21, useB thS3 thP3 m.val = true := by decide +kernel
theorem use5 : ∀ m : Fin 21, useB thS5 thP5 m.val = true := by decide +kernel
/-- when a theorem is not used -/
def UseNo (oS : Option Tm) (n : Int) : Prop := oS = none ∨ ¬ (0 ≤ n ∧ n ≤ 20) ∧ (∃ b, oS = some (.mk 3 0 [.mk 6 0 [], b])) ∨ ∃ n0 ks0 b, oS = some (.mk 3 0 [.mk 10 n0 ks0, b])
def UseAt (oS oP : Option Tm) (n : Int) (r : Option (Tm × Tm)) : Prop :=
  (∃ (s p : Tm) (m : Nat) (pk pn : Int) (pks : List Tm) (kb nb : Int) (kbs : List Tm) (rk rn : Int) (rks : List Tm), oS = some s ∧ oP = some p ∧ n = m ∧ UseOk s p m pk pn pks kb nb kbs rk rn rks ∧ r = some (.mk 5 0 [.mk pk pn pks, numT m], .mk rk rn rks)) ∨ (UseNo oS n ∧ r = none)
theorem useAt_of {s p b : Tm} {n : Int} (hs : s = .mk 3 0 [.mk 6 0 [], b]) (h : ∀ m : Fin 21, useB s p m.val = true) : ∃ r, UseAt (some s) (some p) n r := by
  by_cases hn : 0 ≤ n ∧ n ≤ 20
  · obtain ⟨m, rfl⟩ := Int.eq_ofNat_of_zero_le hn.1
    obtain ⟨pk, pn, pks, kb, nb, kbs, rk, rn, rks, hu⟩ := useB_ok hs (m := m) (by omega) (h ⟨m, by omega⟩)
    exact ⟨_, .inl ⟨s, p, m, pk, pn, pks, kb, nb, kbs, rk, rn, rks, rfl, rfl, rfl, hu, rfl⟩⟩
  · exact ⟨none, .inr ⟨.inr (.inl ⟨hn, b, by rw [hs]⟩), rfl⟩⟩
theorem useAt_ex {thm : Int} {sR pR sB pB : List UInt8} {oS oP : Option Tm} (h : ThmAt thm sR pR sB pB oS oP) (n : Int) : ∃ r, UseAt oS oP n r := by
  rcases h with ⟨rfl, rfl, rfl, rfl, rfl, rfl, rfl⟩ | ⟨rfl, rfl, rfl, rfl, rfl, rfl, rfl⟩ | ⟨rfl, rfl, rfl, rfl, rfl, rfl, rfl⟩ | ⟨rfl, rfl, rfl, rfl, rfl, rfl, rfl⟩ | ⟨rfl, rfl, rfl, rfl, rfl, rfl, rfl⟩ | ⟨_, rfl, rfl, rfl, rfl, rfl, rfl⟩
  · exact useAt_of rfl use1
  · exact useAt_of rfl use2
  · exact useAt_of rfl use3
  · exact ⟨none, .inr ⟨.inr (.inr ⟨_, _, _, rfl⟩), rfl⟩⟩
  · exact useAt_of rfl use5
  · exact ⟨none, .inr ⟨.inl rfl, rfl⟩⟩
end Go.Proofs.YthgmofdfecioaaaGreatDoor
