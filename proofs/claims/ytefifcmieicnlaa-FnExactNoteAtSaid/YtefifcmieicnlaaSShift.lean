/-
  l2Shift of the reference. No condition.
-/
import Derived.Test.YtefifcmieicnlaaUnder
import Derived.Test.YtefifcmieicnlaaShape
import Derived.Test.YtefifcmieicnlaaReg2
import Derived.Test.YtefifcmieicnlaaApp2
import Derived.WalkSpells
import Derived.WalkLawsBesides
namespace Go.Proofs.Ytefifcmieicnlaa
open Go.RowKit
set_option linter.unusedSimpArgs false
set_option linter.unusedVariables false

mutual
def shS (by_ : Int) : Int → Tm → Tm | cut, .mk k n ks => .mk k (if k = 1 ∧ cut ≤ n then n + by_ else n) (shSL by_ k cut 0 ks)
def shSL (by_ : Int) : Int → Int → Nat → List Tm → List Tm | _, _, _, [] => [] | k, cut, i, t :: ts => shS by_ (cut + under k i) t :: shSL by_ k cut (i + 1) ts
end

theorem shSL_append (by_ k d : Int) (us : List Tm) : ∀ (ts : List Tm) (i : Nat), shSL by_ k d i (ts ++ us) = shSL by_ k d i ts ++ shSL by_ k d (i + ts.length) us
  | [], i => by simp [shSL]
  | t :: ts, i => by rw [List.cons_append, shSL, shSL, shSL_append by_ k d us ts (i + 1), List.cons_append, List.length_cons, show i + 1 + ts.length = i + (ts.length + 1) from by omega]
theorem shSL_length (by_ k d : Int) : ∀ (ts : List Tm) (i : Nat), (shSL by_ k d i ts).length = ts.length
  | [], i => by simp [shSL]
  | t :: ts, i => by rw [shSL, List.length_cons, List.length_cons, shSL_length by_ k d ts (i + 1)]
theorem shSL_take (by_ k d : Int) {ks : List Tm} {j : Nat} (hj : j < ks.length) : shSL by_ k d 0 (ks.take (j + 1)) = shSL by_ k d 0 (ks.take j) ++ [shS by_ (d + under k j) ks[j]] := by
  rw [List.take_succ_eq_append_getElem hj, shSL_append, List.length_take, Nat.min_eq_left (Nat.le_of_lt hj), Nat.zero_add, shSL, shSL]

set_option maxHeartbeats 2000000 in
set_option maxRecDepth 100000 in
theorem sShift_any (N : Nat) : ∀ (k n : Int) (ks : List Tm) (A : Option Addr) (c : Nat) (by_ cut : Int) (q : Nat) (w : World), sizes ks < N → sizes ks ≤ 1000000000 → shape q (.mk k n ks) = true → -1000 ≤ by_ ∧ by_ ≤ 1000 → 0 ≤ cut → cut + q ≤ 1000 → Rd w A 0 ks →
    Calls Try.prog 103 #[.agg #[.int .i64 k, .int .i64 n, .slice A ks.length c], .int .i64 by_, .int .i64 cut] w (GotT w k (if k = 1 ∧ cut ≤ n then n + by_ else n) (shSL by_ k cut 0 ks)) := by
  induction N with
  | zero => intro k n ks A c by_ cut q w hN; exact absurd hN (Nat.not_lt_zero _)
  | succ N ih =>
  intro k n ks A c by_ cut q w hN hM hsh hby hc0 hcq hr
  have hlen := length_le_sizes ks
  obtain ⟨q, rfl⟩ : ∃ q', q = q' + 1 := by cases q with | zero => simp [shape] at hsh | succ q => exact ⟨q, rfl⟩
  obtain ⟨ha, hm1, hm2, hkids⟩ := (shape_split q k n ks).1 hsh
  by_cases hk : k = 1
  · subst hk
    have hks : ks = [] := by
      have h0 : arity 1 = 0 := rfl
      rw [h0] at ha
      exact List.eq_nil_of_length_eq_zero (by omega)
    subst hks
    have h20 : mostN 1 = 20 := rfl
    rw [h20] at hm2
    clear hkids hsh ha h20
    by_cases hcn : cut ≤ n
    · rw [if_pos ⟨rfl, hcn⟩]
      have q0 : decide (cut ≤ n) = true := by simpa using hcn
      go_enter Try.func103, Try.ntmps103
      go_wp2_with fail
      go_loopw [8] (fun i wr => i = .int .i64 0 ∧ Blk wr (w.heap.size + 1 + 1) #[.int .i64 1, .int .i64 (n + by_), .slice none 0 0] ∧ Blk wr (w.heap.size + 1) #[.int .i64 0, .int .i64 0, .slice none 0 0] ∧ Blk wr w.heap.size #[.int .i64 1, .int .i64 n, .slice A 0 c] ∧ Below w.heap.size w wr)
        (fun _ _ => 0)
      case atStart => exact ⟨rfl, Blk.new_ _ _ _ (by simp), (Blk.new_ _ _ _ (by simp)).alloc _, ((Blk.new_ _ _ _ rfl).alloc _).alloc _, (((Below.refl _ _).alloc (by simp) _).alloc (by simp) _).alloc (by simp; omega) _⟩
      case round =>
        obtain ⟨rfl, hB3, hB2, hB1, hb⟩ := hrel
        have b2 := hB1.at_ (i := 2) rfl
        have c0 : wr.cell? ⟨w.heap.size + 1 + 1, 0, none⟩ = some (.int .i64 1) := hB3.at_ rfl
        have c1 : wr.cell? ⟨w.heap.size + 1 + 1, 1, none⟩ = some (.int .i64 (n + by_)) := hB3.at_ rfl
        have c2 : wr.cell? ⟨w.heap.size + 1 + 1, 2, none⟩ = some (.slice none 0 0) := hB3.at_ rfl
        have d0 : wr.cell? ⟨w.heap.size + 1, 0, none⟩ = some (.int .i64 0) := hB2.at_ rfl
        have d1 : wr.cell? ⟨w.heap.size + 1, 1, none⟩ = some (.int .i64 0) := hB2.at_ rfl
        have d2 : wr.cell? ⟨w.heap.size + 1, 2, none⟩ = some (.slice none 0 0) := hB2.at_ rfl
        have e0 := hB2.frozen 0
        have e1 := hB2.frozen 1
        have e2 := hB2.frozen 2
        go_wp2_with fail
        refine bodyPost_ret (v := .agg #[.int .i64 1, .int .i64 (n + by_), .slice none 0 0]) (by simp [results, Try.results103, go_sem, d0, d1, d2]) rfl ⟨none, 0, by simp [shSL], by simp [shSL], ?_, ?_⟩
        · simpa [shSL] using (Fresh.nil : Fresh w.heap.size _ none [])
        · exact ((hb.setCell (by simp) _).setCell (by simp) _).setCell (by simp) _
    · rw [if_neg (by rintro ⟨-, h⟩; exact hcn h)]
      have q0 : decide (cut ≤ n) = false := by simpa using hcn
      go_enter Try.func103, Try.ntmps103
      go_wp2_with fail
      go_loopw [8] (fun i wr => i = .int .i64 0 ∧ Blk wr (w.heap.size + 1 + 1) #[.int .i64 1, .int .i64 (n), .slice none 0 0] ∧ Blk wr (w.heap.size + 1) #[.int .i64 0, .int .i64 0, .slice none 0 0] ∧ Blk wr w.heap.size #[.int .i64 1, .int .i64 n, .slice A 0 c] ∧ Below w.heap.size w wr)
        (fun _ _ => 0)
      case atStart => exact ⟨rfl, Blk.new_ _ _ _ (by simp), (Blk.new_ _ _ _ (by simp)).alloc _, ((Blk.new_ _ _ _ rfl).alloc _).alloc _, (((Below.refl _ _).alloc (by simp) _).alloc (by simp) _).alloc (by simp; omega) _⟩
      case round =>
        obtain ⟨rfl, hB3, hB2, hB1, hb⟩ := hrel
        have b2 := hB1.at_ (i := 2) rfl
        have c0 : wr.cell? ⟨w.heap.size + 1 + 1, 0, none⟩ = some (.int .i64 1) := hB3.at_ rfl
        have c1 : wr.cell? ⟨w.heap.size + 1 + 1, 1, none⟩ = some (.int .i64 (n)) := hB3.at_ rfl
        have c2 : wr.cell? ⟨w.heap.size + 1 + 1, 2, none⟩ = some (.slice none 0 0) := hB3.at_ rfl
        have d0 : wr.cell? ⟨w.heap.size + 1, 0, none⟩ = some (.int .i64 0) := hB2.at_ rfl
        have d1 : wr.cell? ⟨w.heap.size + 1, 1, none⟩ = some (.int .i64 0) := hB2.at_ rfl
        have d2 : wr.cell? ⟨w.heap.size + 1, 2, none⟩ = some (.slice none 0 0) := hB2.at_ rfl
        have e0 := hB2.frozen 0
        have e1 := hB2.frozen 1
        have e2 := hB2.frozen 2
        go_wp2_with fail
        refine bodyPost_ret (v := .agg #[.int .i64 1, .int .i64 (n), .slice none 0 0]) (by simp [results, Try.results103, go_sem, d0, d1, d2]) rfl ⟨none, 0, by simp [shSL], by simp [shSL], ?_, ?_⟩
        · simpa [shSL] using (Fresh.nil : Fresh w.heap.size _ none [])
        · exact ((hb.setCell (by simp) _).setCell (by simp) _).setCell (by simp) _
  have hkids' := hide hkids
  have hm2' := hide hm2
  clear hkids ha hsh hm2
  have hk' := hk
  by_cases hk : k = 1
  · exact absurd hk hk'
  · have hn : (if k = 1 ∧ cut ≤ n then n + by_ else n) = n := by rw [if_neg]; rintro ⟨h, -⟩; exact hk h
    have q1 : (k == 1) = false := by simpa using hk
    rw [hn]
    clear hn hk
    go_enter Try.func103, Try.ntmps103
    go_wp2_with fail
    go_loopw [8] (fun i wr => ∃ (j : Nat) (v : Value), j ≤ ks.length ∧ i = .int .i64 j ∧ Part (w.heap.size + 3) wr v (shSL by_ k cut 0 (ks.take j)) ∧ Blk wr (w.heap.size + 1 + 1) #[.int .i64 k, .int .i64 (n), v] ∧ Blk wr (w.heap.size + 1) #[.int .i64 0, .int .i64 0, .slice none 0 0] ∧ Blk wr w.heap.size #[.int .i64 k, .int .i64 n, .slice A ks.length c] ∧ Below w.heap.size w wr)
      (fun i _ => ks.length - (intOf i).toNat)
    case atStart => exact ⟨0, _, Nat.zero_le _, rfl, Part.nil, Blk.new_ _ _ _ (by simp), (Blk.new_ _ _ _ (by simp)).alloc _, ((Blk.new_ _ _ _ rfl).alloc _).alloc _, (((Below.refl _ _).alloc (by simp) _).alloc (by simp) _).alloc (by simp; omega) _⟩
    case round =>
      obtain ⟨j, v, hj, rfl, hp, hB3, hB2, hB1, hb⟩ := hrel
      have c12 := hB1.at_ (i := 2) rfl
      by_cases hlt : j < ks.length
      · obtain ⟨b, off, k', n', ks', A', c', rfl, hkj, hc1, hc2, hc3, hl', hr'⟩ := (hr.below hb).at_ hlt
        have hsz := sizes_le (List.getElem_mem hlt)
        have hsk := hkids'.out _ (List.getElem_mem hlt)
        rw [hkj] at hsz hsk
        simp only [Tm.size] at hsz
        have H3 := hide hkj
        have H4 := hide hsk
        clear hkj hsk
        have hz := hB3.lt
        go_wp2_with fail
        have x2 := hB3.rule (i := 2) rfl
        have b0 := hB1.rule (i := 0) rfl
        have b2 := hB1.rule (i := 2) rfl
        have y0 := rule_of hc1
        have y1 := rule_of hc2
        have y2 := rule_of hc3
        have hun := under_le k j
        refine wp_region_firstY (fun w' => Below wr.heap.size wr w') [0, 1, 2, 3, 4, 5, 6, 7, 8, 9, 10, 11, 12, 13] [14, 15] [16, 17, 18] [_, _, _, _, _, _, _, _, _, _, _, _, _, _] [_, _] [_, _, _] (by kernel_rfl) (by kernel_rfl) rfl rfl rfl (fun _ _ d _ _ h => by cases d <;> exact h) (Below.refl _ _).drew ?_
        repeat (first | ((refine takeY_skip (a' := ?_) ?_ ?_ ?_); (rotate_left); (· (simp [Region.wanted, yielded]; done)); (· (simp only [List.getElem_toArray, List.getElem_cons_zero, List.getElem_cons_succ, Act.put, List.setIfInBounds_toArray, List.set_cons_zero, List.set_cons_succ]; exact rfl))) | ((refine takeY_step (v := ?_) (a' := ?_) ?_ ?_ ?_ ?_); (rotate_left 2); (· (simp [Region.wanted, yielded]; done)); (· (intro w' hS'; go_simp; try (with_reducible rfl))); (· (simp only [List.getElem_toArray, List.getElem_cons_zero, List.getElem_cons_succ, Act.put, List.setIfInBounds_toArray, List.set_cons_zero, List.set_cons_succ]; exact rfl))) | ((refine takeY_call (v := ?_) (a' := ?_) 105 ?_ ?_ ?_ ?_ ?_ ?_); (rotate_left 3); (· (simp [Region.wanted, yielded]; done)); (· (intro w' hS'; go_simp; try (with_reducible rfl))); (· (intro w' hS'; exact sUnder_any _ _ _)); (· (simp only [List.getElem_toArray, List.getElem_cons_zero, List.getElem_cons_succ, Act.put, List.setIfInBounds_toArray, List.set_cons_zero, List.set_cons_succ]; exact rfl))))
        refine takeY_nil (then_cons ?_)
        obtain ⟨n2, hn2⟩ : ∃ n2, (if k' = 1 ∧ cut + under k j ≤ n' then n' + by_ else n') = n2 := ⟨_, rfl⟩
        have hn2' := hide hn2
        clear hn2
        go_wp2_with (go_at_call 103; refine (ih k' n' ks' A' c' by_ (cut + under k j) q _ (by omega) (by omega) H4.out hby (by omega) (by omega) hr'.drew).mono ?_; rw [hn2'.out]; rintro e w1 ⟨A1, c1, rfl, hl1, hf1, hb1⟩)
        have hx1 : Below wr.heap.size wr w1 := (Below.refl _ _).drew.trans hb1
        refine mid_intro hx1 (then_cons ?_)
        go_wp2_with fail
        refine mid_intro (hx1.alloc hx1.size _) (then_nil ?_)
        refine wpList_append_built (B := w.heap.size + 3) (m := j) hp.drew hb1 (by simp; omega) hf1 hl1 (by rw [shSL_length]; simp; omega) (by omega) rfl (.tmp 36) (.tmp 50) rfl rfl rfl ?_
        intro A2 c2 w2 hp2 hb2 hg2
        have q3 : Blk w2 (w.heap.size + 1 + 1) #[.int .i64 k, .int .i64 (n), v] := (hB3.below hx1 (by omega)).below hb2 (by omega)
        have q2 : Blk w2 (w.heap.size + 1) #[.int .i64 0, .int .i64 0, .slice none 0 0] := (hB2.below hx1 (by omega)).below hb2 (by omega)
        have q1' : Blk w2 w.heap.size #[.int .i64 k, .int .i64 n, .slice (some ⟨b, off, none⟩) ks.length c] := (hB1.below hx1 (by omega)).below hb2 (by omega)
        have c3 : w2.cell? ⟨w.heap.size + 1 + 1, 2, none⟩ = some v := q3.at_ rfl
        have z3 := q3.frozen 2
        have hbf : Below w.heap.size w w2 := (hb.trans (hx1.mono (by omega))).trans (hb2.mono (by omega))
        clear x2 y0 y1 y2 b0 b2
        go_wp2_with fail
        go_roundw
        case rel => exact ⟨j + 1, _, by omega, by go_num, by rw [shSL_take by_ k cut hlt, H3.out, shS, hn2'.out]; exact hp2.setCell (by simp) _, q3.set_ 2 _, q2.far (by simp) _, q1'.far (by simp; omega) _, hbf.setCell (by simp; omega) _⟩
        case measure => simp [intOf]; omega
      · have hjl : j = ks.length := by omega
        subst hjl
        rw [List.take_length] at hp
        obtain ⟨Ar, cr, rfl, hfr⟩ := hp.fresh
        have c0 : wr.cell? ⟨w.heap.size + 1 + 1, 0, none⟩ = some (.int .i64 k) := hB3.at_ rfl
        have c1 : wr.cell? ⟨w.heap.size + 1 + 1, 1, none⟩ = some (.int .i64 (n)) := hB3.at_ rfl
        have c2 : wr.cell? ⟨w.heap.size + 1 + 1, 2, none⟩ = some (.slice Ar (shSL by_ k cut 0 ks).length cr) := hB3.at_ rfl
        have d0 : wr.cell? ⟨w.heap.size + 1, 0, none⟩ = some (.int .i64 0) := hB2.at_ rfl
        have d1 : wr.cell? ⟨w.heap.size + 1, 1, none⟩ = some (.int .i64 0) := hB2.at_ rfl
        have d2 : wr.cell? ⟨w.heap.size + 1, 2, none⟩ = some (.slice none 0 0) := hB2.at_ rfl
        have e0 := hB2.frozen 0
        have e1 := hB2.frozen 1
        have e2 := hB2.frozen 2
        go_wp2_with fail
        refine bodyPost_ret (v := .agg #[.int .i64 k, .int .i64 (n), .slice Ar (shSL by_ k cut 0 ks).length cr]) (by simp [results, Try.results103, go_sem, d0, d1, d2]) rfl ⟨Ar, cr, rfl, by rw [shSL_length]; omega, ?_, ?_⟩
        · exact (((hfr.setCell (by simp) _).setCell (by simp) _).setCell (by simp) _).mono (by omega)
        · exact ((hb.setCell (by simp) _).setCell (by simp) _).setCell (by simp) _
end Go.Proofs.Ytefifcmieicnlaa
