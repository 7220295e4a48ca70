/-
  Texts that are common to the laws: SShift, SFill, SFillT, FillLaw. No condition.
-/
import Derived.Test.YtgmljpmnfncceaaK1
import Derived.Test.YtgmljpmnfncceaaK2
import Derived.Test.YtgmljpmnfncceaaK3
import Derived.WalkSpells
import Derived.WalkLawsBesides

namespace Go.Proofs.Ytgmljpmnfncceaa
open Go.RowKit
set_option linter.unusedSimpArgs false
set_option linter.unusedVariables false

mutual
def shS (by_ : Int) : Int → Tm → Tm | cut, .mk k n ks => .mk k (if k = 1 ∧ cut ≤ n then n + by_ else n) (shSL by_ k cut 0 ks)
def shSL (by_ : Int) : Int → Int → Nat → List Tm → List Tm | _, _, _, [] => [] | k, cut, i, t :: ts => shS by_ (cut + under k i) t :: shSL by_ k cut (i + 1) ts
end

theorem shSL_append (by_ k d : Int) (us : List Tm) : ∀ (ts : List Tm) (i : Nat), shSL by_ k d i (ts ++ us) = shSL by_ k d i ts ++ shSL by_ k d (i + ts.length) us
  | [], i => by simp [shSL]
  | t :: ts, i => by rw [List.cons_append, shSL, shSL, shSL_append by_ k d us ts (i + 1), List.cons_append, List.length_cons, show i + 1 + ts.length = i + (ts.length + 1) from by omega]
theorem shSL_length (by_ k d : Int) : ∀ (ts : List Tm) (i : Nat), (shSL by_ k d i ts).length = ts.length
  | [], i => by simp [shSL]
  | t :: ts, i => by rw [shSL, List.length_cons, List.length_cons, shSL_length by_ k d ts (i + 1)]
theorem shSL_take (by_ k d : Int) {ks : List Tm} {j : Nat} (hj : j < ks.length) : shSL by_ k d 0 (ks.take (j + 1)) = shSL by_ k d 0 (ks.take j) ++ [shS by_ (d + under k j) ks[j]] := by
  rw [List.take_succ_eq_append_getElem hj, shSL_append, List.length_take, Nat.min_eq_left (Nat.le_of_lt hj), Nat.zero_add, shSL, shSL]

set_option maxHeartbeats 2000000 in
set_option maxRecDepth 100000 in
theorem sShift_any (N : Nat) : ∀ (k n : Int) (ks : List Tm) (A : Option Addr) (c : Nat) (by_ cut : Int) (q : Nat) (w : World), sizes ks < N → sizes ks ≤ 1000000000 → shape q (.mk k n ks) = true → -1000 ≤ by_ ∧ by_ ≤ 1000 → 0 ≤ cut → cut + q ≤ 1000 → Rd w A 0 ks →
    Calls Try.prog 52 #[.agg #[.int .i64 k, .int .i64 n, .slice A ks.length c], .int .i64 by_, .int .i64 cut] w (GotT w k (if k = 1 ∧ cut ≤ n then n + by_ else n) (shSL by_ k cut 0 ks)) := by
  induction N with
  | zero => intro k n ks A c by_ cut q w hN; exact absurd hN (Nat.not_lt_zero _)
  | succ N ih =>
  intro k n ks A c by_ cut q w hN hM hsh hby hc0 hcq hr
  have hlen := length_le_sizes ks
  obtain ⟨q, rfl⟩ : ∃ q', q = q' + 1 := by cases q with | zero => simp [shape] at hsh | succ q => exact ⟨q, rfl⟩
  obtain ⟨ha, hm1, hm2, hkids⟩ := (shape_split q k n ks).1 hsh
  by_cases hk : k = 1
  · subst hk
    have hks : ks = [] := by
      have h0 : arity 1 = 0 := rfl
      rw [h0] at ha
      exact List.eq_nil_of_length_eq_zero (by omega)
    subst hks
    have h20 : mostN 1 = 20 := rfl
    rw [h20] at hm2
    clear hkids hsh ha h20
    by_cases hcn : cut ≤ n
    · rw [if_pos ⟨rfl, hcn⟩]
      have q0 : decide (cut ≤ n) = true := by simpa using hcn
      go_enter Try.func52, Try.ntmps52
      go_wp2_with fail
      go_loopw [8] (fun i wr => i = .int .i64 0 ∧ Blk wr (w.heap.size + 1 + 1) #[.int .i64 1, .int .i64 (n + by_), .slice none 0 0] ∧ Blk wr (w.heap.size + 1) #[.int .i64 0, .int .i64 0, .slice none 0 0] ∧ Blk wr w.heap.size #[.int .i64 1, .int .i64 n, .slice A 0 c] ∧ Below w.heap.size w wr)
        (fun _ _ => 0)
      case atStart => exact ⟨rfl, Blk.new_ _ _ _ (by simp), (Blk.new_ _ _ _ (by simp)).alloc _, ((Blk.new_ _ _ _ rfl).alloc _).alloc _, (((Below.refl _ _).alloc (by simp) _).alloc (by simp) _).alloc (by simp; omega) _⟩
      case round =>
        obtain ⟨rfl, hB3, hB2, hB1, hb⟩ := hrel
        have b2 := hB1.at_ (i := 2) rfl
        have c0 : wr.cell? ⟨w.heap.size + 1 + 1, 0, none⟩ = some (.int .i64 1) := hB3.at_ rfl
        have c1 : wr.cell? ⟨w.heap.size + 1 + 1, 1, none⟩ = some (.int .i64 (n + by_)) := hB3.at_ rfl
        have c2 : wr.cell? ⟨w.heap.size + 1 + 1, 2, none⟩ = some (.slice none 0 0) := hB3.at_ rfl
        have d0 : wr.cell? ⟨w.heap.size + 1, 0, none⟩ = some (.int .i64 0) := hB2.at_ rfl
        have d1 : wr.cell? ⟨w.heap.size + 1, 1, none⟩ = some (.int .i64 0) := hB2.at_ rfl
        have d2 : wr.cell? ⟨w.heap.size + 1, 2, none⟩ = some (.slice none 0 0) := hB2.at_ rfl
        have e0 := hB2.frozen 0
        have e1 := hB2.frozen 1
        have e2 := hB2.frozen 2
        go_wp2_with fail
        refine bodyPost_ret (v := .agg #[.int .i64 1, .int .i64 (n + by_), .slice none 0 0]) (by simp [results, Try.results52, go_sem, d0, d1, d2]) rfl ⟨none, 0, by simp [shSL], by simp [shSL], ?_, ?_⟩
        · simpa [shSL] using (Fresh.nil : Fresh w.heap.size _ none [])
        · exact ((hb.setCell (by simp) _).setCell (by simp) _).setCell (by simp) _
    · rw [if_neg (by rintro ⟨-, h⟩; exact hcn h)]
      have q0 : decide (cut ≤ n) = false := by simpa using hcn
      go_enter Try.func52, Try.ntmps52
      go_wp2_with fail
      go_loopw [8] (fun i wr => i = .int .i64 0 ∧ Blk wr (w.heap.size + 1 + 1) #[.int .i64 1, .int .i64 (n), .slice none 0 0] ∧ Blk wr (w.heap.size + 1) #[.int .i64 0, .int .i64 0, .slice none 0 0] ∧ Blk wr w.heap.size #[.int .i64 1, .int .i64 n, .slice A 0 c] ∧ Below w.heap.size w wr)
        (fun _ _ => 0)
      case atStart => exact ⟨rfl, Blk.new_ _ _ _ (by simp), (Blk.new_ _ _ _ (by simp)).alloc _, ((Blk.new_ _ _ _ rfl).alloc _).alloc _, (((Below.refl _ _).alloc (by simp) _).alloc (by simp) _).alloc (by simp; omega) _⟩
      case round =>
        obtain ⟨rfl, hB3, hB2, hB1, hb⟩ := hrel
        have b2 := hB1.at_ (i := 2) rfl
        have c0 : wr.cell? ⟨w.heap.size + 1 + 1, 0, none⟩ = some (.int .i64 1) := hB3.at_ rfl
        have c1 : wr.cell? ⟨w.heap.size + 1 + 1, 1, none⟩ = some (.int .i64 (n)) := hB3.at_ rfl
        have c2 : wr.cell? ⟨w.heap.size + 1 + 1, 2, none⟩ = some (.slice none 0 0) := hB3.at_ rfl
        have d0 : wr.cell? ⟨w.heap.size + 1, 0, none⟩ = some (.int .i64 0) := hB2.at_ rfl
        have d1 : wr.cell? ⟨w.heap.size + 1, 1, none⟩ = some (.int .i64 0) := hB2.at_ rfl
        have d2 : wr.cell? ⟨w.heap.size + 1, 2, none⟩ = some (.slice none 0 0) := hB2.at_ rfl
        have e0 := hB2.frozen 0
        have e1 := hB2.frozen 1
        have e2 := hB2.frozen 2
        go_wp2_with fail
        refine bodyPost_ret (v := .agg #[.int .i64 1, .int .i64 (n), .slice none 0 0]) (by simp [results, Try.results52, go_sem, d0, d1, d2]) rfl ⟨none, 0, by simp [shSL], by simp [shSL], ?_, ?_⟩
        · simpa [shSL] using (Fresh.nil : Fresh w.heap.size _ none [])
        · exact ((hb.setCell (by simp) _).setCell (by simp) _).setCell (by simp) _
  have hkids' := hide hkids
  have hm2' := hide hm2
  clear hkids ha hsh hm2
  have hk' := hk
  by_cases hk : k = 1
  · exact absurd hk hk'
  · have hn : (if k = 1 ∧ cut ≤ n then n + by_ else n) = n := by rw [if_neg]; rintro ⟨h, -⟩; exact hk h
    have q1 : (k == 1) = false := by simpa using hk
    rw [hn]
    clear hn hk
    go_enter Try.func52, Try.ntmps52
    go_wp2_with fail
    go_loopw [8] (fun i wr => ∃ (j : Nat) (v : Value), j ≤ ks.length ∧ i = .int .i64 j ∧ Part (w.heap.size + 3) wr v (shSL by_ k cut 0 (ks.take j)) ∧ Blk wr (w.heap.size + 1 + 1) #[.int .i64 k, .int .i64 (n), v] ∧ Blk wr (w.heap.size + 1) #[.int .i64 0, .int .i64 0, .slice none 0 0] ∧ Blk wr w.heap.size #[.int .i64 k, .int .i64 n, .slice A ks.length c] ∧ Below w.heap.size w wr)
      (fun i _ => ks.length - (intOf i).toNat)
    case atStart => exact ⟨0, _, Nat.zero_le _, rfl, Part.nil, Blk.new_ _ _ _ (by simp), (Blk.new_ _ _ _ (by simp)).alloc _, ((Blk.new_ _ _ _ rfl).alloc _).alloc _, (((Below.refl _ _).alloc (by simp) _).alloc (by simp) _).alloc (by simp; omega) _⟩
    case round =>
      obtain ⟨j, v, hj, rfl, hp, hB3, hB2, hB1, hb⟩ := hrel
      have c12 := hB1.at_ (i := 2) rfl
      by_cases hlt : j < ks.length
      · obtain ⟨b, off, k', n', ks', A', c', rfl, hkj, hc1, hc2, hc3, hl', hr'⟩ := (hr.below hb).at_ hlt
        have hsz := sizes_le (List.getElem_mem hlt)
        have hsk := hkids'.out _ (List.getElem_mem hlt)
        rw [hkj] at hsz hsk
        simp only [Tm.size] at hsz
        have H3 := hide hkj
        have H4 := hide hsk
        clear hkj hsk
        have hz := hB3.lt
        go_wp2_with fail
        have x2 := hB3.rule (i := 2) rfl
        have b0 := hB1.rule (i := 0) rfl
        have b2 := hB1.rule (i := 2) rfl
        have y0 := rule_of hc1
        have y1 := rule_of hc2
        have y2 := rule_of hc3
        have hun := under_le k j
        refine wp_region_firstY (fun w' => Below wr.heap.size wr w') [0, 1, 2, 3, 4, 5, 6, 7, 8, 9, 10, 11, 12, 13] [14, 15] [16, 17, 18] [_, _, _, _, _, _, _, _, _, _, _, _, _, _] [_, _] [_, _, _] (by kernel_rfl) (by kernel_rfl) rfl rfl rfl (fun _ _ d _ _ h => by cases d <;> exact h) (Below.refl _ _).drew ?_
        repeat (first | ((refine takeY_skip (a' := ?_) ?_ ?_ ?_); (rotate_left); (· (simp [Region.wanted, yielded]; done)); (· (simp only [List.getElem_toArray, List.getElem_cons_zero, List.getElem_cons_succ, Act.put, List.setIfInBounds_toArray, List.set_cons_zero, List.set_cons_succ]; exact rfl))) | ((refine takeY_step (v := ?_) (a' := ?_) ?_ ?_ ?_ ?_); (rotate_left 2); (· (simp [Region.wanted, yielded]; done)); (· (intro w' hS'; go_simp; try (with_reducible rfl))); (· (simp only [List.getElem_toArray, List.getElem_cons_zero, List.getElem_cons_succ, Act.put, List.setIfInBounds_toArray, List.set_cons_zero, List.set_cons_succ]; exact rfl))) | ((refine takeY_call (v := ?_) (a' := ?_) 50 ?_ ?_ ?_ ?_ ?_ ?_); (rotate_left 3); (· (simp [Region.wanted, yielded]; done)); (· (intro w' hS'; go_simp; try (with_reducible rfl))); (· (intro w' hS'; exact sUnder_any _ _ _)); (· (simp only [List.getElem_toArray, List.getElem_cons_zero, List.getElem_cons_succ, Act.put, List.setIfInBounds_toArray, List.set_cons_zero, List.set_cons_succ]; exact rfl))))
        refine takeY_nil (then_cons ?_)
        obtain ⟨n2, hn2⟩ : ∃ n2, (if k' = 1 ∧ cut + under k j ≤ n' then n' + by_ else n') = n2 := ⟨_, rfl⟩
        have hn2' := hide hn2
        clear hn2
        go_wp2_with (go_at_call 52; refine (ih k' n' ks' A' c' by_ (cut + under k j) q _ (by omega) (by omega) H4.out hby (by omega) (by omega) hr'.drew).mono ?_; rw [hn2'.out]; rintro e w1 ⟨A1, c1, rfl, hl1, hf1, hb1⟩)
        have hx1 : Below wr.heap.size wr w1 := (Below.refl _ _).drew.trans hb1
        refine mid_intro hx1 (then_cons ?_)
        go_wp2_with fail
        refine mid_intro (hx1.alloc hx1.size _) (then_nil ?_)
        refine wpList_append_built (B := w.heap.size + 3) (m := j) hp.drew hb1 (by simp; omega) hf1 hl1 (by rw [shSL_length]; simp; omega) (by omega) rfl (.tmp 36) (.tmp 50) rfl rfl rfl ?_
        intro A2 c2 w2 hp2 hb2 hg2
        have q3 : Blk w2 (w.heap.size + 1 + 1) #[.int .i64 k, .int .i64 (n), v] := (hB3.below hx1 (by omega)).below hb2 (by omega)
        have q2 : Blk w2 (w.heap.size + 1) #[.int .i64 0, .int .i64 0, .slice none 0 0] := (hB2.below hx1 (by omega)).below hb2 (by omega)
        have q1' : Blk w2 w.heap.size #[.int .i64 k, .int .i64 n, .slice (some ⟨b, off, none⟩) ks.length c] := (hB1.below hx1 (by omega)).below hb2 (by omega)
        have c3 : w2.cell? ⟨w.heap.size + 1 + 1, 2, none⟩ = some v := q3.at_ rfl
        have z3 := q3.frozen 2
        have hbf : Below w.heap.size w w2 := (hb.trans (hx1.mono (by omega))).trans (hb2.mono (by omega))
        clear x2 y0 y1 y2 b0 b2
        go_wp2_with fail
        go_roundw
        case rel => exact ⟨j + 1, _, by omega, by go_num, by rw [shSL_take by_ k cut hlt, H3.out, shS, hn2'.out]; exact hp2.setCell (by simp) _, q3.set_ 2 _, q2.far (by simp) _, q1'.far (by simp; omega) _, hbf.setCell (by simp; omega) _⟩
        case measure => simp [intOf]; omega
      · have hjl : j = ks.length := by omega
        subst hjl
        rw [List.take_length] at hp
        obtain ⟨Ar, cr, rfl, hfr⟩ := hp.fresh
        have c0 : wr.cell? ⟨w.heap.size + 1 + 1, 0, none⟩ = some (.int .i64 k) := hB3.at_ rfl
        have c1 : wr.cell? ⟨w.heap.size + 1 + 1, 1, none⟩ = some (.int .i64 (n)) := hB3.at_ rfl
        have c2 : wr.cell? ⟨w.heap.size + 1 + 1, 2, none⟩ = some (.slice Ar (shSL by_ k cut 0 ks).length cr) := hB3.at_ rfl
        have d0 : wr.cell? ⟨w.heap.size + 1, 0, none⟩ = some (.int .i64 0) := hB2.at_ rfl
        have d1 : wr.cell? ⟨w.heap.size + 1, 1, none⟩ = some (.int .i64 0) := hB2.at_ rfl
        have d2 : wr.cell? ⟨w.heap.size + 1, 2, none⟩ = some (.slice none 0 0) := hB2.at_ rfl
        have e0 := hB2.frozen 0
        have e1 := hB2.frozen 1
        have e2 := hB2.frozen 2
        go_wp2_with fail
        refine bodyPost_ret (v := .agg #[.int .i64 k, .int .i64 (n), .slice Ar (shSL by_ k cut 0 ks).length cr]) (by simp [results, Try.results52, go_sem, d0, d1, d2]) rfl ⟨Ar, cr, rfl, by rw [shSL_length]; omega, ?_, ?_⟩
        · exact (((hfr.setCell (by simp) _).setCell (by simp) _).setCell (by simp) _).mono (by omega)
        · exact ((hb.setCell (by simp) _).setCell (by simp) _).setCell (by simp) _
end Go.Proofs.Ytgmljpmnfncceaa

namespace Go.Proofs.Ytgmljpmnfncceaa
open Go.RowKit
set_option linter.unusedSimpArgs false
set_option linter.unusedVariables false

set_option maxHeartbeats 1000000 in
theorem sLeaf_any (k n : Int) (w : World) : Calls Try.prog 54 #[.int .i64 k, .int .i64 n] w fun e w' => e = .returned (.agg #[.int .i64 k, .int .i64 n, .slice none 0 0]) ∧ Below w.heap.size w w' := by
  go_enter Try.func54, Try.ntmps54
  go_wp2_with fail
  refine bodyPost_ret (v := .agg #[.int .i64 k, .int .i64 n, .slice none 0 0]) (by simp [results, Try.results54, go_sem]) rfl ⟨rfl, ?_⟩
  exact (Below.refl _ _).alloc (Nat.le_refl _) _

mutual
def flS (args : List Tm) : Int → Tm → Tm
  | d, .mk k n ks => if k = 1 ∧ d ≤ n then (if n < d + args.length then shS d 0 (args.getD (n - d).toNat default) else .mk 1 (n - args.length) []) else .mk k n (flSL args k d 0 ks)
def flSL (args : List Tm) : Int → Int → Nat → List Tm → List Tm | _, _, _, [] => [] | k, d, i, t :: ts => flS args (d + under k i) t :: flSL args k d (i + 1) ts
end

theorem flSL_append (args : List Tm) (k d : Int) (us : List Tm) : ∀ (ts : List Tm) (i : Nat), flSL args k d i (ts ++ us) = flSL args k d i ts ++ flSL args k d (i + ts.length) us
  | [], i => by simp [flSL]
  | t :: ts, i => by rw [List.cons_append, flSL, flSL, flSL_append args k d us ts (i + 1), List.cons_append, List.length_cons, show i + 1 + ts.length = i + (ts.length + 1) from by omega]
theorem flSL_length (args : List Tm) (k d : Int) : ∀ (ts : List Tm) (i : Nat), (flSL args k d i ts).length = ts.length
  | [], i => by simp [flSL]
  | t :: ts, i => by rw [flSL, List.length_cons, List.length_cons, flSL_length args k d ts (i + 1)]
theorem flSL_take (args : List Tm) (k d : Int) {ks : List Tm} {j : Nat} (hj : j < ks.length) : flSL args k d 0 (ks.take (j + 1)) = flSL args k d 0 (ks.take j) ++ [flS args (d + under k j) ks[j]] := by
  rw [List.take_succ_eq_append_getElem hj, flSL_append, List.length_take, Nat.min_eq_left (Nat.le_of_lt hj), Nat.zero_add, flSL, flSL]

end Go.Proofs.Ytgmljpmnfncceaa

namespace Go.Proofs.Ytgmljpmnfncceaa
open Go.RowKit
set_option linter.unusedSimpArgs false
set_option linter.unusedVariables false

set_option maxHeartbeats 2000000 in
set_option maxRecDepth 100000 in
theorem made_yes (k n : Int) (ks : List Tm) (A : Option Addr) (c : Nat) (w : World) (hM : sizes ks ≤ 1099511627775) (hr : Rd w A 0 ks) (hv : validT (.mk k n ks) = true) :
    Calls Try.prog 44 #[(.agg #[.int .i64 k, .int .i64 n, .slice A ks.length c])] w fun e w' => e = .returned (.tuple #[(.agg #[.int .i64 k, .int .i64 n, .slice A ks.length c]), .bool true]) ∧ Below w.heap.size w w' := by
  go_enter Try.func44, Try.ntmps44
  go_wp2_with (go_at_call 21; refine (sTermValid_any k n ks A c _ hM ((hr.alloc _).alloc _)).mono ?_; rw [hv]; rintro e w1 ⟨rfl, hb1⟩; have hB : Blk w1 w.heap.size #[.int .i64 k, .int .i64 n, .slice A ks.length c] := ((Blk.new_ w 28 #[.int .i64 k, .int .i64 n, .slice A ks.length c] rfl).alloc _).keep hb1; have hT : Blk w1 (w.heap.size + 1) #[.int .i64 0, .int .i64 0, .slice none 0 0] := (Blk.new_ _ 28 _ (by simp)).keep hb1; obtain ⟨p0, p1, p2⟩ := hB.three; obtain ⟨d0, d1, d2⟩ := hT.three; have e0 := hT.frozen 0; have e1 := hT.frozen 1; have e2 := hT.frozen 2; replace hb1 : Below w.heap.size w w1 := (((Below.refl _ _).alloc (Nat.le_refl _) _).alloc (by simp) _).trans (hb1.mono (by simp; omega)))
  refine bodyPost_ret (v := .tuple #[(.agg #[.int .i64 k, .int .i64 n, .slice A ks.length c]), .bool true]) (by simp [results, Try.results44, go_sem, d0, d1, d2]) rfl ⟨rfl, ?_⟩
  exact ((hb1.setCell (by simp) _).setCell (by simp) _).setCell (by simp) _
set_option maxHeartbeats 2000000 in
set_option maxRecDepth 100000 in
theorem made_no (k n : Int) (ks : List Tm) (A : Option Addr) (c : Nat) (w : World) (hM : sizes ks ≤ 1099511627775) (hr : Rd w A 0 ks) (hv : validT (.mk k n ks) = false) :
    Calls Try.prog 44 #[(.agg #[.int .i64 k, .int .i64 n, .slice A ks.length c])] w fun e w' => e = .returned (.tuple #[.agg #[.int .i64 0, .int .i64 0, .slice none 0 0], .bool false]) ∧ Below w.heap.size w w' := by
  go_enter Try.func44, Try.ntmps44
  go_wp2_with (go_at_call 21; refine (sTermValid_any k n ks A c _ hM ((hr.alloc _).alloc _)).mono ?_; rw [hv]; rintro e w1 ⟨rfl, hb1⟩; have hT : Blk w1 (w.heap.size + 1) #[.int .i64 0, .int .i64 0, .slice none 0 0] := (Blk.new_ _ 28 _ (by simp)).keep hb1; obtain ⟨d0, d1, d2⟩ := hT.three; have e0 := hT.frozen 0; have e1 := hT.frozen 1; have e2 := hT.frozen 2; replace hb1 : Below w.heap.size w w1 := (((Below.refl _ _).alloc (Nat.le_refl _) _).alloc (by simp) _).trans (hb1.mono (by simp; omega)))
  refine bodyPost_ret (v := .tuple #[.agg #[.int .i64 0, .int .i64 0, .slice none 0 0], .bool false]) (by simp [results, Try.results44, go_sem, d0, d1, d2]) rfl ⟨rfl, ?_⟩
  exact ((hb1.setCell (by simp) _).setCell (by simp) _).setCell (by simp) _

set_option maxHeartbeats 2000000 in
set_option maxRecDepth 100000 in
theorem sFits5_any (args : List Tm) (B : Option Addr) (cb : Nat) (w : World) (hM : sizes args ≤ 1099511627775) (hr : Rd w B 0 args) :
    Calls Try.prog 81 #[.slice B args.length cb] w fun e w' => e = .returned (.bool (!(args.any fun a => !validT a) && decide ((args.length : Int) ≤ 8))) ∧ Below w.heap.size w w' := by
  have hlen := length_le_sizes args
  go_enter Try.func81, Try.ntmps81
  go_wp2_with fail
  go_loopw [3] (fun i wr => ∃ j : Nat, j ≤ args.length ∧ i = .int .i64 j ∧ Hid (∀ t, t ∈ args.take j → validT t = true) ∧ Below w.heap.size w wr) (fun i _ => args.length - (intOf i).toNat)
  case atStart => exact ⟨0, Nat.zero_le _, rfl, hide (by simp), Below.refl _ _⟩
  case round =>
    obtain ⟨j, hj, rfl, hall, hb⟩ := hrel
    by_cases hlt : j < args.length
    · obtain ⟨b, off, k1, n1, ks1, A1, c1, rfl, hkj, hc1, hc2, hc3, hl1, hr1⟩ := (hr.below hb).at_ hlt
      have hsz := sizes_le (List.getElem_mem hlt)
      rw [hkj] at hsz
      simp only [Tm.size] at hsz
      have H3 := hide hkj
      clear hkj
      cases hv1 : validT (.mk k1 n1 ks1) with
      | false =>
        go_wp2_with (go_at_call 21; refine (sTermValid_any k1 n1 ks1 A1 c1 _ (by omega) hr1).mono ?_; rw [hv1]; rintro e w3 ⟨rfl, hb3⟩)
        go_ret
        refine ⟨?_, hb.trans (hb3.mono hb.size)⟩
        rw [show (args.any fun a => !validT a) = true from List.any_eq_true.2 ⟨args[j], List.getElem_mem hlt, by rw [H3.out, hv1]; rfl⟩]; rfl
      | true =>
        go_wp2_with (go_at_call 21; refine (sTermValid_any k1 n1 ks1 A1 c1 _ (by omega) hr1).mono ?_; rw [hv1]; rintro e w3 ⟨rfl, hb3⟩)
        go_roundw
        case rel => exact ⟨j + 1, hlt, by go_num, hide (all_take hlt hall.out (by rw [H3.out]; exact hv1)), hb.trans (hb3.mono hb.size)⟩
        case measure => simp [intOf]; omega
    · have hje : j = args.length := by omega
      go_wp2_with fail
      go_ret
      refine ⟨?_, hb⟩
      have ha := hall.out
      rw [hje, List.take_length] at ha
      rw [show (args.any fun a => !validT a) = false from List.any_eq_false.2 fun t ht => by rw [ha t ht]; exact Bool.false_ne_true]; simp

theorem shS_size (by_ : Int) (t : Tm) : ∀ d, (shS by_ d t).size = t.size := by
  refine Tm.rec (motive_1 := fun t => ∀ d, (shS by_ d t).size = t.size) (motive_2 := fun ts => ∀ k d i, sizes (shSL by_ k d i ts) = sizes ts) ?_ ?_ ?_ t
  · intro k n ks ih d; rw [shS, Tm.size, Tm.size, ih]
  · intro k d i; rfl
  · intro t ts h1 h2 k d i; rw [shSL, sizes, sizes, h1, h2]
theorem flS_size (args : List Tm) (hs : ∀ t, t ∈ args → t.size ≤ 400) (t : Tm) : ∀ d, (flS args d t).size ≤ t.size * 400 := by
  refine Tm.rec (motive_1 := fun t => ∀ d, (flS args d t).size ≤ t.size * 400) (motive_2 := fun ts => ∀ k d i, sizes (flSL args k d i ts) ≤ sizes ts * 400) ?_ ?_ ?_ t
  · intro k n ks ih d
    rw [flS]
    have h3 := ih k d 0
    split
    · split
      · rename_i h1 h2
        rw [shS_size, List.getD_eq_getElem?_getD]
        have hlt : (n - d).toNat < args.length := by omega
        rw [List.getElem?_eq_getElem hlt, Option.getD_some]
        have := hs _ (List.getElem_mem hlt)
        simp only [Tm.size]; omega
      · simp only [Tm.size, sizes]; omega
    · simp only [Tm.size]; omega
  · intro k d i; simp [flSL, sizes]
  · intro t ts h1 h2 k d i; have a := h1 (d + under k i); have b := h2 k d (i + 1); rw [flSL, sizes, sizes]; omega

/-- what the reference's FillTerm answers -/
def fillTS (t : Tm) (args : List Tm) : Option Tm := if validT t = true ∧ args.length ≤ 6 ∧ (args.any fun a => !validT a) = false ∧ validT (flS args 0 t) = true then some (flS args 0 t) else none

end Go.Proofs.Ytgmljpmnfncceaa

namespace Go.Proofs.Ytgmljpmnfncceaa
open Go.RowKit
set_option linter.unusedSimpArgs false
set_option linter.unusedVariables false

theorem shape_pos {q : Nat} {k n : Int} {ks : List Tm} (h : shape q (.mk k n ks) = true) : ∃ q', q = q' + 1 ∧ arity k = (ks.length : Int) ∧ 0 ≤ n ∧ n ≤ mostN k ∧ ∀ t, t ∈ ks → shape q' t = true := by
  cases q with
  | zero => simp [shape] at h
  | succ q => exact ⟨q, rfl, (shape_split q k n ks).1 h⟩
theorem var_nil {ks : List Tm} (h : arity 1 = (ks.length : Int)) : ks = [] := by
  have h0 : arity 1 = 0 := rfl
  rw [h0] at h
  exact List.eq_nil_of_length_eq_zero (by omega)

theorem shS_chg (by_ cut : Int) (t : Tm) : ∀ (q : Nat) (e : Int), shape q t = true → chg (shF by_ cut) e t = shS by_ (cut + e) t := by
  refine Tm.rec (motive_1 := fun t => ∀ (q : Nat) (e : Int), shape q t = true → chg (shF by_ cut) e t = shS by_ (cut + e) t)
    (motive_2 := fun ts => ∀ (q : Nat) (k e : Int) (i : Nat), (∀ t, t ∈ ts → shape q t = true) → chgs (shF by_ cut) k e i ts = shSL by_ k (cut + e) i ts) ?_ ?_ ?_ t
  · intro k n ks ih q e h
    obtain ⟨q', rfl, ha, h0, h1, hk⟩ := shape_pos h
    rw [chg, shS]
    by_cases h1 : k = 1
    · subst h1
      have := var_nil ha
      subst this
      rw [if_pos rfl, shF, shSL]
      congr 1
      by_cases hc : cut ≤ n - e
      · rw [if_pos hc, if_pos ⟨rfl, by omega⟩]
      · rw [if_neg hc, if_neg (by rintro ⟨-, h⟩; omega)]
    · rw [if_neg h1, if_neg (by rintro ⟨h, -⟩; exact h1 h), ih q' k e 0 hk]
  · intro q k e i _; rfl
  · intro t ts h1 h2 q k e i hk
    rw [chgs, shSL, h1 q _ (hk t List.mem_cons_self), h2 q k e (i + 1) (fun t ht => hk t (List.mem_cons_of_mem _ ht)), show cut + (e + under k i) = cut + e + under k i by omega]

theorem shOk_of_shape (by_ cut : Int) (hb : 0 ≤ by_) (t : Tm) : ∀ (q p : Nat) (e : Int), shape q t = true → shape p (shS by_ (cut + e) t) = true → chgOk (shOk by_ cut) e t = true := by
  refine Tm.rec (motive_1 := fun t => ∀ (q p : Nat) (e : Int), shape q t = true → shape p (shS by_ (cut + e) t) = true → chgOk (shOk by_ cut) e t = true)
    (motive_2 := fun ts => ∀ (q p : Nat) (k e : Int) (i : Nat), (∀ t, t ∈ ts → shape q t = true) → (∀ t, t ∈ shSL by_ k (cut + e) i ts → shape p t = true) → chgsOk (shOk by_ cut) k e i ts = true) ?_ ?_ ?_ t
  · intro k n ks ih q p e h hp
    obtain ⟨q', rfl, ha, h0, h1, hk⟩ := shape_pos h
    rw [shS] at hp
    obtain ⟨p', rfl, hpa, hp0, hp1, hpk⟩ := shape_pos hp
    rw [chgOk]
    by_cases h1 : k = 1
    · subst h1
      have h20 : mostN 1 = 20 := rfl
      rw [if_pos rfl, shOk]
      by_cases hc : cut ≤ n - e
      · rw [if_pos ⟨rfl, by omega⟩] at hp1
        rw [if_pos hc, decide_eq_true (by omega), decide_eq_true (by omega)]; rfl
      · rw [if_neg hc]
    · rw [if_neg h1]; exact ih q' p' k e 0 hk hpk
  · intro q p k e i _ _; rfl
  · intro t ts h1 h2 q p k e i hk hp
    rw [shSL] at hp
    rw [chgsOk, h1 q p _ (hk t List.mem_cons_self) (by rw [show cut + (e + under k i) = cut + e + under k i by omega]; exact hp _ List.mem_cons_self), h2 q p k e (i + 1) (fun t ht => hk t (List.mem_cons_of_mem _ ht)) (fun t ht => hp t (List.mem_cons_of_mem _ ht))]; rfl

theorem shape_up {p q : Nat} (h : p ≤ q) (t : Tm) : shape p t = true → shape q t = true := by
  induction p generalizing q t with
  | zero => intro hp; simp [shape] at hp
  | succ p ih =>
    intro hp
    obtain ⟨k, n, ks⟩ := t
    obtain ⟨q', rfl⟩ : ∃ q', q = q' + 1 := ⟨q - 1, by omega⟩
    obtain ⟨a, b, c, d⟩ := (shape_split p k n ks).1 hp
    exact (shape_split q' k n ks).2 ⟨a, b, c, fun t ht => ih (by omega) t (d t ht)⟩

/-- what fill lays in a variable's place is the reference's, where it goes well -/
theorem shiftI_some {d : Int} {a : Tm} (hs : shape 30 a = true) (h : (shiftI d 0 a).isSome = true) : (shiftI d 0 a).getD (.mk 0 0 []) = shS d 0 a := by
  unfold shiftI at h ⊢
  split
  · rename_i h1
    rw [if_pos h1] at h
    split
    · rw [Option.getD_some, shS_chg d 0 a 30 0 hs, Int.zero_add]
    · rename_i h2; rw [if_neg h2] at h; cases h
  · rename_i h1; rw [if_neg h1] at h; cases h
theorem shiftI_ok {d : Int} {a : Tm} (hd : 0 ≤ d) (hs : shape 30 a = true) (h : validT (shS d 0 a) = true) : (shiftI d 0 a).isSome = true := by
  have hsh : shape 30 (shS d 0 a) = true := by simp only [validT, Bool.and_eq_true] at h; exact h.1
  have h1 : chgOk (shOk d 0) 0 a = true := shOk_of_shape d 0 hd a 30 30 0 hs (by rw [Int.zero_add]; exact hsh)
  unfold shiftI
  rw [if_pos h1, shS_chg d 0 a 30 0 hs, Int.zero_add, if_pos h]; rfl

section
variable {args : List Tm} (hsa : ∀ t, t ∈ args → shape 30 t = true)
include hsa
theorem filled (t : Tm) : ∀ (q : Nat) (d : Int), 0 ≤ d → shape q t = true → chgOk (filOk args) d t = true → chg (filF args) d t = flS args d t := by
  refine Tm.rec (motive_1 := fun t => ∀ (q : Nat) (d : Int), 0 ≤ d → shape q t = true → chgOk (filOk args) d t = true → chg (filF args) d t = flS args d t)
    (motive_2 := fun ts => ∀ (q : Nat) (k d : Int) (i : Nat), 0 ≤ d → (∀ t, t ∈ ts → shape q t = true) → chgsOk (filOk args) k d i ts = true → chgs (filF args) k d i ts = flSL args k d i ts) ?_ ?_ ?_ t
  · intro k n ks ih q d hd h hok
    obtain ⟨q', rfl, ha, h0, h1, hk⟩ := shape_pos h
    rw [chgOk] at hok
    rw [chg, flS]
    by_cases h1 : k = 1
    · subst h1
      have := var_nil ha
      subst this
      rw [if_pos rfl] at hok ⊢
      unfold filOk at hok
      unfold filF
      by_cases h2 : n - d < 0
      · rw [if_pos h2, if_neg (by rintro ⟨-, h⟩; omega), flSL]
      · rw [if_neg h2] at hok ⊢
        rw [if_pos (show (1 : Int) = 1 ∧ d ≤ n from ⟨rfl, by omega⟩)]
        by_cases h3 : (args.length : Int) ≤ n - d
        · rw [if_pos h3, if_neg (show ¬ n < d + (args.length : Int) by omega)]
        · rw [if_neg h3] at hok ⊢
          rw [if_pos (show n < d + (args.length : Int) by omega)]
          have hlt : (n - d).toNat < args.length := by omega
          have hsx : shape 30 (args.getD (n - d).toNat default) = true := by
            rw [List.getD_eq_getElem?_getD, List.getElem?_eq_getElem hlt, Option.getD_some]; exact hsa _ (List.getElem_mem hlt)
          exact shiftI_some hsx hok
    · rw [if_neg h1] at hok ⊢
      rw [if_neg (by rintro ⟨h, -⟩; exact h1 h), ih q' k d 0 hd hk hok]
  · intro q k d i _ _ _; rfl
  · intro t ts h1 h2 q k d i hd hk hok
    rw [chgsOk, Bool.and_eq_true] at hok
    rw [chgs, flSL, h1 q _ (by have := under_le k i; omega) (hk t List.mem_cons_self) hok.1, h2 q k d (i + 1) hd (fun t ht => hk t (List.mem_cons_of_mem _ ht)) hok.2]

theorem fill_ok (t : Tm) : ∀ (q p : Nat) (d : Int), 0 ≤ d → p ≤ 30 → shape q t = true → shape p (flS args d t) = true → (flS args d t).size ≤ 400 → chgOk (filOk args) d t = true := by
  refine Tm.rec (motive_1 := fun t => ∀ (q p : Nat) (d : Int), 0 ≤ d → p ≤ 30 → shape q t = true → shape p (flS args d t) = true → (flS args d t).size ≤ 400 → chgOk (filOk args) d t = true)
    (motive_2 := fun ts => ∀ (q p : Nat) (k d : Int) (i : Nat), 0 ≤ d → p ≤ 30 → (∀ t, t ∈ ts → shape q t = true) → (∀ t, t ∈ flSL args k d i ts → shape p t = true) → sizes (flSL args k d i ts) ≤ 400 → chgsOk (filOk args) k d i ts = true) ?_ ?_ ?_ t
  · intro k n ks ih q p d hd hp h hs hz
    obtain ⟨q', rfl, ha, h0, h1, hk⟩ := shape_pos h
    rw [chgOk]
    rw [flS] at hs hz
    by_cases h1 : k = 1
    · subst h1
      rw [if_pos rfl]
      unfold filOk
      by_cases h2 : n - d < 0
      · rw [if_pos h2]
      · rw [if_neg h2]
        by_cases h3 : (args.length : Int) ≤ n - d
        · rw [if_pos h3]
        · rw [if_neg h3]
          rw [if_pos (show (1 : Int) = 1 ∧ d ≤ n from ⟨rfl, by omega⟩), if_pos (show n < d + (args.length : Int) by omega)] at hs hz
          have hlt : (n - d).toNat < args.length := by omega
          have hsx : shape 30 (args.getD (n - d).toNat default) = true := by
            rw [List.getD_eq_getElem?_getD, List.getElem?_eq_getElem hlt, Option.getD_some]; exact hsa _ (List.getElem_mem hlt)
          refine shiftI_ok hd hsx ?_
          rw [validT, shape_up hp _ hs, decide_eq_true hz]; rfl
    · rw [if_neg h1]
      have hn : ¬ (k = 1 ∧ d ≤ n) := by rintro ⟨h, -⟩; exact h1 h
      rw [if_neg hn] at hs hz
      obtain ⟨p', rfl, hpa, hp0, hp1, hpk⟩ := shape_pos hs
      rw [Tm.size] at hz
      exact ih q' p' k d 0 hd (by omega) hk hpk (by omega)
  · intro q p k d i _ _ _ _ _; rfl
  · intro t ts h1 h2 q p k d i hd hp hk hs hz
    rw [flSL] at hs hz
    rw [sizes] at hz
    rw [chgsOk, h1 q p _ (by have := under_le k i; omega) hp (hk t List.mem_cons_self) (hs _ List.mem_cons_self) (by omega), h2 q p k d (i + 1) hd hp (fun t ht => hk t (List.mem_cons_of_mem _ ht)) (fun t ht => hs t (List.mem_cons_of_mem _ ht)) (by omega)]; rfl
end

theorem fill_same (t : Tm) (args : List Tm) : fillTS t args = fillTI t args := by
  unfold fillTS fillTI
  by_cases hv : validT t = true
  · by_cases hl : args.length ≤ 6
    · by_cases ha : (args.any fun a => !validT a) = false
      · rw [if_pos (⟨hv, hl, ha⟩ : _ ∧ _ ∧ _)]
        have hval : ∀ t, t ∈ args → shape 30 t = true := fun t ht => by
          have : validT t = true := by simpa using List.any_eq_false.1 ha t ht
          simp only [validT, Bool.and_eq_true] at this
          exact this.1
        have hs : shape 30 t = true := by simp only [validT, Bool.and_eq_true] at hv; exact hv.1
        unfold fillI
        by_cases hok : chgOk (filOk args) 0 t = true
        · rw [if_pos hok, filled hval t 30 0 (Int.le_refl 0) hs hok]
          by_cases h4 : validT (flS args 0 t) = true
          · rw [if_pos ⟨hv, hl, ha, h4⟩, if_pos h4]
          · rw [if_neg (by rintro ⟨-, -, -, h⟩; exact h4 h), if_neg h4]
        · rw [if_neg hok, if_neg]
          rintro ⟨-, -, -, h4⟩
          simp only [validT, Bool.and_eq_true, decide_eq_true_eq] at h4
          exact hok (fill_ok hval t 30 30 0 (Int.le_refl 0) (Nat.le_refl _) hs h4.1 h4.2)
      · rw [if_neg (by rintro ⟨-, -, h, -⟩; exact ha h), if_neg (by rintro ⟨-, -, h⟩; exact ha h)]
    · rw [if_neg (by rintro ⟨-, h, -⟩; exact hl h), if_neg (by rintro ⟨-, h, -⟩; exact hl h)]
  · rw [if_neg (by rintro ⟨h, -⟩; exact hv h), if_neg (by rintro ⟨h, -⟩; exact hv h)]
end Go.Proofs.Ytgmljpmnfncceaa
