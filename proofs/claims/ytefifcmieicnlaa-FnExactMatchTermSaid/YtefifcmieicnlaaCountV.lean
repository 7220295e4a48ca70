/-
  countVar of the implementation. No condition.
-/
import Derived.Test.YtefifcmieicnlaaKeeps
namespace Go.Proofs.Ytefifcmieicnlaa
open Go.RowKit
set_option linter.unusedSimpArgs false
set_option linter.unusedVariables false

mutual
/-- how often a variable stands free -/
def cnV (x : Int) : Int → Tm → Nat | d, .mk k n ks => (if k = 1 ∧ d ≤ n ∧ n - d = x then 1 else 0) + cnVL x k d 0 ks
def cnVL (x : Int) : Int → Int → Nat → List Tm → Nat | _, _, _, [] => 0 | k, d, i, t :: ts => cnV x (d + under k i) t + cnVL x k d (i + 1) ts
end
theorem cnVL_append (x k d : Int) (us : List Tm) : ∀ (ts : List Tm) (i : Nat), cnVL x k d i (ts ++ us) = cnVL x k d i ts + cnVL x k d (i + ts.length) us
  | [], i => by simp [cnVL]
  | t :: ts, i => by rw [List.cons_append, cnVL, cnVL, cnVL_append x k d us ts (i + 1), List.length_cons, show i + 1 + ts.length = i + (ts.length + 1) from by omega, Nat.add_assoc]
theorem cnVL_take (x k d : Int) {ks : List Tm} {j : Nat} (hj : j < ks.length) : cnVL x k d 0 (ks.take (j + 1)) = cnVL x k d 0 (ks.take j) + cnV x (d + under k j) ks[j] := by
  rw [List.take_succ_eq_append_getElem hj, cnVL_append, List.length_take, Nat.min_eq_left (Nat.le_of_lt hj), Nat.zero_add, cnVL, cnVL, Nat.add_zero]
theorem cnV_size (x : Int) (t : Tm) : ∀ d, cnV x d t ≤ t.size := by
  refine Tm.rec (motive_1 := fun t => ∀ d, cnV x d t ≤ t.size) (motive_2 := fun ts => ∀ k d i, cnVL x k d i ts ≤ sizes ts) ?_ ?_ ?_ t
  · intro k n ks ih d; rw [cnV, Tm.size]; have := ih k d 0; split <;> omega
  · intro k d i; simp [cnVL]
  · intro t ts h1 h2 k d i; rw [cnVL, sizes]; have := h1 (d + under k i); have := h2 k d (i + 1); omega

theorem cnVL_size (x k d : Int) (i : Nat) (ts : List Tm) : cnVL x k d i ts ≤ sizes ts := by
  induction ts generalizing i with
  | nil => simp [cnVL]
  | cons t ts ih => rw [cnVL, sizes]; have := cnV_size x t (d + under k i); have := ih (i + 1); omega
theorem grown_below {w w' : World} {g B : Nat} (h : w.grownBy w' (some g)) (hB : B ≤ w.heap.size) (hg : B ≤ g) : Below B w w' :=
  ⟨h.os, h.tape, h.output, h.size, fun b hb => h.block b (by omega) (by simp; omega)⟩

def UnitV : Value := .tuple #[]
set_option maxHeartbeats 2000000 in
set_option maxRecDepth 100000 in
theorem cl142_any (z x cc : Int) (bi g : Nat) (w : World) (hi : Blk w bi #[.int .i64 x]) (hg : Blk w g #[.int .i64 cc]) (h0 : 0 ≤ cc) (h1 : cc ≤ 1000000000) (hne : bi ≠ g) :
    Calls Try.prog 142 #[.int .i64 z, .pointer (some ⟨bi, 0, none⟩), .pointer (some ⟨g, 0, none⟩)] w fun e w' => e = .returned UnitV ∧ Blk w' g #[.int .i64 (if z = x then cc + 1 else cc)] ∧ w.grownBy w' (some g) := by
  have a0 := hi.at_ (i := 0) rfl
  have a1 := hg.at_ (i := 0) rfl
  have a2 := hg.frozen 0
  by_cases hz : z = x
  · rw [if_pos hz]
    have q : (z == x) = true := by simpa using hz
    clear hz
    go_enter Try.func142, Try.ntmps142
    go_wp2_with fail
    first | (refine bodyPost_ret (results_none rfl _ _ _) rfl ?_) | (refine bodyPost_end (results_none rfl _ _ _) rfl ?_)
    exact ⟨rfl, hg.set_ 0 _, only_setCell (World.grownBy.refl _ _) (.inl rfl) _⟩
  · rw [if_neg hz]
    have q : (z == x) = false := by simpa using hz
    clear hz
    go_enter Try.func142, Try.ntmps142
    go_wp2_with fail
    first | (refine bodyPost_ret (results_none rfl _ _ _) rfl ?_) | (refine bodyPost_end (results_none rfl _ _ _) rfl ?_)
    exact ⟨rfl, hg, World.grownBy.refl _ _⟩

def CntPost (g : Nat) (cc : Int) (w : World) (e : Ending) (w' : World) : Prop := e = .returned UnitV ∧ Blk w' g #[.int .i64 cc] ∧ w.grownBy w' (some g)
set_option maxHeartbeats 2000000 in
set_option maxRecDepth 100000 in
theorem free_any (x : Int) (N : Nat) : ∀ (k n : Int) (ks : List Tm) (A : Option Addr) (c : Nat) (d : Int) (q : Nat) (bi g : Nat) (cc : Int) (w : World), sizes ks < N → shape q (.mk k n ks) = true → 0 ≤ d → d + q ≤ 1000 → bi ≠ g → Blk w bi #[.int .i64 x] → Blk w g #[.int .i64 cc] → 0 ≤ cc → cc + sizes ks ≤ 900000000 → RdP (· ≠ g) w A 0 ks →
    Calls Try.prog 141 #[.agg #[.int .i64 k, .int .i64 n, .slice A ks.length c], .int .i64 d, .func (.func 142) #[] #[.pointer (some ⟨bi, 0, none⟩), .pointer (some ⟨g, 0, none⟩)]] w (CntPost g (cc + cnV x d (.mk k n ks)) w) := by
  induction N with
  | zero => intro k n ks A c d q bi g cc w hN; exact absurd hN (Nat.not_lt_zero _)
  | succ N ih =>
  intro k n ks A c d q bi g cc w hN hsh hd hdq hne hi hg h0 hM hr
  have hrun := run_enter Try.func142 (by kernel_rfl) (by kernel_rfl)
  have hlen := length_le_sizes ks
  obtain ⟨q, rfl, ha, hm1, hm2, hkids⟩ := shape_pos hsh
  have hgl := hg.lt
  have hil := hi.lt
  rw [cnV]
  by_cases hk : k = 1
  · subst hk
    have := var_nil ha
    subst this
    have hn2 : n ≤ 20 := by simpa [mostN] using hm2
    rw [cnVL]
    clear hkids hsh ha hm2
    by_cases h1 : d ≤ n
    · have q1 : decide (d ≤ n) = true := decide_eq_true h1
      have hcc : cc + ((if 1 = (1 : Int) ∧ d ≤ n ∧ n - d = x then 1 else 0) + 0 : Nat) = if n - d = x then cc + 1 else cc := by
        by_cases h2 : n - d = x
        · rw [if_pos ⟨rfl, h1, h2⟩, if_pos h2]; rfl
        · rw [if_neg (by rintro ⟨-, -, h⟩; exact h2 h), if_neg h2]; simp
      rw [hcc]
      clear hcc
      generalize hcv : (if n - d = x then cc + 1 else cc) = cv
      have hcv' := hide hcv
      have h1' := hide h1
      clear hcv h1
      go_enter Try.func141, Try.ntmps141
      go_wp2_with (refine (cl142_any (n - d) x cc bi g _ (hi.alloc _) (hg.alloc _) h0 (by simp [sizes] at hM; omega) hne).mono ?_; rw [hcv'.out]; rintro e w1 ⟨rfl, hg1, hb1⟩; have hB1 := (Blk.new_ (n := w.heap.size) w 29 #[.int .i64 1, .int .i64 n, .slice A 0 c] rfl).grown hb1 (by simp; omega); replace hb1 := only_trans (only_alloc (World.grownBy.refl _ _) _) hb1; have b2 := hB1.at_ (i := 2) rfl)
      go_loopw [26] (fun i wr => i = .int .i64 0 ∧ Blk wr g #[.int .i64 (cv)] ∧ w.grownBy wr (some g)) (fun _ _ => 0)
      case atStart => exact ⟨rfl, hg1, hb1⟩
      case round =>
        obtain ⟨rfl, hG, hgr⟩ := hrel
        go_wp2_with fail
        first | (refine bodyPost_ret (results_none rfl _ _ _) rfl ?_) | (refine bodyPost_end (results_none rfl _ _ _) rfl ?_)
        exact ⟨rfl, hG, hgr⟩
    · have q1 : decide (d ≤ n) = false := decide_eq_false h1
      rw [if_neg (by rintro ⟨-, h, -⟩; exact h1 h)]
      clear h1
      go_enter Try.func141, Try.ntmps141
      go_wp2_with fail
      have hb1 : w.grownBy (w.alloc (.cells #[.int .i64 1, .int .i64 n, .slice A 0 c] 29)) (some g) := only_alloc (World.grownBy.refl _ _) _
      have hg1 := hg.alloc (.cells #[.int .i64 1, .int .i64 n, .slice A 0 c] 29)
      rw [show cc + ((0 + 0 : Nat) : Int) = cc by simp]
      go_loopw [26] (fun i wr => i = .int .i64 0 ∧ Blk wr g #[.int .i64 (cc)] ∧ w.grownBy wr (some g)) (fun _ _ => 0)
      case atStart => exact ⟨rfl, hg1, hb1⟩
      case round =>
        obtain ⟨rfl, hG, hgr⟩ := hrel
        go_wp2_with fail
        first | (refine bodyPost_ret (results_none rfl _ _ _) rfl ?_) | (refine bodyPost_end (results_none rfl _ _ _) rfl ?_)
        exact ⟨rfl, hG, hgr⟩
  · have q1 : (k == 1) = false := by simpa using hk
    rw [if_neg (by rintro ⟨h, -⟩; exact hk h), Nat.zero_add]
    have hkids' := hide hkids
    clear hk hkids hsh ha hm2
    go_enter Try.func141, Try.ntmps141
    go_wp2_with fail
    go_loopw [26] (fun i wr => ∃ (j : Nat), j ≤ ks.length ∧ i = .int .i64 j ∧ Blk wr g #[.int .i64 (cc + cnVL x k d 0 (ks.take j))] ∧ Blk wr bi #[.int .i64 x] ∧ Blk wr w.heap.size #[.int .i64 k, .int .i64 n, .slice A ks.length c] ∧ w.grownBy wr (some g)) (fun i _ => ks.length - (intOf i).toNat)
    case atStart => exact ⟨0, Nat.zero_le _, rfl, by simpa [cnVL] using hg.alloc _, hi.alloc _, Blk.new_ _ _ _ rfl, only_alloc (World.grownBy.refl _ _) _⟩
    case round =>
      obtain ⟨j, hj, rfl, hG, hI, hB1, hgr⟩ := hrel
      by_cases hlt : j < ks.length
      · obtain ⟨b, off, k1, n1, ks1, A1, c1, rfl, hkj, hc1, hc2, hc3, hl1, hr1⟩ := (hr.grown hgr (fun b hb e => hb (by injection e))).at_ hlt
        have hbl := World.block_lt_of_cell? _ _ hc1
        have hsz := sizes_le (List.getElem_mem hlt)
        have hst := sizes_take ks j hlt
        have hst2 := sizes_take_le ks (j + 1)
        have hcs : cnVL x k d 0 (ks.take j) ≤ sizes (ks.take j) := cnVL_size x _ _ _ _
        have hsk := hkids'.out _ (List.getElem_mem hlt)
        rw [hkj] at hsz hsk hst
        simp only [Tm.size] at hsz hst
        have H3 := hide hkj
        have H4 := hide hsk
        clear hkj hsk
        go_wp2_with fail
        have hNew := Blk.new_ (n := wr.heap.size) wr 29 #[.int .i64 k1, .int .i64 n1, .slice A1 ks1.length c1] rfl
        have hB1a := hB1.alloc (.cells #[.int .i64 k1, .int .i64 n1, .slice A1 ks1.length c1] 29)
        have hGa := hG.alloc (.cells #[.int .i64 k1, .int .i64 n1, .slice A1 ks1.length c1] 29)
        have hIa := hI.alloc (.cells #[.int .i64 k1, .int .i64 n1, .slice A1 ks1.length c1] 29)
        have hra := hr1.alloc (.cells #[.int .i64 k1, .int .i64 n1, .slice A1 ks1.length c1] 29)
        have hwa : wr.grownBy (wr.alloc (.cells #[.int .i64 k1, .int .i64 n1, .slice A1 ks1.length c1] 29)) (some g) := only_alloc (World.grownBy.refl _ _) _
        generalize wr.alloc (.cells #[.int .i64 k1, .int .i64 n1, .slice A1 ks1.length c1] 29) = wa at hNew hB1a hGa hIa hra hwa ⊢
        have r7 := hB1a.rule (i := 0) rfl
        have r1 := hNew.rule (i := 0) rfl
        have r2 := hNew.rule (i := 1) rfl
        have r3 := hNew.rule (i := 2) rfl
        have hun := under_le k j
        refine wp_region_firstY (fun w' => Below wa.heap.size wa w') [0, 1, 2, 3, 4, 5, 6, 7] [] [8] [_, _, _, _, _, _, _, _] [] [_] (by kernel_rfl) (by kernel_rfl) rfl rfl rfl (fun _ _ d _ _ h => by cases d <;> exact h) (Below.refl _ _).drew ?_
        repeat (first | ((refine takeY_skip (a' := ?_) ?_ ?_ ?_); (rotate_left); (· (simp [Region.wanted, yielded]; done)); (· (simp only [List.getElem_toArray, List.getElem_cons_zero, List.getElem_cons_succ, Act.put, List.setIfInBounds_toArray, List.set_cons_zero, List.set_cons_succ]; exact rfl))) | ((refine takeY_step (v := ?_) (a' := ?_) ?_ ?_ ?_ ?_); (rotate_left 2); (· (simp [Region.wanted, yielded]; done)); (· (intro w' hS'; go_simp; try (with_reducible rfl))); (· (simp only [List.getElem_toArray, List.getElem_cons_zero, List.getElem_cons_succ, Act.put, List.setIfInBounds_toArray, List.set_cons_zero, List.set_cons_succ]; exact rfl))) | ((refine takeY_call (v := ?_) (a' := ?_) 113 ?_ ?_ ?_ ?_ ?_ ?_); (rotate_left 3); (· (simp [Region.wanted, yielded]; done)); (· (intro w' hS'; go_simp; try (with_reducible rfl))); (· (intro w' hS'; exact iUnder_any _ _ _)); (· (simp only [List.getElem_toArray, List.getElem_cons_zero, List.getElem_cons_succ, Act.put, List.setIfInBounds_toArray, List.set_cons_zero, List.set_cons_succ]; exact rfl))))
        refine takeY_nil (then_nil ?_)
        clear r1 r2 r3 r7
        go_wp2_with (go_at_call 141; refine (ih k1 n1 ks1 A1 c1 (d + under k j) q bi g (cc + cnVL x k d 0 (ks.take j)) _ (by omega) H4.out (by omega) (by omega) hne hIa.drew hGa.drew (by omega) (by omega) hra.drew).mono ?_; rintro e w1 ⟨rfl, hg1, hb1⟩)
        have hb1' : wr.grownBy w1 (some g) := only_trans hwa (only_trans (only_drew (World.grownBy.refl _ _)) hb1)
        go_roundw
        case rel => exact ⟨j + 1, by omega, by go_num, by rw [cnVL_take x k d hlt, H3.out, Int.natCast_add, ← Int.add_assoc]; exact hg1, hI.grown hb1' (by simpa using hne), hB1.grown hb1' (by simp; omega), only_trans hgr hb1'⟩
        case measure => simp [intOf]; omega
      · go_wp2_with fail
        first | (refine bodyPost_ret (results_none rfl _ _ _) rfl ?_) | (refine bodyPost_end (results_none rfl _ _ _) rfl ?_)
        have hjl : j = ks.length := by omega
        subst hjl
        rw [List.take_length] at hG
        exact ⟨rfl, hG, hgr⟩

set_option maxHeartbeats 2000000 in
set_option maxRecDepth 100000 in
theorem countVar_any (k n : Int) (ks : List Tm) (A : Option Addr) (c : Nat) (x : Int) (w : World) (hM : sizes ks ≤ 1000000) (hsh : shape 30 (.mk k n ks) = true) (hr : Rd w A 0 ks) :
    Calls Try.prog 117 #[.agg #[.int .i64 k, .int .i64 n, .slice A ks.length c], .int .i64 x] w fun e w' => e = .returned (.int .i64 (cnV x 0 (.mk k n ks) : Nat)) ∧ Below w.heap.size w w' := by
  have hRp : RdP (· ≠ w.heap.size + 1 + 1) w A 0 ks := hr.rdp.mono (fun b hb => by omega)
  go_enter Try.func117, Try.ntmps117
  go_wp2_with (go_at_call 141; refine (free_any x _ k n ks A c 0 30 (w.heap.size + 1) (w.heap.size + 1 + 1) 0 _ (Nat.lt_succ_self _) hsh (by omega) (by omega) (by omega) ((Blk.new_ _ _ _ (by simp)).alloc _) (Blk.new_ _ _ _ (by simp)) (by omega) (by omega) (((hRp.alloc _).alloc _).alloc _)).mono ?_; rintro e w1 ⟨rfl, hg1, hb1⟩; have g0 := hg1.at_ (i := 0) rfl)
  go_ret
  exact ⟨by simp, ((((Below.refl _ _).alloc (Nat.le_refl _) _).alloc (by simp) _).alloc (by simp; omega) _).trans (grown_below hb1 (by simp; omega) (by omega))⟩
end Go.Proofs.Ytefifcmieicnlaa
