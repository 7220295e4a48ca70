/-
  Contracts of the functions that the law reaches, and plain lemmas. No condition.
-/
import Derived.Test.YthgmofdfecioaaaGreatDoorK17
import Derived.Test.YthgmofdfecioaaaGreatDoorK29
namespace Go.Proofs.YthgmofdfecioaaaGreatDoor
set_option linter.unusedSimpArgs false
set_option linter.unusedVariables false
open Go.RowKit
theorem validT_len {k n : Int} {ks : List Tm} (hv : validT (.mk k n ks) = true) : ks.length ≤ 9223372036854775807 := by
  have := validT_size' hv; have := length_le_sizes ks; omega
set_option maxRecDepth 100000 in
set_option maxHeartbeats 8000000 in
theorem isortOf_any (N : Nat) (C : Option Addr) (c0 : Nat) (k n : Int) (ks : List Tm) (A : Option Addr) (c : Nat) (l : Int) (w : World) (hl : lvS (infS N [] (.mk k n ks)) = some l) (hv : validT (.mk k n ks) = true) (hra : Rd w A 0 ks) :
    Calls Tryz.prog 15 #[.slice C 0 c0, .agg #[.int .i64 k, .int .i64 n, .slice A ks.length c]] w fun e w' => e = .returned (.tuple #[.int .i64 l, .int .i64 0]) ∧ Below w.heap.size w w' := by
  have hlen := validT_len hv
  have hts := hide (show ∀ u, u ∈ [Tm.mk k n ks] → validT u = true from fun u hu => by rw [List.mem_singleton.1 hu]; exact hv)
  have hL := hide (fun (w : World) (hra : Rd w A 0 ks) => ilevelF_any (iinfer_any N) [] C c0 k n ks A c l w hl hv (by simp) (by simp) Rd.nil hra)
  clear hl hv
  go_enter Tryz.func15, Tryz.ntmps15
  go_wp2_with (first
    | (go_at_call 42; have _t := tok1; refine (hL.out _ (hra.below g1)).mono ?_; rintro e w2 ⟨rfl, hb2⟩)
    | (go_at_call 41; refine (iready_any C c0 [.mk k n ks] _ 1 _ (by simp) hts.out (rd_row1 (Blk.new_ _ 27 _ (by simp)) hlen ((hra.alloc _).alloc _))).mono ?_; rintro e w1 ⟨rfl, hb1⟩; have hX1 := ((Blk.new_ w 27 #[.int .i64 k, .int .i64 n, .slice A ks.length c] rfl).alloc (.cells #[.int .i64 k, .int .i64 n, .slice A ks.length c] 27)).keep hb1; have g1 : Below w.heap.size w w1 := (((Below.refl _ _).alloc (Nat.le_refl _) _).alloc (by simp) _).trans (hb1.mono (by simp; omega)); obtain ⟨x0, x1, x2⟩ := hX1.three; have tok1 := trivial))
  go_ret2
  exact ⟨rfl, g1.trans (hb2.mono g1.size)⟩
set_option maxRecDepth 100000 in
set_option maxHeartbeats 8000000 in
theorem icheckType_any (N : Nat) (C : Option Addr) (c0 : Nat) (k n : Int) (ks : List Tm) (A : Option Addr) (c : Nat) (k2 n2 : Int) (s2 : List Tm) (A2 : Option Addr) (c2 : Nat) (l : Int) (w : World) (hl : lvS (infS N [] (.mk k2 n2 s2)) = some l) (hc : chkS (infS N [] (.mk k n ks)) (.mk k2 n2 s2) = true) (hv : validT (.mk k n ks) = true) (hv2 : validT (.mk k2 n2 s2) = true) (hra : Rd w A 0 ks) (hr2 : Rd w A2 0 s2) :
    Calls Tryz.prog 18 #[.slice C 0 c0, .agg #[.int .i64 k, .int .i64 n, .slice A ks.length c], .agg #[.int .i64 k2, .int .i64 n2, .slice A2 s2.length c2]] w fun e w' => e = .returned (.int .i64 0) ∧ Below w.heap.size w w' := by
  have hlen := validT_len hv
  have hlen2 := validT_len hv2
  have hts := hide (show ∀ u, u ∈ [Tm.mk k n ks, .mk k2 n2 s2] → validT u = true from fun u hu => by
    rcases List.mem_cons.1 hu with h | h
    · rw [h]; exact hv
    · rw [List.mem_singleton.1 h]; exact hv2)
  have hL := hide (fun (w : World) (hra : Rd w A2 0 s2) => ilevelF_any (iinfer_any N) [] C c0 k2 n2 s2 A2 c2 l w hl hv2 (by simp) (by simp) Rd.nil hra)
  have hK := hide (fun (w : World) (hra : Rd w A 0 ks) (hr2 : Rd w A2 0 s2) => icheckF_any (iinfer_any N) [] C c0 k n ks A c k2 n2 s2 A2 c2 w hc hv (by simp) (by simp) Rd.nil hra hr2)
  clear hl hv hv2 hc
  go_enter Tryz.func18, Tryz.ntmps18
  go_wp2_with (first
    | (go_at_call 44; have _t := tok2; refine (hK.out _ (hra.below g2) (hr2.below g2)).mono ?_; rintro e w3 ⟨rfl, hb3⟩)
    | (go_at_call 42; have _t := tok1; refine (hL.out _ (hr2.below g1)).mono ?_; rintro e w2 ⟨rfl, hb2⟩; have hX2 := hX1.keep hb2; have hY2 := hY1.keep hb2; have g2 := g1.trans (hb2.mono g1.size); clear x0 x1 x2 y0 y1 y2; obtain ⟨x0, x1, x2⟩ := hX2.three; obtain ⟨y0, y1, y2⟩ := hY2.three; have tok2 := trivial)
    | (go_at_call 41; refine (iready_any C c0 [.mk k n ks, .mk k2 n2 s2] _ 2 _ (by simp) hts.out (rd_row2 (Blk.new_ _ 27 _ (by simp)) hlen hlen2 (((hra.alloc _).alloc _).alloc _) (((hr2.alloc _).alloc _).alloc _))).mono ?_; rintro e w1 ⟨rfl, hb1⟩; have hX1 : Blk w1 w.heap.size #[.int .i64 k, .int .i64 n, .slice A ks.length c] := (((Blk.new_ w 27 #[.int .i64 k, .int .i64 n, .slice A ks.length c] rfl).alloc _).alloc _).keep hb1; have hY1 : Blk w1 (w.heap.size + 1) #[.int .i64 k2, .int .i64 n2, .slice A2 s2.length c2] := ((Blk.new_ (n := w.heap.size + 1) (w.alloc (.cells #[.int .i64 k, .int .i64 n, .slice A ks.length c] 27)) 27 #[.int .i64 k2, .int .i64 n2, .slice A2 s2.length c2] (by simp)).alloc _).keep hb1; have g1 : Below w.heap.size w w1 := ((((Below.refl _ _).alloc (Nat.le_refl _) _).alloc (by simp) _).alloc (by simp; omega) _).trans (hb1.mono (by simp; omega)); obtain ⟨x0, x1, x2⟩ := hX1.three; obtain ⟨y0, y1, y2⟩ := hY1.three; have tok1 := trivial))
  go_ret
  exact ⟨rfl, g2.trans (hb3.mono g2.size)⟩
open Go.RowKit
mutual
/-- no variable of the term is free, under d binders -/
def clsT (d : Int) : Tm → Bool
  | .mk k n ks => (!(k == 1 && decide (d ≤ n))) && clsL d k 0 ks
def clsL (d k : Int) (i : Nat) : List Tm → Bool
  | [] => true
  | t :: ts => clsT (d + under k i) t && clsL d k (i + 1) ts
end
theorem clsL_at {d k : Int} : ∀ {ks : List Tm} {i j : Nat}, clsL d k i ks = true → (h : j < ks.length) → clsT (d + under k ((i + j : Nat) : Int)) ks[j] = true
  | t :: ts, i, 0, h, _ => by rw [clsL, Bool.and_eq_true] at h; simpa using h.1
  | t :: ts, i, j + 1, h, hj => by
    rw [clsL, Bool.and_eq_true] at h
    have := clsL_at (i := i + 1) (j := j) h.2 (by simpa using hj)
    rw [show i + 1 + j = i + (j + 1) from by omega] at this
    simpa using this
theorem clsT_inv {d k n : Int} {ks : List Tm} (h : clsT d (.mk k n ks) = true) : (k = 1 → n < d) ∧ ∀ j, (hj : j < ks.length) → clsT (d + under k (j : Int)) ks[j] = true := by
  rw [clsT, Bool.and_eq_true] at h
  refine ⟨fun hk => ?_, fun j hj => ?_⟩
  · have h1 := h.1
    subst hk
    by_cases hd : d ≤ n
    · simp [hd] at h1
    · omega
  · have := clsL_at (i := 0) h.2 hj
    simpa using this
open Go.RowKit
set_option maxRecDepth 100000 in
set_option maxHeartbeats 8000000 in
theorem ifree_any (N : Nat) : ∀ (k n : Int) (ks : List Tm) (A : Option Addr) (c : Nat) (d : Int) (v : Value) (w : World), sizes ks < N → 0 ≤ d → d + sizes ks ≤ 1000000 → clsT d (.mk k n ks) = true → Rd w A 0 ks →
    Calls Tryz.prog 69 #[.agg #[.int .i64 k, .int .i64 n, .slice A ks.length c], .int .i64 d, v] w fun e w' => e = .returned (.tuple #[]) ∧ Below w.heap.size w w' := by
  induction N with
  | zero => intro k n ks A c d v w hN; exact absurd hN (Nat.not_lt_zero _)
  | succ N ih =>
  intro k n ks A c d v w hN hd hM hcls hr
  have hlen := length_le_sizes ks
  obtain ⟨hc0, hcl0⟩ := clsT_inv hcls
  have hcl := hide hcl0
  clear hcls hcl0
  by_cases hk : k = 1
  · have hge : n < d := hc0 hk
    have hge' : decide (d ≤ n) = false := by simp; omega
    have hkb : (k == 1) = true := by simpa using hk
    clear hk hc0
    go_enter Tryz.func69, Tryz.ntmps69
    go_wp2_with fail
    go_loopw [26] (fun i wr => ∃ j : Nat, j ≤ ks.length ∧ i = .int .i64 j ∧ Blk wr w.heap.size #[.int .i64 k, .int .i64 n, .slice A ks.length c] ∧ Below w.heap.size w wr)
      (fun i _ => ks.length - (intOf i).toNat)
    case atStart => exact ⟨0, Nat.zero_le _, rfl, Blk.new_ _ 27 _ rfl, (Below.refl _ _).alloc (Nat.le_refl _) _⟩
    case round =>
      obtain ⟨j, hj, rfl, hB, hb⟩ := hrel
      by_cases hlt : j < ks.length
      · obtain ⟨b, off, k1, n1, ks1, A1, c1, rfl, hkj, hc1, hc2, hc3, hl1, hr1⟩ := (hr.below hb).at_ hlt
        have hbl := World.block_lt_of_cell? _ _ hc1
        have hsz := sizes_le (List.getElem_mem hlt)
        have hcj0 := hcl.out j hlt
        rw [hkj] at hsz hcj0
        simp only [Tm.size] at hsz
        have hcj := hide hcj0
        have hun := under_le k j
        clear hkj hcj0
        go_wp2_with fail
        have hNew := Blk.new_ (n := wr.heap.size) wr 27 #[.int .i64 k1, .int .i64 n1, .slice A1 ks1.length c1] rfl
        have hBa := hB.alloc (.cells #[.int .i64 k1, .int .i64 n1, .slice A1 ks1.length c1] 27)
        have hra := hr1.alloc (.cells #[.int .i64 k1, .int .i64 n1, .slice A1 ks1.length c1] 27)
        have hwa : Below w.heap.size w (wr.alloc (.cells #[.int .i64 k1, .int .i64 n1, .slice A1 ks1.length c1] 27)) := hb.alloc hb.size _
        generalize wr.alloc (.cells #[.int .i64 k1, .int .i64 n1, .slice A1 ks1.length c1] 27) = wa at hNew hBa hra hwa ⊢
        have r7 := hBa.rule (i := 0) rfl
        have r1 := hNew.rule (i := 0) rfl
        have r2 := hNew.rule (i := 1) rfl
        have r3 := hNew.rule (i := 2) rfl
        refine wp_region_firstY (fun w' => Below wa.heap.size wa w') [0, 1, 2, 3, 4, 5, 6, 7] [] [8] [_, _, _, _, _, _, _, _] [] [_] (by kernel_rfl) (by kernel_rfl) rfl rfl rfl (fun _ _ d _ _ h => by cases d <;> exact h) (Below.refl _ _).drew ?_
        repeat (first | ((refine takeY_skip (a' := ?_) ?_ ?_ ?_); (rotate_left); (· (simp [Region.wanted, yielded, Go.undef]; done)); (· (simp only [List.getElem_toArray, List.getElem_cons_zero, List.getElem_cons_succ, Act.put, List.setIfInBounds_toArray, List.set_cons_zero, List.set_cons_succ]; exact rfl))) | ((refine takeY_step (v := ?_) (a' := ?_) ?_ ?_ ?_ ?_); (rotate_left 2); (· (simp [Region.wanted, yielded, Go.undef]; done)); (· (intro w' hS'; go_simp; try (with_reducible rfl))); (· (simp only [List.getElem_toArray, List.getElem_cons_zero, List.getElem_cons_succ, Act.put, List.setIfInBounds_toArray, List.set_cons_zero, List.set_cons_succ]; exact rfl))) | ((refine takeY_call (v := ?_) (a' := ?_) 76 ?_ ?_ ?_ ?_ ?_ ?_); (rotate_left 3); (· (simp [Region.wanted, yielded, Go.undef]; done)); (· (intro w' hS'; go_simp; try (with_reducible rfl))); (· (intro w' hS'; exact iUnder_any _ _ _)); (· (simp only [List.getElem_toArray, List.getElem_cons_zero, List.getElem_cons_succ, Act.put, List.setIfInBounds_toArray, List.set_cons_zero, List.set_cons_succ]; exact rfl))))
        refine takeY_nil (then_nil ?_)
        clear r1 r2 r3 r7
        go_wp2_with (go_at_call 69; refine (ih k1 n1 ks1 A1 c1 (d + under k j) _ _ (by omega) (by omega) (by omega) hcj.out hra.drew).mono ?_; rintro e w3 ⟨rfl, hb3⟩)
        have hb3' := (Below.refl wa.heap.size wa).drew.trans hb3
        go_roundw
        case rel => exact ⟨j + 1, by omega, by go_num, hBa.keep hb3', hwa.trans (hb3'.mono hwa.size)⟩
        case measure => simp [intOf]; omega
      · go_wp2_with fail
        exact bodyPost_end (v := .tuple #[]) (by simp [results]) rfl ⟨rfl, hb⟩
  · have hkb : (k == 1) = false := by simpa using hk
    clear hc0 hk
    go_enter Tryz.func69, Tryz.ntmps69
    go_wp2_with fail
    go_loopw [26] (fun i wr => ∃ j : Nat, j ≤ ks.length ∧ i = .int .i64 j ∧ Blk wr w.heap.size #[.int .i64 k, .int .i64 n, .slice A ks.length c] ∧ Below w.heap.size w wr)
      (fun i _ => ks.length - (intOf i).toNat)
    case atStart => exact ⟨0, Nat.zero_le _, rfl, Blk.new_ _ 27 _ rfl, (Below.refl _ _).alloc (Nat.le_refl _) _⟩
    case round =>
      obtain ⟨j, hj, rfl, hB, hb⟩ := hrel
      by_cases hlt : j < ks.length
      · obtain ⟨b, off, k1, n1, ks1, A1, c1, rfl, hkj, hc1, hc2, hc3, hl1, hr1⟩ := (hr.below hb).at_ hlt
        have hbl := World.block_lt_of_cell? _ _ hc1
        have hsz := sizes_le (List.getElem_mem hlt)
        have hcj0 := hcl.out j hlt
        rw [hkj] at hsz hcj0
        simp only [Tm.size] at hsz
        have hcj := hide hcj0
        have hun := under_le k j
        clear hkj hcj0
        go_wp2_with fail
        have hNew := Blk.new_ (n := wr.heap.size) wr 27 #[.int .i64 k1, .int .i64 n1, .slice A1 ks1.length c1] rfl
        have hBa := hB.alloc (.cells #[.int .i64 k1, .int .i64 n1, .slice A1 ks1.length c1] 27)
        have hra := hr1.alloc (.cells #[.int .i64 k1, .int .i64 n1, .slice A1 ks1.length c1] 27)
        have hwa : Below w.heap.size w (wr.alloc (.cells #[.int .i64 k1, .int .i64 n1, .slice A1 ks1.length c1] 27)) := hb.alloc hb.size _
        generalize wr.alloc (.cells #[.int .i64 k1, .int .i64 n1, .slice A1 ks1.length c1] 27) = wa at hNew hBa hra hwa ⊢
        have r7 := hBa.rule (i := 0) rfl
        have r1 := hNew.rule (i := 0) rfl
        have r2 := hNew.rule (i := 1) rfl
        have r3 := hNew.rule (i := 2) rfl
        refine wp_region_firstY (fun w' => Below wa.heap.size wa w') [0, 1, 2, 3, 4, 5, 6, 7] [] [8] [_, _, _, _, _, _, _, _] [] [_] (by kernel_rfl) (by kernel_rfl) rfl rfl rfl (fun _ _ d _ _ h => by cases d <;> exact h) (Below.refl _ _).drew ?_
        repeat (first | ((refine takeY_skip (a' := ?_) ?_ ?_ ?_); (rotate_left); (· (simp [Region.wanted, yielded, Go.undef]; done)); (· (simp only [List.getElem_toArray, List.getElem_cons_zero, List.getElem_cons_succ, Act.put, List.setIfInBounds_toArray, List.set_cons_zero, List.set_cons_succ]; exact rfl))) | ((refine takeY_step (v := ?_) (a' := ?_) ?_ ?_ ?_ ?_); (rotate_left 2); (· (simp [Region.wanted, yielded, Go.undef]; done)); (· (intro w' hS'; go_simp; try (with_reducible rfl))); (· (simp only [List.getElem_toArray, List.getElem_cons_zero, List.getElem_cons_succ, Act.put, List.setIfInBounds_toArray, List.set_cons_zero, List.set_cons_succ]; exact rfl))) | ((refine takeY_call (v := ?_) (a' := ?_) 76 ?_ ?_ ?_ ?_ ?_ ?_); (rotate_left 3); (· (simp [Region.wanted, yielded, Go.undef]; done)); (· (intro w' hS'; go_simp; try (with_reducible rfl))); (· (intro w' hS'; exact iUnder_any _ _ _)); (· (simp only [List.getElem_toArray, List.getElem_cons_zero, List.getElem_cons_succ, Act.put, List.setIfInBounds_toArray, List.set_cons_zero, List.set_cons_succ]; exact rfl))))
        refine takeY_nil (then_nil ?_)
        clear r1 r2 r3 r7
        go_wp2_with (go_at_call 69; refine (ih k1 n1 ks1 A1 c1 (d + under k j) _ _ (by omega) (by omega) (by omega) hcj.out hra.drew).mono ?_; rintro e w3 ⟨rfl, hb3⟩)
        have hb3' := (Below.refl wa.heap.size wa).drew.trans hb3
        go_roundw
        case rel => exact ⟨j + 1, by omega, by go_num, hBa.keep hb3', hwa.trans (hb3'.mono hwa.size)⟩
        case measure => simp [intOf]; omega
      · go_wp2_with fail
        exact bodyPost_end (v := .tuple #[]) (by simp [results]) rfl ⟨rfl, hb⟩
set_option maxRecDepth 100000 in
set_option maxHeartbeats 8000000 in
theorem imaxFree_any (k n : Int) (ks : List Tm) (A : Option Addr) (c : Nat) (w : World) (hM : sizes ks ≤ 900000) (hcls : clsT 0 (.mk k n ks) = true) (hr : Rd w A 0 ks) :
    Calls Tryz.prog 43 #[.agg #[.int .i64 k, .int .i64 n, .slice A ks.length c]] w fun e w' => e = .returned (.int .i64 0) ∧ Below w.heap.size w w' := by
  have hcl := hide hcls
  clear hcls
  go_enter Tryz.func43, Tryz.ntmps43
  go_wp2_with (go_at_call 69; refine (ifree_any _ k n ks A c 0 _ _ (Nat.lt_succ_self _) (by omega) (by omega) hcl.out ((hr.alloc _).alloc _)).mono ?_; rintro e w1 ⟨rfl, hb1⟩; have hg1 := (Blk.new_ (n := w.heap.size + 1) (w.alloc (.cells #[.int .i64 k, .int .i64 n, .slice A ks.length c] 27)) 3 #[.int .i64 0] (by simp)).keep hb1; have g0 := hg1.at_ (i := 0) rfl)
  go_ret
  exact ⟨rfl, (((Below.refl _ _).alloc (Nat.le_refl _) _).alloc (by simp) _).trans (hb1.mono (by simp; omega))⟩
set_option maxRecDepth 100000 in
set_option maxHeartbeats 8000000 in
theorem iMaxFree_any (k n : Int) (ks : List Tm) (A : Option Addr) (c : Nat) (w : World) (hv : validT (.mk k n ks) = true) (hcls : clsT 0 (.mk k n ks) = true) (hr : Rd w A 0 ks) :
    Calls Tryz.prog 17 #[.agg #[.int .i64 k, .int .i64 n, .slice A ks.length c]] w fun e w' => e = .returned (.int .i64 0) ∧ Below w.heap.size w w' := by
  have hz := validT_size' hv
  have hv' := hide hv
  have hcl := hide hcls
  clear hv hcls
  go_enter Tryz.func17, Tryz.ntmps17
  go_wp2_with (first
    | (go_at_call 43; have _t := tok1; refine (imaxFree_any k n ks A c _ (by omega) hcl.out ((hr.alloc _).below hb1)).mono ?_; rintro e w2 ⟨rfl, hb2⟩)
    | (go_at_call 35; refine (iTermValid_any k n ks A c _ (by omega) (hr.alloc _)).mono ?_; rw [hv'.out]; rintro e w1 ⟨rfl, hb1⟩; have hX := (Blk.new_ w 27 #[.int .i64 k, .int .i64 n, .slice A ks.length c] rfl).keep hb1; have g1 : Below w.heap.size w w1 := ((Below.refl _ _).alloc (Nat.le_refl _) _).trans (hb1.mono (by simp)); obtain ⟨x0, x1, x2⟩ := hX.three; have tok1 := trivial))
  go_ret
  exact ⟨rfl, g1.trans (hb2.mono g1.size)⟩
open Go.RowKit
/-- a list in blocks of its own, from B on, none of zs -/
def ApF (w : World) (B : Nat) (zs : List Nat) (A : Option Addr) (ks : List Tm) : Prop := ∃ fp, Ow w A ks fp ∧ fp.Nodup ∧ ∀ b, b ∈ fp → B ≤ b ∧ b ∉ zs
section
variable {w w' : World} {B B' : Nat} {zs : List Nat} {A : Option Addr} {ks : List Tm}
theorem ApF.rd (h : ApF w B zs A ks) : Rd w A 0 ks := by obtain ⟨fp, h, _⟩ := h; exact h.rd
theorem ApF.below (h : ApF w B zs A ks) (hb : Below w.heap.size w w') : ApF w' B zs A ks := by
  obtain ⟨fp, h, hn, hf⟩ := h; exact ⟨fp, h.frame fun b hm => hb.block b (h.lt b hm), hn, hf⟩
theorem ApF.add (h : ApF w B zs A ks) (hb : Below w.heap.size w w') : ApF w' B (w.heap.size :: zs) A ks := by
  obtain ⟨fp, h, hn, hf⟩ := h
  refine ⟨fp, h.frame fun b hm => hb.block b (h.lt b hm), hn, fun b hm => ⟨(hf b hm).1, fun he => ?_⟩⟩
  rcases List.mem_cons.1 he with rfl | he
  · have := h.lt _ hm; omega
  · exact (hf b hm).2 he
theorem ApF.setZ (h : ApF w B zs A ks) {a : Addr} (ha : a.block < B ∨ a.block ∈ zs) (u : Value) : ApF (w.setCell a u) B zs A ks := by
  obtain ⟨fp, h, hn, hf⟩ := h
  refine ⟨fp, h.frame fun b hm => Below.heap_setCell w a u b (fun e => ?_), hn, hf⟩
  subst e
  rcases ha with ha | ha
  · have := (hf _ hm).1; omega
  · exact (hf _ hm).2 ha
theorem Fresh.apf (h : Fresh B w A ks) (hB : B' ≤ B) (hz : ∀ z, z ∈ zs → z < B) : ApF w B' zs A ks := by
  obtain ⟨fp, h, hn, hf⟩ := h
  exact ⟨fp, h, hn, fun b hm => ⟨Nat.le_trans hB (hf b hm), fun he => by have := hz b he; have := hf b hm; omega⟩⟩
theorem ApF.owf (h : ApF w B zs A ks) (hB : B' ≤ B) : ∃ fp, OwF w A ks fp B' w.heap.size := by
  obtain ⟨fp, h, hn, hf⟩ := h
  exact ⟨fp, h, hn, fun b hm => Nat.le_trans hB (hf b hm).1, fun b hm => h.lt b hm⟩
end
/-- a row of two new terms -/
theorem apf_row {L M : Nat} {w n : World} {zs : List Nat} {A2 A3 : Option Addr} {pk pn nk : Int} {pks nks : List Tm} {c2 c3 : Nat} {fp : List Nat} (hp : Ow w A2 pks fp) (hn : fp.Nodup) (hl : ∀ b, b ∈ fp → L ≤ b ∧ b < M)
    (hN : ApF w M zs A3 nks) (hlp : pks.length ≤ 9223372036854775807) (hln : nks.length ≤ 9223372036854775807) (hg : Blk n w.heap.size #[.int .i64 pk, .int .i64 pn, .slice A2 pks.length c2, .int .i64 nk, .int .i64 0, .slice A3 nks.length c3]) (hk : Below w.heap.size w n)
    (hz : ∀ z, z ∈ zs → M ≤ z ∧ z < w.heap.size) (hLM : L ≤ M) (hMw : M ≤ w.heap.size) : ApF n L zs (some ⟨w.heap.size, 0, none⟩) [.mk pk pn pks, .mk nk 0 nks] := by
  obtain ⟨f2, h2, hn2, hf2⟩ := hN
  have k1 : Ow n A2 pks fp := hp.frame fun b hm => hk.block b (hp.lt b hm)
  have k2 : Ow n A3 nks f2 := h2.frame fun b hm => hk.block b (h2.lt b hm)
  obtain ⟨t, hg⟩ := hg
  refine ⟨w.heap.size :: (fp ++ f2), .inr ⟨_, _, t, fp ++ f2, by simp, rfl, hg, rfl, ?_⟩, ?_, ?_⟩
  · refine OwX.cons_iff.2 ⟨[.int .i64 pk, .int .i64 pn, .slice A2 pks.length c2], [.int .i64 nk, .int .i64 0, .slice A3 nks.length c3], fp, f2, by simp, rfl, OwT.iff.2 ⟨A2, c2, rfl, hlp, k1⟩, OwX.one (OwT.iff.2 ⟨A3, c3, rfl, hln, k2⟩)⟩
  · refine List.nodup_cons.2 ⟨fun hm => ?_, List.nodup_append.2 ⟨hn, hn2, fun x hx y hy e => ?_⟩⟩
    · rcases List.mem_append.1 hm with hm | hm
      · have := hp.lt _ hm; omega
      · have := h2.lt _ hm; omega
    · have := (hl x hx).2; have := (hf2 y hy).1; omega
  · intro b hb
    rcases List.mem_cons.1 hb with rfl | hb
    · exact ⟨by omega, fun he => by have := (hz _ he).2; omega⟩
    · rcases List.mem_append.1 hb with hm | hm
      · exact ⟨(hl b hm).1, fun he => by have := (hz _ he).1; have := (hl b hm).2; omega⟩
      · exact ⟨by have := (hf2 b hm).1; omega, (hf2 b hm).2⟩
/-- two terms in blocks of their own, the one's below the other's, and whether they are -/
def GotU (w : World) (r : Option (Tm × Tm)) (e : Ending) (w' : World) : Prop :=
  ∃ (k1 n1 : Int) (ks1 : List Tm) (A1 : Option Addr) (c1 : Nat) (k2 n2 : Int) (ks2 : List Tm) (A2 : Option Addr) (c2 : Nat) (f1 f2 : List Nat) (mid : Nat), (r.map Prod.fst).getD (.mk 0 0 []) = .mk k1 n1 ks1 ∧ (r.map Prod.snd).getD (.mk 0 0 []) = .mk k2 n2 ks2 ∧
    e = .returned (.tuple #[.agg #[.int .i64 k1, .int .i64 n1, .slice A1 ks1.length c1], .agg #[.int .i64 k2, .int .i64 n2, .slice A2 ks2.length c2], .bool r.isSome]) ∧ ks1.length ≤ 9223372036854775807 ∧ ks2.length ≤ 9223372036854775807 ∧ OwF w' A1 ks1 f1 w.heap.size mid ∧ OwF w' A2 ks2 f2 mid w'.heap.size ∧ w.heap.size ≤ mid ∧ mid ≤ w'.heap.size ∧ Below w.heap.size w w'
end Go.Proofs.YthgmofdfecioaaaGreatDoor
