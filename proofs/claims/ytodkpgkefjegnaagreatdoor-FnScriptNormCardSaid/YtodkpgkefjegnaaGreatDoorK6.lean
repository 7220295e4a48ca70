/-
  Contracts of the functions that the law reaches, and plain lemmas. No condition.
-/
import Derived.Test.YtodkpgkefjegnaaGreatDoorK3
import Derived.Test.YtodkpgkefjegnaaGreatDoorK4
import Derived.Test.YtodkpgkefjegnaaGreatDoorK5
import Derived.IntWalk
import Derived.Laws.BitsAllLaws
import Derived.Laws.BitsLemmas
namespace Go.Proofs.YtodkpgkefjegnaaGreatDoor
set_option linter.unusedSimpArgs false
set_option linter.unusedVariables false
open Go.RowKit
set_option maxHeartbeats 2000000 in
set_option maxRecDepth 100000 in
theorem variable_any (n : Int) (w : World) : Calls Tryz.prog 140 #[.int .i64 n] w fun e w' => e = .returned (.agg #[.int .i64 1, .int .i64 n, .slice none 0 0]) ∧ Below w.heap.size w w' := by
  go_enter Tryz.func140, Tryz.ntmps140
  go_wp2_with fail
  exact bodyPost_ret (v := .agg #[.int .i64 1, .int .i64 n, .slice none 0 0]) (by simp [results, Tryz.results140, go_sem]) rfl ⟨rfl, (Below.refl _ _).alloc (Nat.le_refl _) _⟩
/-- the empty term that stands for a failure -/
def zeroV : Value := .agg #[.int .i64 0, .int .i64 0, .slice none 0 0]
set_option maxHeartbeats 2000000 in
set_option maxRecDepth 100000 in
theorem valid_yes (k n : Int) (ks : List Tm) (A : Option Addr) (c : Nat) (w : World) (hM : sizes ks ≤ 1099511627775) (hr : Rd w A 0 ks) (hv : validT (.mk k n ks) = true) :
    Calls Tryz.prog 62 #[(.agg #[.int .i64 k, .int .i64 n, .slice A ks.length c])] w fun e w' => e = .returned (.tuple #[(.agg #[.int .i64 k, .int .i64 n, .slice A ks.length c]), .bool true]) ∧ Below w.heap.size w w' := by
  go_enter Tryz.func62, Tryz.ntmps62
  go_wp2_with (go_at_call 20; refine (iTermValid_any k n ks A c _ hM ((hr.alloc _).alloc _)).mono ?_; rw [hv]; rintro e w1 ⟨rfl, hb1⟩; have hB : Blk w1 w.heap.size #[.int .i64 k, .int .i64 n, .slice A ks.length c] := ((Blk.new_ w 25 #[.int .i64 k, .int .i64 n, .slice A ks.length c] rfl).alloc _).keep hb1; have hT : Blk w1 (w.heap.size + 1) #[.int .i64 0, .int .i64 0, .slice none 0 0] := (Blk.new_ _ 25 _ (by simp)).keep hb1; obtain ⟨p0, p1, p2⟩ := hB.three; obtain ⟨d0, d1, d2⟩ := hT.three; have e0 := hT.frozen 0; have e1 := hT.frozen 1; have e2 := hT.frozen 2; replace hb1 : Below w.heap.size w w1 := (((Below.refl _ _).alloc (Nat.le_refl _) _).alloc (by simp) _).trans (hb1.mono (by simp; omega)))
  refine bodyPost_ret (v := .tuple #[(.agg #[.int .i64 k, .int .i64 n, .slice A ks.length c]), .bool true]) (by simp [results, Tryz.results62, go_sem, d0, d1, d2]) rfl ⟨rfl, ?_⟩
  exact ((hb1.setCell (by simp) _).setCell (by simp) _).setCell (by simp) _
set_option maxHeartbeats 2000000 in
set_option maxRecDepth 100000 in
theorem valid_no (k n : Int) (ks : List Tm) (A : Option Addr) (c : Nat) (w : World) (hM : sizes ks ≤ 1099511627775) (hr : Rd w A 0 ks) (hv : validT (.mk k n ks) = false) :
    Calls Tryz.prog 62 #[(.agg #[.int .i64 k, .int .i64 n, .slice A ks.length c])] w fun e w' => e = .returned (.tuple #[zeroV, .bool false]) ∧ Below w.heap.size w w' := by
  go_enter Tryz.func62, Tryz.ntmps62
  go_wp2_with (go_at_call 20; refine (iTermValid_any k n ks A c _ hM ((hr.alloc _).alloc _)).mono ?_; rw [hv]; rintro e w1 ⟨rfl, hb1⟩; have hT : Blk w1 (w.heap.size + 1) #[.int .i64 0, .int .i64 0, .slice none 0 0] := (Blk.new_ _ 25 _ (by simp)).keep hb1; obtain ⟨d0, d1, d2⟩ := hT.three; have e0 := hT.frozen 0; have e1 := hT.frozen 1; have e2 := hT.frozen 2; replace hb1 : Below w.heap.size w w1 := (((Below.refl _ _).alloc (Nat.le_refl _) _).alloc (by simp) _).trans (hb1.mono (by simp; omega)))
  refine bodyPost_ret (v := .tuple #[zeroV, .bool false]) (by simp [results, Tryz.results62, go_sem, d0, d1, d2, zeroV]) rfl ⟨rfl, ?_⟩
  exact ((hb1.setCell (by simp) _).setCell (by simp) _).setCell (by simp) _
/-- a variable shifted -/
def shF (by_ cut : Int) (n d : Int) : Tm := .mk 1 (if cut ≤ n - d then n + by_ else n) []
def shOk (by_ cut : Int) (n d : Int) : Bool := if cut ≤ n - d then decide (cut ≤ n + by_ - d) && decide (n + by_ ≤ 20) else true
set_option maxHeartbeats 2000000 in
set_option maxRecDepth 100000 in
theorem shift1_ok {by_ cut : Int} {bc bb g : Nat} {W0 : World} (hb1 : -1000 ≤ by_ ∧ by_ ≤ 1000) (hc : -1000 ≤ cut ∧ cut ≤ 1000) (hC : Blk W0 bc #[.int .i64 cut]) (hB : Blk W0 bb #[.int .i64 by_]) (hcg : bc ≠ g) (hbg : bb ≠ g) :
    FunOk 177 [.pointer (some ⟨bc, 0, none⟩), .pointer (some ⟨bb, 0, none⟩), .pointer (some ⟨g, 0, none⟩)] W0 g (shF by_ cut) (shOk by_ cut) := by
  intro n d w b hn0 hn1 hd0 hd1 hW hg
  have hCw := hC.grown hW (by simpa using hcg)
  have hBw := hB.grown hW (by simpa using hbg)
  have x0 := hCw.at_ (i := 0) rfl
  have x1 := hBw.at_ (i := 0) rfl
  have x2 := hg.at_ (i := 0) rfl
  have z2 := hg.frozen 0
  have l0 := hCw.lt
  have l1 := hBw.lt
  have l2 := hg.lt
  by_cases h1 : cut ≤ n - d
  · have hz : shF by_ cut n d = .mk 1 (n + by_) [] := by rw [shF, if_pos h1]
    have hzo : shOk by_ cut n d = (decide (cut ≤ n + by_ - d) && decide (n + by_ ≤ 20)) := by rw [shOk, if_pos h1]
    rw [hz, hzo]
    have q1 : decide (cut ≤ n - d) = true := decide_eq_true h1
    have H := hide h1
    clear h1 hz hzo
    cases b with
    | false =>
      rw [Bool.false_and]
      go_enter Tryz.func177, Tryz.ntmps177
      go_wp2_with (go_at_call 140; refine (variable_any _ _).mono ?_; rintro e w1 ⟨rfl, hv1⟩; have hT : Blk w1 w.heap.size #[.int .i64 0, .int .i64 0, .slice none 0 0] := (Blk.new_ _ 25 _ (by simp)).keep hv1; obtain ⟨d0, d1, d2⟩ := hT.three; have e0 := hT.frozen 0; have e1 := hT.frozen 1; have e2 := hT.frozen 2; have hG1 : Blk w1 g #[.bool (false)] := ((hg.set_ 0 (.bool (false))).alloc (.cells #[.int .i64 0, .int .i64 0, .slice none 0 0] 25)).keep hv1; replace hv1 : w.grownBy w1 (some g) := only_below (only_alloc (only_setCell (World.grownBy.refl _ _) (.inl rfl) _) _) hv1)
      refine bodyPost_ret (v := .agg #[.int .i64 1, .int .i64 (n + by_), .slice none 0 0]) (by simp [results, Tryz.results177, go_sem, d0, d1, d2]) rfl ⟨none, 0, rfl, by simp [Tm.ks], Fresh.nil, ?_, ?_⟩
      · exact ((hG1.far (by simp; omega) _).far (by simp; omega) _).far (by simp; omega) _
      · exact only_setCell (only_setCell (only_setCell hv1 (.inr (by simp)) _) (.inr (by simp)) _) (.inr (by simp)) _
    | true =>
      by_cases h2 : cut ≤ n + by_ - d
      · have q2 : decide (cut ≤ n + by_ - d) = true := decide_eq_true h2
        rw [q2, Bool.true_and, Bool.true_and]
        have H2 := hide h2
        clear h2
        cases q3 : decide (n + by_ ≤ 20) with
        | false =>
          go_enter Tryz.func177, Tryz.ntmps177
          go_wp2_with (go_at_call 140; refine (variable_any _ _).mono ?_; rintro e w1 ⟨rfl, hv1⟩; have hT : Blk w1 w.heap.size #[.int .i64 0, .int .i64 0, .slice none 0 0] := (Blk.new_ _ 25 _ (by simp)).keep hv1; obtain ⟨d0, d1, d2⟩ := hT.three; have e0 := hT.frozen 0; have e1 := hT.frozen 1; have e2 := hT.frozen 2; have hG1 : Blk w1 g #[.bool (false)] := ((hg.set_ 0 (.bool (false))).alloc (.cells #[.int .i64 0, .int .i64 0, .slice none 0 0] 25)).keep hv1; replace hv1 : w.grownBy w1 (some g) := only_below (only_alloc (only_setCell (World.grownBy.refl _ _) (.inl rfl) _) _) hv1)
          refine bodyPost_ret (v := .agg #[.int .i64 1, .int .i64 (n + by_), .slice none 0 0]) (by simp [results, Tryz.results177, go_sem, d0, d1, d2]) rfl ⟨none, 0, rfl, by simp [Tm.ks], Fresh.nil, ?_, ?_⟩
          · exact ((hG1.far (by simp; omega) _).far (by simp; omega) _).far (by simp; omega) _
          · exact only_setCell (only_setCell (only_setCell hv1 (.inr (by simp)) _) (.inr (by simp)) _) (.inr (by simp)) _
        | true =>
          go_enter Tryz.func177, Tryz.ntmps177
          go_wp2_with (go_at_call 140; refine (variable_any _ _).mono ?_; rintro e w1 ⟨rfl, hv1⟩; have hT : Blk w1 w.heap.size #[.int .i64 0, .int .i64 0, .slice none 0 0] := (Blk.new_ _ 25 _ (by simp)).keep hv1; obtain ⟨d0, d1, d2⟩ := hT.three; have e0 := hT.frozen 0; have e1 := hT.frozen 1; have e2 := hT.frozen 2; have hG1 : Blk w1 g #[.bool (true)] := ((hg.set_ 0 (.bool (true))).alloc (.cells #[.int .i64 0, .int .i64 0, .slice none 0 0] 25)).keep hv1; replace hv1 : w.grownBy w1 (some g) := only_below (only_alloc (only_setCell (World.grownBy.refl _ _) (.inl rfl) _) _) hv1)
          refine bodyPost_ret (v := .agg #[.int .i64 1, .int .i64 (n + by_), .slice none 0 0]) (by simp [results, Tryz.results177, go_sem, d0, d1, d2]) rfl ⟨none, 0, rfl, by simp [Tm.ks], Fresh.nil, ?_, ?_⟩
          · exact ((hG1.far (by simp; omega) _).far (by simp; omega) _).far (by simp; omega) _
          · exact only_setCell (only_setCell (only_setCell hv1 (.inr (by simp)) _) (.inr (by simp)) _) (.inr (by simp)) _
      · have q2 : decide (cut ≤ n + by_ - d) = false := decide_eq_false h2
        rw [q2, Bool.false_and, Bool.true_and]
        have H2 := hide h2
        clear h2
        go_enter Tryz.func177, Tryz.ntmps177
        go_wp2_with (go_at_call 140; refine (variable_any _ _).mono ?_; rintro e w1 ⟨rfl, hv1⟩; have hT : Blk w1 w.heap.size #[.int .i64 0, .int .i64 0, .slice none 0 0] := (Blk.new_ _ 25 _ (by simp)).keep hv1; obtain ⟨d0, d1, d2⟩ := hT.three; have e0 := hT.frozen 0; have e1 := hT.frozen 1; have e2 := hT.frozen 2; have hG1 : Blk w1 g #[.bool (false)] := ((hg.set_ 0 (.bool (false))).alloc (.cells #[.int .i64 0, .int .i64 0, .slice none 0 0] 25)).keep hv1; replace hv1 : w.grownBy w1 (some g) := only_below (only_alloc (only_setCell (World.grownBy.refl _ _) (.inl rfl) _) _) hv1)
        refine bodyPost_ret (v := .agg #[.int .i64 1, .int .i64 (n + by_), .slice none 0 0]) (by simp [results, Tryz.results177, go_sem, d0, d1, d2]) rfl ⟨none, 0, rfl, by simp [Tm.ks], Fresh.nil, ?_, ?_⟩
        · exact ((hG1.far (by simp; omega) _).far (by simp; omega) _).far (by simp; omega) _
        · exact only_setCell (only_setCell (only_setCell hv1 (.inr (by simp)) _) (.inr (by simp)) _) (.inr (by simp)) _
  · have hz : shF by_ cut n d = .mk 1 n [] := by rw [shF, if_neg h1]
    have hzo : shOk by_ cut n d = true := by rw [shOk, if_neg h1]
    rw [hz, hzo, Bool.and_true]
    have q1 : decide (cut ≤ n - d) = false := decide_eq_false h1
    have H := hide h1
    clear h1 hz hzo
    go_enter Tryz.func177, Tryz.ntmps177
    go_wp2_with (go_at_call 140; refine (variable_any _ _).mono ?_; rintro e w1 ⟨rfl, hv1⟩; have hT : Blk w1 w.heap.size #[.int .i64 0, .int .i64 0, .slice none 0 0] := (Blk.new_ _ 25 _ rfl).keep hv1; obtain ⟨d0, d1, d2⟩ := hT.three; have e0 := hT.frozen 0; have e1 := hT.frozen 1; have e2 := hT.frozen 2; have hG1 := (hg.alloc (.cells #[.int .i64 0, .int .i64 0, .slice none 0 0] 25)).keep hv1; replace hv1 : w.grownBy w1 (some g) := only_below (only_alloc (World.grownBy.refl _ _) _) hv1)
    refine bodyPost_ret (v := .agg #[.int .i64 1, .int .i64 n, .slice none 0 0]) (by simp [results, Tryz.results177, go_sem, d0, d1, d2]) rfl ⟨none, 0, rfl, by simp [Tm.ks], Fresh.nil, ?_, ?_⟩
    · exact ((hG1.far (by simp; omega) _).far (by simp; omega) _).far (by simp; omega) _
    · exact only_setCell (only_setCell (only_setCell hv1 (.inr (by simp)) _) (.inr (by simp)) _) (.inr (by simp)) _
open Go.RowKit
theorem chg_size {f : Int → Int → Tm} {M : Nat} (hM : 1 ≤ M) (hf : ∀ n d, (f n d).size ≤ M) : (∀ t d, (chg f d t).size ≤ t.size * M) ∧ (∀ ts k d i, sizes (chgs f k d i ts) ≤ sizes ts * M) := by
  refine Tm.ind2 (fun k n ks ih d => ?_) (fun k d i => by simp [chgs, sizes]) (fun t ts h1 h2 k d i => ?_)
  · rw [chg, Tm.size, Nat.add_mul, Nat.one_mul]
    split
    · have := hf n d; omega
    · rw [Tm.size]; have := ih k d 0; omega
  · rw [chgs, sizes, sizes, Nat.add_mul]
    have := h1 (d + under k i); have := h2 k d (i + 1); omega
theorem shF_size (by_ cut n d : Int) : (shF by_ cut n d).size ≤ 1 := by simp [shF, Tm.size, sizes]
/-- a term handed back in new memory, or a failure -/
def GotO (w : World) (o : Option Tm) (e : Ending) (w' : World) : Prop :=
  match o with
  | none => e = .returned (.tuple #[zeroV, .bool false]) ∧ Below w.heap.size w w'
  | some t => ∃ A c, e = .returned (.tuple #[.agg #[.int .i64 t.k, .int .i64 t.n, .slice A t.ks.length c], .bool true]) ∧ t.ks.length ≤ 9223372036854775807 ∧ Fresh w.heap.size w' A t.ks ∧ Below w.heap.size w w'
/-- what shift answers -/
def shiftI (by_ cut : Int) (t : Tm) : Option Tm := if chgOk (shOk by_ cut) 0 t = true then (if validT (chg (shF by_ cut) 0 t) = true then some (chg (shF by_ cut) 0 t) else none) else none
set_option maxHeartbeats 2000000 in
set_option maxRecDepth 100000 in
theorem shift_any (k n : Int) (ks : List Tm) (A : Option Addr) (c : Nat) (by_ cut : Int) (w : World) (hby : -1000 ≤ by_ ∧ by_ ≤ 1000) (hcut : -1000 ≤ cut ∧ cut ≤ 1000) (hM : sizes ks ≤ 1000000000) (hs : shape 30 (.mk k n ks) = true) (hr : Rd w A 0 ks) :
    Calls Tryz.prog 139 #[(.agg #[.int .i64 k, .int .i64 n, .slice A ks.length c]), .int .i64 by_, .int .i64 cut] w (GotO w (shiftI by_ cut (.mk k n ks))) := by
  have hrp : RdP (· ≠ w.heap.size + 4) w A 0 ks := hr.rdp.mono (fun b hb => by have hb : b < w.heap.size := hb; show b ≠ _; omega)
  obtain ⟨k2, n2, ks2, hct⟩ := tm_eta (chg (shF by_ cut) 0 (.mk k n ks))
  have hsz2 : sizes ks2 ≤ 1000000001 := by
    have := (chg_size (Nat.le_refl 1) (shF_size by_ cut)).1 (.mk k n ks) 0
    rw [hct, Tm.size, Tm.size] at this
    omega
  cases hok : chgOk (shOk by_ cut) 0 (.mk k n ks) with
  | false =>
    have hz : shiftI by_ cut (.mk k n ks) = none := by rw [shiftI, hok]; rfl
    rw [hz]
    clear hz
    go_enter Tryz.func139, Tryz.ntmps139
    go_wp2_with (go_at_call 137; refine (changed_any (shift1_ok (bc := w.heap.size + 2) (bb := w.heap.size + 1) (g := w.heap.size + 4) hby hcut (((Blk.new_ _ 3 _ (by simp)).alloc _).alloc _) ((((Blk.new_ _ 3 _ (by simp)).alloc _).alloc _).alloc _) (by omega) (by omega)) (run_enter Tryz.func177 (by kernel_rfl) (by kernel_rfl)) (sizes ks + 1) k n ks A c 0 30 _ true (by omega) hs (by omega) (by omega) (by omega) (World.grownBy.refl _ _) (Blk.new_ _ 4 _ (by simp)) (((((hrp.alloc _).alloc _).alloc _).alloc _).alloc _)).mono ?_; rw [hct, hok]; intro e w6 hpost; obtain ⟨A6, c6, rfl, hl6, hf6, hG6, hg6⟩ := gotG_mk hpost; clear hpost; have hT6 : Blk w6 (w.heap.size + 1 + 1 + 1) #[.int .i64 0, .int .i64 0, .slice none 0 0] := ((Blk.new_ _ 25 _ (by simp)).alloc _).grown hg6 (by simp); have f0 := hG6.at_ (i := 0) rfl; obtain ⟨d0, d1, d2⟩ := hT6.three; have e0 := hT6.frozen 0; have e1 := hT6.frozen 1; have e2 := hT6.frozen 2; have lT := hT6.lt; have lG := hG6.lt; have hb6 : Below w.heap.size w w6 := ((((((Below.refl _ _).alloc (Nat.le_refl _) _).alloc (by simp) _).alloc (by simp; omega) _).alloc (by simp; omega) _).alloc (by simp; omega) _).grown hg6 (by simp; omega) (fun k e => by cases e; omega); replace hf6 := hf6.mono (B' := w.heap.size + 5) (by simp))
    have y := fun o => (((((hT6.set_ 0 (.int .i64 0)).set_ 1 (.int .i64 0)).set_ 2 (.slice none 0 0)).alloc o : Blk _ _ #[.int .i64 0, .int .i64 0, .slice none 0 0])).three
    refine bodyPost_ret (v := .tuple #[zeroV, .bool false]) (by simp [results, Tryz.results139, go_sem, y, zeroV]) rfl ⟨rfl, ?_⟩
    exact (((hb6.setCell (by simp; omega) _).setCell (by simp; omega) _).setCell (by simp; omega) _).alloc (by simp [World.setCell]; omega) _
  | true =>
    cases hv : validT (.mk k2 n2 ks2) with
    | false =>
      have hz : shiftI by_ cut (.mk k n ks) = none := by rw [shiftI, hok, if_pos rfl, hct, hv]; rfl
      rw [hz]
      clear hz
      go_enter Tryz.func139, Tryz.ntmps139
      go_wp2_with (first | (go_at_call 137; refine (changed_any (shift1_ok (bc := w.heap.size + 2) (bb := w.heap.size + 1) (g := w.heap.size + 4) hby hcut (((Blk.new_ _ 3 _ (by simp)).alloc _).alloc _) ((((Blk.new_ _ 3 _ (by simp)).alloc _).alloc _).alloc _) (by omega) (by omega)) (run_enter Tryz.func177 (by kernel_rfl) (by kernel_rfl)) (sizes ks + 1) k n ks A c 0 30 _ true (by omega) hs (by omega) (by omega) (by omega) (World.grownBy.refl _ _) (Blk.new_ _ 4 _ (by simp)) (((((hrp.alloc _).alloc _).alloc _).alloc _).alloc _)).mono ?_; rw [hct, hok]; intro e w6 hpost; obtain ⟨A6, c6, rfl, hl6, hf6, hG6, hg6⟩ := gotG_mk hpost; clear hpost; have hT6 : Blk w6 (w.heap.size + 1 + 1 + 1) #[.int .i64 0, .int .i64 0, .slice none 0 0] := ((Blk.new_ _ 25 _ (by simp)).alloc _).grown hg6 (by simp); have f0 := hG6.at_ (i := 0) rfl; obtain ⟨d0, d1, d2⟩ := hT6.three; have e0 := hT6.frozen 0; have e1 := hT6.frozen 1; have e2 := hT6.frozen 2; have lT := hT6.lt; have lG := hG6.lt; have hb6 : Below w.heap.size w w6 := ((((((Below.refl _ _).alloc (Nat.le_refl _) _).alloc (by simp) _).alloc (by simp; omega) _).alloc (by simp; omega) _).alloc (by simp; omega) _).grown hg6 (by simp; omega) (fun k e => by cases e; omega); replace hf6 := hf6.mono (B' := w.heap.size + 5) (by simp)) | (go_at_call 62; refine (valid_no k2 n2 ks2 A6 c6 _ (by omega) (hf6.rd.alloc _) hv).mono ?_; rintro e w8 ⟨rfl, hb8⟩; have hT8 : Blk w8 (w.heap.size + 1 + 1 + 1) #[.int .i64 0, .int .i64 0, .slice none 0 0] := (hT6.alloc _).keep hb8; obtain ⟨x0, x1, x2⟩ := hT8.three; have e80 := hT8.frozen 0; have e81 := hT8.frozen 1; have e82 := hT8.frozen 2; replace hb8 : Below w.heap.size w w8 := (hb6.alloc hb6.size _).trans (hb8.mono (by have := hb6.size; simp; omega)); have hzz : zeroV = .agg #[.int .i64 0, .int .i64 0, .slice none 0 0] := rfl))
      refine bodyPost_ret (v := .tuple #[zeroV, .bool false]) (by simp [results, Tryz.results139, go_sem, x0, x1, x2, zeroV]) rfl ⟨rfl, ?_⟩
      exact ((hb8.setCell (by simp; omega) _).setCell (by simp; omega) _).setCell (by simp; omega) _
    | true =>
      have hz : shiftI by_ cut (.mk k n ks) = some (.mk k2 n2 ks2) := by rw [shiftI, hok, if_pos rfl, hct, hv]; rfl
      rw [hz]
      clear hz
      go_enter Tryz.func139, Tryz.ntmps139
      go_wp2_with (first | (go_at_call 137; refine (changed_any (shift1_ok (bc := w.heap.size + 2) (bb := w.heap.size + 1) (g := w.heap.size + 4) hby hcut (((Blk.new_ _ 3 _ (by simp)).alloc _).alloc _) ((((Blk.new_ _ 3 _ (by simp)).alloc _).alloc _).alloc _) (by omega) (by omega)) (run_enter Tryz.func177 (by kernel_rfl) (by kernel_rfl)) (sizes ks + 1) k n ks A c 0 30 _ true (by omega) hs (by omega) (by omega) (by omega) (World.grownBy.refl _ _) (Blk.new_ _ 4 _ (by simp)) (((((hrp.alloc _).alloc _).alloc _).alloc _).alloc _)).mono ?_; rw [hct, hok]; intro e w6 hpost; obtain ⟨A6, c6, rfl, hl6, hf6, hG6, hg6⟩ := gotG_mk hpost; clear hpost; have hT6 : Blk w6 (w.heap.size + 1 + 1 + 1) #[.int .i64 0, .int .i64 0, .slice none 0 0] := ((Blk.new_ _ 25 _ (by simp)).alloc _).grown hg6 (by simp); have f0 := hG6.at_ (i := 0) rfl; obtain ⟨d0, d1, d2⟩ := hT6.three; have e0 := hT6.frozen 0; have e1 := hT6.frozen 1; have e2 := hT6.frozen 2; have lT := hT6.lt; have lG := hG6.lt; have hb6 : Below w.heap.size w w6 := ((((((Below.refl _ _).alloc (Nat.le_refl _) _).alloc (by simp) _).alloc (by simp; omega) _).alloc (by simp; omega) _).alloc (by simp; omega) _).grown hg6 (by simp; omega) (fun k e => by cases e; omega); replace hf6 := hf6.mono (B' := w.heap.size + 5) (by simp)) | (go_at_call 62; refine (valid_yes k2 n2 ks2 A6 c6 _ (by omega) (hf6.rd.alloc _) hv).mono ?_; rintro e w8 ⟨rfl, hb8⟩; have hf8 := (hf6.alloc (.cells #[.int .i64 k2, .int .i64 n2, .slice A6 ks2.length c6] 25)).below hb8; have hT8 : Blk w8 (w.heap.size + 1 + 1 + 1) #[.int .i64 0, .int .i64 0, .slice none 0 0] := (hT6.alloc _).keep hb8; obtain ⟨x0, x1, x2⟩ := hT8.three; have e80 := hT8.frozen 0; have e81 := hT8.frozen 1; have e82 := hT8.frozen 2; replace hb8 : Below w.heap.size w w8 := (hb6.alloc hb6.size _).trans (hb8.mono (by have := hb6.size; simp; omega))))
      refine bodyPost_ret (v := .tuple #[.agg #[.int .i64 k2, .int .i64 n2, .slice A6 ks2.length c6], .bool true]) (by simp [results, Tryz.results139, go_sem, x0, x1, x2]) rfl ⟨A6, c6, rfl, hl6, ?_, ?_⟩
      · exact (((hf8.setCell (by simp) _).setCell (by simp) _).setCell (by simp) _).mono (by omega)
      · exact ((hb8.setCell (by simp; omega) _).setCell (by simp; omega) _).setCell (by simp; omega) _
open Go.RowKit
set_option maxHeartbeats 1000000 in
theorem sLeaf_any (k n : Int) (w : World) : Calls Tryz.prog 32 #[.int .i64 k, .int .i64 n] w fun e w' => e = .returned (.agg #[.int .i64 k, .int .i64 n, .slice none 0 0]) ∧ Below w.heap.size w w' := by
  go_enter Tryz.func32, Tryz.ntmps32
  go_wp2_with fail
  refine bodyPost_ret (v := .agg #[.int .i64 k, .int .i64 n, .slice none 0 0]) (by simp [results, Tryz.results32, go_sem]) rfl ⟨rfl, ?_⟩
  exact (Below.refl _ _).alloc (Nat.le_refl _) _
mutual
def flS (args : List Tm) : Int → Tm → Tm
  | d, .mk k n ks => if k = 1 ∧ d ≤ n then (if n < d + args.length then shS d 0 (args.getD (n - d).toNat default) else .mk 1 (n - args.length) []) else .mk k n (flSL args k d 0 ks)
def flSL (args : List Tm) : Int → Int → Nat → List Tm → List Tm | _, _, _, [] => [] | k, d, i, t :: ts => flS args (d + under k i) t :: flSL args k d (i + 1) ts
end
open Go.RowKit
/-- the reader at block r: its bytes lie elsewhere, all below B; so many numbers have been asked for -/
def Rdr (B : Nat) (w : World) (r p : Nat) : Prop :=
  ∃ (A : Option Addr) (bs : List Int) (c : Nat), Blk w r #[.slice A bs.length c, .int .i64 p] ∧ bs.length ≤ 2000 ∧ r < B ∧
    ∀ j (hj : j < bs.length), ∃ b off, A = some ⟨b, off, none⟩ ∧ w.cell? ⟨b, off + j, none⟩ = some (.int .u8 bs[j]) ∧ 0 ≤ bs[j] ∧ bs[j] ≤ 255 ∧ b ≠ r ∧ b < B
theorem Rdr.keep {B r p : Nat} {w w' : World} (h : Rdr B w r p) (hk : ∀ b, b < B → w'.heap[b]? = w.heap[b]?) : Rdr B w' r p := by
  obtain ⟨A, bs, c, ⟨t, h1⟩, h2, h3, h4⟩ := h
  refine ⟨A, bs, c, ⟨t, (hk r h3).trans h1⟩, h2, h3, fun j hj => ?_⟩
  obtain ⟨b, off, e, h5, h6, h7, h8, h9⟩ := h4 j hj
  exact ⟨b, off, e, (World.cell?_of_block (w := w) (a := ⟨b, off + j, none⟩) (hk b h9)).trans h5, h6, h7, h8, h9⟩
theorem Rdr.below {B B' r p : Nat} {w w' : World} (h : Rdr B w r p) (hb : Below B' w w') (hB : B ≤ B') : Rdr B w' r p := h.keep fun b hl => hb.block b (by omega)
theorem Rdr.alloc {B r p : Nat} {w : World} (h : Rdr B w r p) (hB : B ≤ w.heap.size) (o : Obj) : Rdr B (w.alloc o) r p := h.keep fun b hl => Below.heap_alloc w o b (by omega)
theorem Rdr.drew {B r p : Nat} {w : World} (h : Rdr B w r p) : Rdr B w.drew r p := h
theorem Rdr.setCell {B r p : Nat} {w : World} (h : Rdr B w r p) {a : Addr} (ha : B ≤ a.block) (u : Value) : Rdr B (w.setCell a u) r p := h.keep fun b hl => Below.heap_setCell w a u b (by omega)
theorem Rdr.step {B r p : Nat} {w : World} (h : Rdr B w r p) (q : Nat) : Rdr B (w.setCell ⟨r, 1, none⟩ (.int .i64 q)) r q := by
  obtain ⟨A, bs, c, h1, h2, h3, h4⟩ := h
  refine ⟨A, bs, c, h1.set_ 1 _, h2, h3, fun j hj => ?_⟩
  obtain ⟨b, off, e, h5, h6, h7, h8, h9⟩ := h4 j hj
  exact ⟨b, off, e, (World.cell?_of_block (w := w) (a := ⟨b, off + j, none⟩) (Below.heap_setCell w _ _ b h8)).trans h5, h6, h7, h8, h9⟩
/-- what asking for a number below n gives -/
def Picked (B : Nat) (w : World) (r p : Nat) (n : Int) (e : Ending) (w' : World) : Prop :=
  ∃ m : Nat, e = .returned (.int .i64 m) ∧ (1 ≤ n → (m : Int) < n) ∧ (n < 1 → m = 0) ∧ Rdr B w' r (p + 1) ∧ w.grownBy w' (some r)
theorem ofInt_i64 (a : Nat) (ha : a < 9223372036854775808) : (BitVec.ofInt 64 (a : Int)).toNat = a := by
  rw [BitVec.ofInt_natCast, BitVec.toNat_ofNat]; exact Nat.mod_eq_of_lt (by omega)
theorem i64_xor_nat (a b : Nat) (ha : a < 9223372036854775808) (hb : b < 9223372036854775808) : bits .xor .i64 (a : Int) (b : Int) = ((a ^^^ b : Nat) : Int) := by
  have hx : a ^^^ b < 2 ^ 63 := Nat.xor_lt_two_pow (by omega) (by omega)
  show IntKind.i64.wrap ((BitVec.ofInt 64 (a : Int) ^^^ BitVec.ofInt 64 (b : Int)).toNat : Int) = _
  rw [BitVec.toNat_xor, ofInt_i64 a ha, ofInt_i64 b hb, IntKind.wrap_i64]
  omega
theorem mix_sum (x1 x2 : Int) (p dv : Nat) (h1 : 0 ≤ x1) (h2 : x1 ≤ 255) (h3 : 0 ≤ x2) (h4 : x2 ≤ 255) (h5 : p ≤ 1000000000) (h6 : dv ≤ p) :
    wrap64 (x1 * 131 + x2 * 1117 + (p : Int) * 29 + wrap64 (wrap64 (dv : Int) * 53)) = x1 * 131 + x2 * 1117 + (p : Int) * 29 + (dv : Int) * 53 ∧ 0 ≤ x1 * 131 + x2 * 1117 + (p : Int) * 29 + (dv : Int) * 53 ∧ x1 * 131 + x2 * 1117 + (p : Int) * 29 + (dv : Int) * 53 ≤ ((200000000000 : Nat) : Int) := by
  have e1 : wrap64 (dv : Int) = dv := IntWalk.wrap64_in _ ⟨by omega, by omega⟩
  have e2 : wrap64 ((dv : Int) * 53) = (dv : Int) * 53 := IntWalk.wrap64_in _ ⟨by omega, by omega⟩
  rw [e1, e2]
  exact ⟨IntWalk.wrap64_in _ ⟨by omega, by omega⟩, by omega, by omega⟩
theorem div_wrap (m : Nat) (h : m ≤ 200000000000) : wrap64 ((m : Int) / 64) = (m : Int) / 64 := IntWalk.wrap64_in _ ⟨by omega, by omega⟩
set_option maxHeartbeats 4000000 in
set_option maxRecDepth 100000 in
theorem pick_any (B r p : Nat) (n : Int) (w : World) (hp : p ≤ 1000000000) (hn : n ≤ 1000000000) (hB : B ≤ w.heap.size) (hr : Rdr B w r p) :
    Calls Tryz.prog 30 #[.pointer (some ⟨r, 0, none⟩), .int .i64 n] w (Picked B w r p n) := by
  have hst := hr.step (p + 1)
  obtain ⟨A, bs, c, h1, h2, h3, h4⟩ := hr
  have b0 := h1.at_ (i := 0) rfl
  have b1 := h1.at_ (i := 1) rfl
  have e1 := h1.frozen 1
  have b2 := (h1.set_ 1 (.int .i64 (p + 1 : Nat))).at_ (i := 0) rfl
  have b3 := (h1.set_ 1 (.int .i64 (p + 1 : Nat))).at_ (i := 1) rfl
  have hg : w.grownBy (w.setCell ⟨r, 1, none⟩ (.int .i64 (p + 1 : Nat))) (some r) := only_setCell (World.grownBy.refl _ _) (.inl rfl) _
  by_cases hn1 : n < 1
  · go_enter Tryz.func30, Tryz.ntmps30
    go_wp2_with fail
    go_ret
    exact ⟨0, rfl, by omega, fun _ => rfl, hst, hg⟩
  · by_cases hl : bs.length = 0
    · have hq : ((bs.length : Int) == 0) = true := by simp [hl]
      have hl' := hide hl
      clear hl
      go_enter Tryz.func30, Tryz.ntmps30
      go_wp2_with fail
      go_ret
      exact ⟨0, rfl, fun h => by simp; omega, fun _ => rfl, hst, hg⟩
    · have hq : ((bs.length : Int) == 0) = false := beq_eq_false_iff_ne.2 (by omega)
      by_cases hk : p < bs.length
      · obtain ⟨b, off, rfl, h5, h6, h7, h8, h9⟩ := h4 p hk
        generalize bs[p] = x at *
        have h5' : (w.setCell ⟨r, 1, none⟩ (.int .i64 (p + 1 : Nat))).cell? ⟨b, off + p, none⟩ = some (.int .u8 x) := (World.cell?_of_block (w := w) (a := ⟨b, off + p, none⟩) (Below.heap_setCell w _ _ b h8)).trans h5
        go_enter Tryz.func30, Tryz.ntmps30
        go_wp2_with fail
        go_ret
        refine ⟨(x % n).toNat, ?_, fun h => ?_, fun h => (by omega), hst, hg⟩
        · rw [Int.toNat_of_nonneg (Int.emod_nonneg _ (by omega))]; rfl
        · rw [Int.toNat_of_nonneg (Int.emod_nonneg _ (by omega))]; exact Int.emod_lt_of_pos _ (by omega)
      · have hlp : 0 < bs.length := by omega
        have hj1 := Nat.mod_lt p hlp
        have t1 : (p : Int).tmod (bs.length : Int) = ((p % bs.length : Nat) : Int) := by rw [Int.tmod_eq_emod_of_nonneg (by omega)]; rfl
        generalize p % bs.length = j1 at hj1 t1
        have t2 : IntKind.i64.wrap ((p : Int) * 7) = ((p * 7 : Nat) : Int) := by rw [IntWalk.i64_in _ (by omega)]; omega
        obtain ⟨q7, hq7⟩ : ∃ q7, p * 7 = q7 := ⟨_, rfl⟩
        rw [hq7] at t2
        have t3 : IntKind.i64.wrap ((q7 : Int) + 3) = ((q7 + 3 : Nat) : Int) := by rw [IntWalk.i64_in _ (by omega)]; omega
        obtain ⟨q8, hq8⟩ : ∃ q8, q7 + 3 = q8 := ⟨_, rfl⟩
        rw [hq8] at t3
        have hj2 := Nat.mod_lt q8 hlp
        have t4 : (q8 : Int).tmod (bs.length : Int) = ((q8 % bs.length : Nat) : Int) := by rw [Int.tmod_eq_emod_of_nonneg (by omega)]; rfl
        generalize q8 % bs.length = j2 at hj2 t4
        obtain ⟨ba, offa, rfl, a5, a6, a7, a8, a9⟩ := h4 j1 hj1
        obtain ⟨bb, offb, hA, c5, c6, c7, c8, c9⟩ := h4 j2 hj2
        injection hA with hA
        injection hA with hA1 hA2
        subst hA1 hA2
        generalize bs[j1] = x1 at *
        generalize bs[j2] = x2 at *
        have a5' : (w.setCell ⟨r, 1, none⟩ (.int .i64 (p + 1 : Nat))).cell? ⟨ba, offa + j1, none⟩ = some (.int .u8 x1) := (World.cell?_of_block (w := w) (a := ⟨ba, offa + j1, none⟩) (Below.heap_setCell w _ _ ba a8)).trans a5
        have c5' : (w.setCell ⟨r, 1, none⟩ (.int .i64 (p + 1 : Nat))).cell? ⟨ba, offa + j2, none⟩ = some (.int .u8 x2) := (World.cell?_of_block (w := w) (a := ⟨ba, offa + j2, none⟩) (Below.heap_setCell w _ _ ba a8)).trans c5
        have hdv := Nat.div_le_self p bs.length
        have t10 : (p : Int).tdiv (bs.length : Int) = ((p / bs.length : Nat) : Int) := by rw [Int.tdiv_eq_ediv_of_nonneg (by omega)]; rfl
        generalize p / bs.length = dv at hdv t10
        obtain ⟨hX, hX0, hX1⟩ := mix_sum x1 x2 p dv a6 a7 c6 c7 hp hdv
        obtain ⟨m8, hm8⟩ : ∃ m8 : Nat, x1 * 131 + x2 * 1117 + (p : Int) * 29 + (dv : Int) * 53 = (m8 : Int) := ⟨(x1 * 131 + x2 * 1117 + (p : Int) * 29 + (dv : Int) * 53).toNat, (Int.toNat_of_nonneg hX0).symm⟩
        rw [hm8] at hX hX0 hX1
        have hb8 : m8 ≤ 200000000000 := Int.ofNat_le.1 hX1
        clear hX0 hX1
        have t14 : wrap64 ((m8 : Int) / 64) = (m8 : Int) / 64 := div_wrap m8 hb8
        have hb9 : m8 / 64 ≤ m8 := Nat.div_le_self _ _
        have t13 : bits .xor .i64 (m8 : Int) ((m8 : Int) / 64) = ((m8 ^^^ (m8 / 64) : Nat) : Int) := by
          have := i64_xor_nat m8 (m8 / 64) (by omega) (by omega)
          rw [← this]; rfl
        generalize m8 ^^^ (m8 / 64) = m9 at t13
        have hX' := hide hX
        have T13 := hide t13
        have T14 := hide t14
        clear t13 t14
        clear hm8 hq8 hq7 h4 h1 hdv hX
        go_enter Tryz.func30, Tryz.ntmps30
        go_wp2_with fail
        refine name_world ?_
        intro wx hwx
        have r0 : wx.cell? ⟨r, 0, none⟩ = some (.slice (some ⟨ba, offa, none⟩) bs.length c) := by rw [hwx]; exact b2
        have r1 : wx.cell? ⟨ba, offa + j1, none⟩ = some (.int .u8 x1) := by rw [hwx]; exact a5'
        have r2 : wx.cell? ⟨ba, offa + j2, none⟩ = some (.int .u8 x2) := by rw [hwx]; exact c5'
        have hgx : w.grownBy wx (some r) := by rw [hwx]; exact hg
        have hsx : Rdr B wx r (p + 1) := by rw [hwx]; exact hst
        replace r0 := rule_of r0
        replace r1 := rule_of r1
        replace r2 := rule_of r2
        clear hwx hg hst a5' c5' b2 b3
        refine wp_region_firstY (fun w' => Below wx.heap.size wx w') [0, 1, 2, 3, 4, 5, 6, 7, 8, 9, 10, 11, 12, 13, 14, 15, 16, 17, 18, 19, 20, 21, 22, 23, 24, 25, 26, 27, 28, 29, 30, 31, 32, 33, 34, 35, 36, 37, 38, 39, 40, 41, 42, 43, 44, 45] [] [] [_, _, _, _, _, _, _, _, _, _, _, _, _, _, _, _, _, _, _, _, _, _, _, _, _, _, _, _, _, _, _, _, _, _, _, _, _, _, _, _, _, _, _, _, _, _] [] [] (by kernel_rfl) (by kernel_rfl) rfl rfl rfl (fun _ _ d _ _ h => by cases d <;> exact h) (Below.refl _ _).drew ?_
        repeat (first | ((refine takeY_skip (a' := ?_) ?_ ?_ ?_); (rotate_left); (· (simp [Region.wanted, yielded]; done)); (· (simp only [List.getElem_toArray, List.getElem_cons_zero, List.getElem_cons_succ, Act.put, List.setIfInBounds_toArray, List.set_cons_zero, List.set_cons_succ]; exact rfl))) | ((refine takeY_step (v := ?_) (a' := ?_) ?_ ?_ ?_ ?_); (rotate_left 2); (· (simp [Region.wanted, yielded]; done)); (· (intro w' hS'; go_simp; try (with_reducible rfl))); (· (simp only [List.getElem_toArray, List.getElem_cons_zero, List.getElem_cons_succ, Act.put, List.setIfInBounds_toArray, List.set_cons_zero, List.set_cons_succ]; exact rfl))))
        refine takeY_nil (then_nil ?_)
        have hX := hX'.out
        go_wp2_with fail
        go_ret
        refine ⟨(m9 % n.toNat : Nat), ?_, fun h => ?_, fun h => (by omega), hsx, only_drew hgx⟩
        · have hc : ((m9 % n.toNat : Nat) : Int) = (m9 : Int) % n := by
            rw [Int.natCast_emod, Int.toNat_of_nonneg (by omega)]
          rw [hc]
          show Ending.returned (.int .i64 ((bits .xor .i64 (m8 : Int) (wrap64 ((m8 : Int) / 64))).tmod n)) = _
          rw [T14.out, T13.out, Int.tmod_eq_emod_of_nonneg (by omega)]
        · have h5 := Nat.mod_lt m9 (show 0 < n.toNat by omega)
          omega
/-- bytes that can be read -/
def RdY (w : World) (A : Option Addr) (bs : List Int) : Prop := ∀ j (hj : j < bs.length), ∃ b off, A = some ⟨b, off, none⟩ ∧ w.cell? ⟨b, off + j, none⟩ = some (.int .u8 bs[j]) ∧ 0 ≤ bs[j] ∧ bs[j] ≤ 255
theorem RdY.take {w : World} {A : Option Addr} {bs : List Int} (h : RdY w A bs) (n : Nat) : RdY w A (bs.take n) := fun j hj => by
  rw [List.length_take] at hj
  obtain ⟨b, off, e, h1, h2, h3⟩ := h j (by omega)
  exact ⟨b, off, e, by rw [List.getElem_take]; exact h1, by rw [List.getElem_take]; exact h2, by rw [List.getElem_take]; exact h3⟩
theorem RdY.keeps {w w' : World} {A : Option Addr} {bs : List Int} (h : RdY w A bs) (hk : Keeps w w') : RdY w' A bs := fun j hj => by
  obtain ⟨b, off, e, h1, h2, h3⟩ := h j hj
  exact ⟨b, off, e, hk _ _ h1, h2, h3⟩
theorem Rdr.new {w : World} {A : Option Addr} {bs : List Int} {c : Nat} {t : TypeId} (h : RdY w A bs) (hl : bs.length ≤ 2000) : Rdr (w.heap.size + 1) (w.alloc (.cells #[.slice A bs.length c, .int .i64 0] t)) w.heap.size 0 :=
  ⟨A, bs, c, Blk.new_ _ _ _ rfl, hl, by omega, fun j hj => by
    obtain ⟨b, off, e, h1, h2, h3⟩ := h j hj
    have hb := World.block_lt_of_cell? _ _ h1
    have hb : b < w.heap.size := hb
    exact ⟨b, off, e, Keeps.alloc _ _ _ _ h1, h2, h3, by omega, by omega⟩⟩
/-- an open reader -/
def Opened (w : World) (e : Ending) (w' : World) : Prop := ∃ r, e = .returned (.pointer (some ⟨r, 0, none⟩)) ∧ w.heap.size ≤ r ∧ r < w'.heap.size ∧ Rdr w'.heap.size w' r 0 ∧ Below w.heap.size w w'
theorem Rdr.mono {B B' : Nat} {w : World} {r p : Nat} (h : Rdr B w r p) (hB : B ≤ B') : Rdr B' w r p := by
  obtain ⟨A, bs, c, h1, h2, h3, h4⟩ := h
  exact ⟨A, bs, c, h1, h2, by omega, fun j hj => by obtain ⟨b, off, e, h5, h6, h7, h8, h9⟩ := h4 j hj; exact ⟨b, off, e, h5, h6, h7, h8, by omega⟩⟩
set_option maxHeartbeats 2000000 in
set_option maxRecDepth 100000 in
theorem open_any (bs : List Int) (A : Option Addr) (c : Nat) (w : World) (hl : bs.length ≤ 9223372036854775807) (hc : bs.length ≤ c) (hr : RdY w A bs) : Calls Tryz.prog 11 #[.slice A bs.length c] w (Opened w) := by
  by_cases h2 : bs.length ≤ 2000
  · go_enter Tryz.func11, Tryz.ntmps11
    go_wp2_with fail
    go_ret
    exact ⟨w.heap.size, rfl, Nat.le_refl _, by simp, by simpa using Rdr.new hr h2, (Below.refl _ _).alloc (Nat.le_refl _) _⟩
  · have hr2 := hr.take 2000
    have hl2 : (bs.take 2000).length = 2000 := by rw [List.length_take]; omega
    have hc2 : 2000 ≤ c := by omega
    generalize bs.take 2000 = bs2 at hr2 hl2
    have hl2' := hide hl2
    clear hl2
    go_enter Tryz.func11, Tryz.ntmps11
    go_wp2_with fail
    go_ret
    refine ⟨w.heap.size, rfl, Nat.le_refl _, by simp, ?_, (Below.refl _ _).alloc (Nat.le_refl _) _⟩
    have := Rdr.new (c := c) (t := 63) hr2 (by have := hl2'.out; omega)
    rw [hl2'.out] at this
    simpa using this
open Go.RowKit
def intc (xs : List Int) : Array Value := (xs.map (Value.int .i64)).toArray
theorem intc_get {xs : List Int} {j : Nat} (h : j < xs.length) : (intc xs)[j]? = some (.int .i64 xs[j]) := by simp [intc, List.getElem?_eq_getElem h]
/-- what the draw of an element gives -/
def Drawn (B : Nat) (w : World) (r p : Nat) (xs : List Int) (e : Ending) (w' : World) : Prop :=
  ∃ x, x ∈ xs ∧ e = .returned (.int .i64 x) ∧ Rdr B w' r (p + 1) ∧ w.grownBy w' (some r)
set_option maxHeartbeats 2000000 in
set_option maxRecDepth 100000 in
theorem num_any (xs : List Int) (B r p g : Nat) (w : World) (hx : 0 < xs.length) (hx2 : xs.length ≤ 1000) (hp : p ≤ 1000000000) (hB : B ≤ w.heap.size) (hr : Rdr B w r p) (hL : Blk w g (intc xs)) (hg : r ≠ g) :
    Calls Tryz.prog 31 #[.pointer (some ⟨r, 0, none⟩), .slice (some ⟨g, 0, none⟩) xs.length xs.length] w (Drawn B w r p xs) := by
  go_enter Tryz.func31, Tryz.ntmps31
  go_wp2_with (go_at_call 30; refine (pick_any B r p xs.length _ hp (by omega) hB hr).mono ?_; rintro e w1 ⟨m, rfl, hm, hm0, hr1, hg1⟩; have hm := hm (by omega); clear hm0; have hm' : m < xs.length := (by omega); have hc : w1.cell? ⟨g, m, none⟩ = some (.int .i64 xs[m]) := (hL.grown hg1 (by simpa using hg.symm)).at_ (intc_get hm'))
  go_ret
  exact ⟨xs[m], List.getElem_mem hm', rfl, hr1, hg1⟩
open Go.RowKit
/-- what fill puts in a variable's place -/
def filF (args : List Tm) (n d : Int) : Tm :=
  if n - d < 0 then .mk 1 n [] else if (args.length : Int) ≤ n - d then .mk 1 (n - args.length) [] else (shiftI d 0 (args.getD (n - d).toNat default)).getD (.mk 0 0 [])
def filOk (args : List Tm) (n d : Int) : Bool :=
  if n - d < 0 then true else if (args.length : Int) ≤ n - d then true else (shiftI d 0 (args.getD (n - d).toNat default)).isSome
theorem gotO_some {w : World} {k n : Int} {ks : List Tm} {e : Ending} {w' : World} (h : GotO w (some (.mk k n ks)) e w') :
    ∃ A c, e = .returned (.tuple #[.agg #[.int .i64 k, .int .i64 n, .slice A ks.length c], .bool true]) ∧ ks.length ≤ 9223372036854775807 ∧ Fresh w.heap.size w' A ks ∧ Below w.heap.size w w' := h
theorem gotO_none {w : World} {e : Ending} {w' : World} (h : GotO w none e w') : e = .returned (.tuple #[.agg #[.int .i64 0, .int .i64 0, .slice none 0 0], .bool false]) ∧ Below w.heap.size w w' := h
open Go.RowKit
theorem validT_size {t : Tm} (h : validT t = true) : t.size ≤ 400 := by simp only [validT, Bool.and_eq_true, decide_eq_true_eq] at h; exact h.2
open Go.RowKit
open Go.RowKit
theorem shS_size (by_ : Int) (t : Tm) : ∀ d, (shS by_ d t).size = t.size := by
  refine Tm.rec (motive_1 := fun t => ∀ d, (shS by_ d t).size = t.size) (motive_2 := fun ts => ∀ k d i, sizes (shSL by_ k d i ts) = sizes ts) ?_ ?_ ?_ t
  · intro k n ks ih d; rw [shS, Tm.size, Tm.size, ih]
  · intro k d i; rfl
  · intro t ts h1 h2 k d i; rw [shSL, sizes, sizes, h1, h2]
end Go.Proofs.YtodkpgkefjegnaaGreatDoor
