/-
  variable, valid, shift of the implementation. No condition.
-/
import Derived.Test.YtefifcmieicnlaaChanged
import Derived.Test.YtefifcmieicnlaaForm
import Derived.Test.YtefifcmieicnlaaOuter
namespace Go.Proofs.Ytefifcmieicnlaa
open Go.RowKit
set_option linter.unusedSimpArgs false
set_option linter.unusedVariables false

set_option maxHeartbeats 2000000 in
set_option maxRecDepth 100000 in
theorem variable_any (n : Int) (w : World) : Calls Try.prog 110 #[.int .i64 n] w fun e w' => e = .returned (.agg #[.int .i64 1, .int .i64 n, .slice none 0 0]) ∧ Below w.heap.size w w' := by
  go_enter Try.func110, Try.ntmps110
  go_wp2_with fail
  exact bodyPost_ret (v := .agg #[.int .i64 1, .int .i64 n, .slice none 0 0]) (by simp [results, Try.results110, go_sem]) rfl ⟨rfl, (Below.refl _ _).alloc (Nat.le_refl _) _⟩

/-- the empty term that stands for a failure -/
def zeroV : Value := .agg #[.int .i64 0, .int .i64 0, .slice none 0 0]
set_option maxHeartbeats 2000000 in
set_option maxRecDepth 100000 in
theorem valid_yes (k n : Int) (ks : List Tm) (A : Option Addr) (c : Nat) (w : World) (hM : sizes ks ≤ 1099511627775) (hr : Rd w A 0 ks) (hv : validT (.mk k n ks) = true) :
    Calls Try.prog 79 #[(.agg #[.int .i64 k, .int .i64 n, .slice A ks.length c])] w fun e w' => e = .returned (.tuple #[(.agg #[.int .i64 k, .int .i64 n, .slice A ks.length c]), .bool true]) ∧ Below w.heap.size w w' := by
  go_enter Try.func79, Try.ntmps79
  go_wp2_with (go_at_call 51; refine (iTermValid_any k n ks A c _ hM ((hr.alloc _).alloc _)).mono ?_; rw [hv]; rintro e w1 ⟨rfl, hb1⟩; have hB : Blk w1 w.heap.size #[.int .i64 k, .int .i64 n, .slice A ks.length c] := ((Blk.new_ w 29 #[.int .i64 k, .int .i64 n, .slice A ks.length c] rfl).alloc _).keep hb1; have hT : Blk w1 (w.heap.size + 1) #[.int .i64 0, .int .i64 0, .slice none 0 0] := (Blk.new_ _ 29 _ (by simp)).keep hb1; obtain ⟨p0, p1, p2⟩ := hB.three; obtain ⟨d0, d1, d2⟩ := hT.three; have e0 := hT.frozen 0; have e1 := hT.frozen 1; have e2 := hT.frozen 2; replace hb1 : Below w.heap.size w w1 := (((Below.refl _ _).alloc (Nat.le_refl _) _).alloc (by simp) _).trans (hb1.mono (by simp; omega)))
  refine bodyPost_ret (v := .tuple #[(.agg #[.int .i64 k, .int .i64 n, .slice A ks.length c]), .bool true]) (by simp [results, Try.results79, go_sem, d0, d1, d2]) rfl ⟨rfl, ?_⟩
  exact ((hb1.setCell (by simp) _).setCell (by simp) _).setCell (by simp) _
set_option maxHeartbeats 2000000 in
set_option maxRecDepth 100000 in
theorem valid_no (k n : Int) (ks : List Tm) (A : Option Addr) (c : Nat) (w : World) (hM : sizes ks ≤ 1099511627775) (hr : Rd w A 0 ks) (hv : validT (.mk k n ks) = false) :
    Calls Try.prog 79 #[(.agg #[.int .i64 k, .int .i64 n, .slice A ks.length c])] w fun e w' => e = .returned (.tuple #[zeroV, .bool false]) ∧ Below w.heap.size w w' := by
  go_enter Try.func79, Try.ntmps79
  go_wp2_with (go_at_call 51; refine (iTermValid_any k n ks A c _ hM ((hr.alloc _).alloc _)).mono ?_; rw [hv]; rintro e w1 ⟨rfl, hb1⟩; have hT : Blk w1 (w.heap.size + 1) #[.int .i64 0, .int .i64 0, .slice none 0 0] := (Blk.new_ _ 29 _ (by simp)).keep hb1; obtain ⟨d0, d1, d2⟩ := hT.three; have e0 := hT.frozen 0; have e1 := hT.frozen 1; have e2 := hT.frozen 2; replace hb1 : Below w.heap.size w w1 := (((Below.refl _ _).alloc (Nat.le_refl _) _).alloc (by simp) _).trans (hb1.mono (by simp; omega)))
  refine bodyPost_ret (v := .tuple #[zeroV, .bool false]) (by simp [results, Try.results79, go_sem, d0, d1, d2, zeroV]) rfl ⟨rfl, ?_⟩
  exact ((hb1.setCell (by simp) _).setCell (by simp) _).setCell (by simp) _

/-- a variable shifted -/
def shF (by_ cut : Int) (n d : Int) : Tm := .mk 1 (if cut ≤ n - d then n + by_ else n) []
def shOk (by_ cut : Int) (n d : Int) : Bool := if cut ≤ n - d then decide (cut ≤ n + by_ - d) && decide (n + by_ ≤ 20) else true

set_option maxHeartbeats 2000000 in
set_option maxRecDepth 100000 in
theorem shift1_ok {by_ cut : Int} {bc bb g : Nat} {W0 : World} (hb1 : -1000 ≤ by_ ∧ by_ ≤ 1000) (hc : -1000 ≤ cut ∧ cut ≤ 1000) (hC : Blk W0 bc #[.int .i64 cut]) (hB : Blk W0 bb #[.int .i64 by_]) (hcg : bc ≠ g) (hbg : bb ≠ g) :
    FunOk 124 [.pointer (some ⟨bc, 0, none⟩), .pointer (some ⟨bb, 0, none⟩), .pointer (some ⟨g, 0, none⟩)] W0 g (shF by_ cut) (shOk by_ cut) := by
  intro n d w b hn0 hn1 hd0 hd1 hW hg
  have hCw := hC.grown hW (by simpa using hcg)
  have hBw := hB.grown hW (by simpa using hbg)
  have x0 := hCw.at_ (i := 0) rfl
  have x1 := hBw.at_ (i := 0) rfl
  have x2 := hg.at_ (i := 0) rfl
  have z2 := hg.frozen 0
  have l0 := hCw.lt
  have l1 := hBw.lt
  have l2 := hg.lt
  by_cases h1 : cut ≤ n - d
  · have hz : shF by_ cut n d = .mk 1 (n + by_) [] := by rw [shF, if_pos h1]
    have hzo : shOk by_ cut n d = (decide (cut ≤ n + by_ - d) && decide (n + by_ ≤ 20)) := by rw [shOk, if_pos h1]
    rw [hz, hzo]
    have q1 : decide (cut ≤ n - d) = true := decide_eq_true h1
    have H := hide h1
    clear h1 hz hzo
    cases b with
    | false =>
      rw [Bool.false_and]
      go_enter Try.func124, Try.ntmps124
      go_wp2_with (go_at_call 110; refine (variable_any _ _).mono ?_; rintro e w1 ⟨rfl, hv1⟩; have hT : Blk w1 w.heap.size #[.int .i64 0, .int .i64 0, .slice none 0 0] := (Blk.new_ _ 29 _ (by simp)).keep hv1; obtain ⟨d0, d1, d2⟩ := hT.three; have e0 := hT.frozen 0; have e1 := hT.frozen 1; have e2 := hT.frozen 2; have hG1 : Blk w1 g #[.bool (false)] := ((hg.set_ 0 (.bool (false))).alloc (.cells #[.int .i64 0, .int .i64 0, .slice none 0 0] 29)).keep hv1; replace hv1 : w.grownBy w1 (some g) := only_below (only_alloc (only_setCell (World.grownBy.refl _ _) (.inl rfl) _) _) hv1)
      refine bodyPost_ret (v := .agg #[.int .i64 1, .int .i64 (n + by_), .slice none 0 0]) (by simp [results, Try.results124, go_sem, d0, d1, d2]) rfl ⟨none, 0, rfl, by simp [Tm.ks], Fresh.nil, ?_, ?_⟩
      · exact ((hG1.far (by simp; omega) _).far (by simp; omega) _).far (by simp; omega) _
      · exact only_setCell (only_setCell (only_setCell hv1 (.inr (by simp)) _) (.inr (by simp)) _) (.inr (by simp)) _
    | true =>
      by_cases h2 : cut ≤ n + by_ - d
      · have q2 : decide (cut ≤ n + by_ - d) = true := decide_eq_true h2
        rw [q2, Bool.true_and, Bool.true_and]
        have H2 := hide h2
        clear h2
        cases q3 : decide (n + by_ ≤ 20) with
        | false =>
          go_enter Try.func124, Try.ntmps124
          go_wp2_with (go_at_call 110; refine (variable_any _ _).mono ?_; rintro e w1 ⟨rfl, hv1⟩; have hT : Blk w1 w.heap.size #[.int .i64 0, .int .i64 0, .slice none 0 0] := (Blk.new_ _ 29 _ (by simp)).keep hv1; obtain ⟨d0, d1, d2⟩ := hT.three; have e0 := hT.frozen 0; have e1 := hT.frozen 1; have e2 := hT.frozen 2; have hG1 : Blk w1 g #[.bool (false)] := ((hg.set_ 0 (.bool (false))).alloc (.cells #[.int .i64 0, .int .i64 0, .slice none 0 0] 29)).keep hv1; replace hv1 : w.grownBy w1 (some g) := only_below (only_alloc (only_setCell (World.grownBy.refl _ _) (.inl rfl) _) _) hv1)
          refine bodyPost_ret (v := .agg #[.int .i64 1, .int .i64 (n + by_), .slice none 0 0]) (by simp [results, Try.results124, go_sem, d0, d1, d2]) rfl ⟨none, 0, rfl, by simp [Tm.ks], Fresh.nil, ?_, ?_⟩
          · exact ((hG1.far (by simp; omega) _).far (by simp; omega) _).far (by simp; omega) _
          · exact only_setCell (only_setCell (only_setCell hv1 (.inr (by simp)) _) (.inr (by simp)) _) (.inr (by simp)) _
        | true =>
          go_enter Try.func124, Try.ntmps124
          go_wp2_with (go_at_call 110; refine (variable_any _ _).mono ?_; rintro e w1 ⟨rfl, hv1⟩; have hT : Blk w1 w.heap.size #[.int .i64 0, .int .i64 0, .slice none 0 0] := (Blk.new_ _ 29 _ (by simp)).keep hv1; obtain ⟨d0, d1, d2⟩ := hT.three; have e0 := hT.frozen 0; have e1 := hT.frozen 1; have e2 := hT.frozen 2; have hG1 : Blk w1 g #[.bool (true)] := ((hg.set_ 0 (.bool (true))).alloc (.cells #[.int .i64 0, .int .i64 0, .slice none 0 0] 29)).keep hv1; replace hv1 : w.grownBy w1 (some g) := only_below (only_alloc (only_setCell (World.grownBy.refl _ _) (.inl rfl) _) _) hv1)
          refine bodyPost_ret (v := .agg #[.int .i64 1, .int .i64 (n + by_), .slice none 0 0]) (by simp [results, Try.results124, go_sem, d0, d1, d2]) rfl ⟨none, 0, rfl, by simp [Tm.ks], Fresh.nil, ?_, ?_⟩
          · exact ((hG1.far (by simp; omega) _).far (by simp; omega) _).far (by simp; omega) _
          · exact only_setCell (only_setCell (only_setCell hv1 (.inr (by simp)) _) (.inr (by simp)) _) (.inr (by simp)) _
      · have q2 : decide (cut ≤ n + by_ - d) = false := decide_eq_false h2
        rw [q2, Bool.false_and, Bool.true_and]
        have H2 := hide h2
        clear h2
        go_enter Try.func124, Try.ntmps124
        go_wp2_with (go_at_call 110; refine (variable_any _ _).mono ?_; rintro e w1 ⟨rfl, hv1⟩; have hT : Blk w1 w.heap.size #[.int .i64 0, .int .i64 0, .slice none 0 0] := (Blk.new_ _ 29 _ (by simp)).keep hv1; obtain ⟨d0, d1, d2⟩ := hT.three; have e0 := hT.frozen 0; have e1 := hT.frozen 1; have e2 := hT.frozen 2; have hG1 : Blk w1 g #[.bool (false)] := ((hg.set_ 0 (.bool (false))).alloc (.cells #[.int .i64 0, .int .i64 0, .slice none 0 0] 29)).keep hv1; replace hv1 : w.grownBy w1 (some g) := only_below (only_alloc (only_setCell (World.grownBy.refl _ _) (.inl rfl) _) _) hv1)
        refine bodyPost_ret (v := .agg #[.int .i64 1, .int .i64 (n + by_), .slice none 0 0]) (by simp [results, Try.results124, go_sem, d0, d1, d2]) rfl ⟨none, 0, rfl, by simp [Tm.ks], Fresh.nil, ?_, ?_⟩
        · exact ((hG1.far (by simp; omega) _).far (by simp; omega) _).far (by simp; omega) _
        · exact only_setCell (only_setCell (only_setCell hv1 (.inr (by simp)) _) (.inr (by simp)) _) (.inr (by simp)) _
  · have hz : shF by_ cut n d = .mk 1 n [] := by rw [shF, if_neg h1]
    have hzo : shOk by_ cut n d = true := by rw [shOk, if_neg h1]
    rw [hz, hzo, Bool.and_true]
    have q1 : decide (cut ≤ n - d) = false := decide_eq_false h1
    have H := hide h1
    clear h1 hz hzo
    go_enter Try.func124, Try.ntmps124
    go_wp2_with (go_at_call 110; refine (variable_any _ _).mono ?_; rintro e w1 ⟨rfl, hv1⟩; have hT : Blk w1 w.heap.size #[.int .i64 0, .int .i64 0, .slice none 0 0] := (Blk.new_ _ 29 _ rfl).keep hv1; obtain ⟨d0, d1, d2⟩ := hT.three; have e0 := hT.frozen 0; have e1 := hT.frozen 1; have e2 := hT.frozen 2; have hG1 := (hg.alloc (.cells #[.int .i64 0, .int .i64 0, .slice none 0 0] 29)).keep hv1; replace hv1 : w.grownBy w1 (some g) := only_below (only_alloc (World.grownBy.refl _ _) _) hv1)
    refine bodyPost_ret (v := .agg #[.int .i64 1, .int .i64 n, .slice none 0 0]) (by simp [results, Try.results124, go_sem, d0, d1, d2]) rfl ⟨none, 0, rfl, by simp [Tm.ks], Fresh.nil, ?_, ?_⟩
    · exact ((hG1.far (by simp; omega) _).far (by simp; omega) _).far (by simp; omega) _
    · exact only_setCell (only_setCell (only_setCell hv1 (.inr (by simp)) _) (.inr (by simp)) _) (.inr (by simp)) _
end Go.Proofs.Ytefifcmieicnlaa
