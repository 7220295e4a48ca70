/-
  fill of the implementation: its closure. No condition.
-/
import Derived.Test.YtefifcmieicnlaaShift2
namespace Go.Proofs.Ytefifcmieicnlaa
open Go.RowKit
set_option linter.unusedSimpArgs false
set_option linter.unusedVariables false

/-- what fill puts in a variable's place -/
def filF (args : List Tm) (n d : Int) : Tm :=
  if n - d < 0 then .mk 1 n [] else if (args.length : Int) ≤ n - d then .mk 1 (n - args.length) [] else (shiftI d 0 (args.getD (n - d).toNat default)).getD (.mk 0 0 [])
def filOk (args : List Tm) (n d : Int) : Bool :=
  if n - d < 0 then true else if (args.length : Int) ≤ n - d then true else (shiftI d 0 (args.getD (n - d).toNat default)).isSome
theorem gotO_some {w : World} {k n : Int} {ks : List Tm} {e : Ending} {w' : World} (h : GotO w (some (.mk k n ks)) e w') :
    ∃ A c, e = .returned (.tuple #[.agg #[.int .i64 k, .int .i64 n, .slice A ks.length c], .bool true]) ∧ ks.length ≤ 9223372036854775807 ∧ Fresh w.heap.size w' A ks ∧ Below w.heap.size w w' := h
theorem gotO_none {w : World} {e : Ending} {w' : World} (h : GotO w none e w') : e = .returned (.tuple #[.agg #[.int .i64 0, .int .i64 0, .slice none 0 0], .bool false]) ∧ Below w.heap.size w w' := h

set_option maxHeartbeats 2000000 in
set_option maxRecDepth 100000 in
theorem fill1_ok {args : List Tm} {B : Option Addr} {cb ba g : Nat} {W0 : World} (hl : args.length ≤ 1000) (hsh : ∀ t, t ∈ args → shape 30 t = true) (hsz : sizes args ≤ 1000000000) (hA : Blk W0 ba #[.slice B args.length cb]) (hR : RdP (· ≠ g) W0 B 0 args) (hag : ba ≠ g) :
    FunOk 109 [.pointer (some ⟨ba, 0, none⟩), .pointer (some ⟨g, 0, none⟩)] W0 g (filF args) (filOk args) := by
  intro n d w b hn0 hn1 hd0 hd1 hW hg
  have hAw := hA.grown hW (by simpa using hag)
  have hRw := hR.grown hW (fun b hb e => hb (by injection e))
  have x0 := hAw.at_ (i := 0) rfl
  have x2 := hg.at_ (i := 0) rfl
  have z2 := hg.frozen 0
  have l0 := hAw.lt
  have l2 := hg.lt
  by_cases h1 : n - d < 0
  · have hz : filF args n d = .mk 1 n [] := by rw [filF, if_pos h1]
    have hzo : filOk args n d = true := by rw [filOk, if_pos h1]
    rw [hz, hzo, Bool.and_true]
    have q1 : decide (n - d < 0) = true := decide_eq_true h1
    have H := hide h1
    clear h1 hz hzo
    go_enter Try.func109, Try.ntmps109
    go_wp2_with (go_at_call 110; refine (variable_any _ _).mono ?_; rintro e w1 ⟨rfl, hv1⟩; have hT : Blk w1 w.heap.size #[.int .i64 0, .int .i64 0, .slice none 0 0] := (Blk.new_ _ 29 _ rfl).keep hv1; obtain ⟨d0, d1, d2⟩ := hT.three; have e0 := hT.frozen 0; have e1 := hT.frozen 1; have e2 := hT.frozen 2; have hG1 := (hg.alloc (.cells #[.int .i64 0, .int .i64 0, .slice none 0 0] 29)).keep hv1; replace hv1 : w.grownBy w1 (some g) := only_below (only_alloc (World.grownBy.refl _ _) _) hv1)
    refine bodyPost_ret (v := .agg #[.int .i64 1, .int .i64 (n), .slice none 0 0]) (by simp [results, Try.results109, go_sem, d0, d1, d2]) rfl ⟨none, 0, rfl, by simp [Tm.ks], Fresh.nil, ?_, ?_⟩
    · exact ((hG1.far (by simp; omega) _).far (by simp; omega) _).far (by simp; omega) _
    · exact only_setCell (only_setCell (only_setCell hv1 (.inr (by simp)) _) (.inr (by simp)) _) (.inr (by simp)) _
  · have q1 : decide (n - d < 0) = false := decide_eq_false h1
    by_cases h2 : (args.length : Int) ≤ n - d
    · have hz : filF args n d = .mk 1 (n - args.length) [] := by rw [filF, if_neg h1, if_pos h2]
      have hzo : filOk args n d = true := by rw [filOk, if_neg h1, if_pos h2]
      rw [hz, hzo, Bool.and_true]
      have q2 : decide ((args.length : Int) ≤ n - d) = true := decide_eq_true h2
      have H := hide h1
      have H2 := hide h2
      clear h1 h2 hz hzo
      go_enter Try.func109, Try.ntmps109
      go_wp2_with (go_at_call 110; refine (variable_any _ _).mono ?_; rintro e w1 ⟨rfl, hv1⟩; have hT : Blk w1 w.heap.size #[.int .i64 0, .int .i64 0, .slice none 0 0] := (Blk.new_ _ 29 _ rfl).keep hv1; obtain ⟨d0, d1, d2⟩ := hT.three; have e0 := hT.frozen 0; have e1 := hT.frozen 1; have e2 := hT.frozen 2; have hG1 := (hg.alloc (.cells #[.int .i64 0, .int .i64 0, .slice none 0 0] 29)).keep hv1; replace hv1 : w.grownBy w1 (some g) := only_below (only_alloc (World.grownBy.refl _ _) _) hv1)
      refine bodyPost_ret (v := .agg #[.int .i64 1, .int .i64 (n - args.length), .slice none 0 0]) (by simp [results, Try.results109, go_sem, d0, d1, d2]) rfl ⟨none, 0, rfl, by simp [Tm.ks], Fresh.nil, ?_, ?_⟩
      · exact ((hG1.far (by simp; omega) _).far (by simp; omega) _).far (by simp; omega) _
      · exact only_setCell (only_setCell (only_setCell hv1 (.inr (by simp)) _) (.inr (by simp)) _) (.inr (by simp)) _
    · have q2 : decide ((args.length : Int) ≤ n - d) = false := decide_eq_false h2
      obtain ⟨j, hj⟩ : ∃ j : Nat, n - d = (j : Int) := ⟨(n - d).toNat, by omega⟩
      have hlt : j < args.length := by omega
      obtain ⟨b0, off, k', n', ks', A', c', rfl, hkj, hc1, hc2, hc3, hl', hr'⟩ := hRw.at_ hlt
      have hbl := World.block_lt_of_cell? _ _ hc1
      have hs1 := hsh _ (List.getElem_mem hlt)
      have hz1 := sizes_le (List.getElem_mem hlt)
      have hgd : args.getD (n - d).toNat default = .mk k' n' ks' := by rw [hj]; simp [List.getD, List.getElem?_eq_getElem hlt, hkj]
      rw [hkj] at hs1 hz1
      simp only [Tm.size] at hz1
      have hz : filF args n d = (shiftI d 0 (.mk k' n' ks')).getD (.mk 0 0 []) := by rw [filF, if_neg h1, if_neg h2, hgd]
      have hzo : filOk args n d = (shiftI d 0 (.mk k' n' ks')).isSome := by rw [filOk, if_neg h1, if_neg h2, hgd]
      rw [hz, hzo]
      rw [hj] at q1 q2
      have H := hide h1
      have H2 := hide h2
      have H3 := hide hkj
      have H4 := hide hs1
      have hrd := hr'.rd
      clear h1 h2 hz hzo hkj hs1 hgd
      cases hsi : shiftI d 0 (.mk k' n' ks') with
      | none =>
        rw [show (none : Option Tm).getD (.mk 0 0 []) = .mk 0 0 [] from rfl, show (none : Option Tm).isSome = false from rfl, Bool.and_false]
        cases b
        all_goals
          go_enter Try.func109, Try.ntmps109
          go_wp2_with (go_at_call 85; refine (shift_any k' n' ks' A' c' d 0 _ (by omega) (by omega) (by omega) H4.out (hrd.alloc _)).mono ?_; rw [hsi]; intro e w1 hp; obtain ⟨he, hb1⟩ := gotO_none hp; subst he; clear hp; have hT : Blk w1 w.heap.size #[.int .i64 0, .int .i64 0, .slice none 0 0] := (Blk.new_ _ 29 _ rfl).keep hb1; obtain ⟨d0, d1, d2⟩ := hT.three; have e0 := hT.frozen 0; have e1 := hT.frozen 1; have e2 := hT.frozen 2; have hG1 := (hg.alloc (.cells #[.int .i64 0, .int .i64 0, .slice none 0 0] 29)).keep hb1; have g1 := hG1.at_ (i := 0) rfl; have gz := hG1.frozen 0; have lT := hT.lt; have lG := hG1.lt; replace hb1 : w.grownBy w1 (some g) := only_below (only_alloc (World.grownBy.refl _ _) _) hb1)
          have y := fun (v : Value) (o : Obj) => ((((((hT.far (p := ⟨g, 0, none⟩) (by simp; omega) v).set_ 0 (.int .i64 0)).set_ 1 (.int .i64 0)).set_ 2 (.slice none 0 0)).alloc o : Blk _ _ #[.int .i64 0, .int .i64 0, .slice none 0 0])).three
          refine bodyPost_ret (v := .agg #[.int .i64 0, .int .i64 0, .slice none 0 0]) (by simp [results, Try.results109, go_sem, y]) rfl ⟨_, _, rfl, ?_, ?_, ?_, ?_⟩
          · simp [Tm.ks]
          · exact Fresh.nil
          · exact ((((hG1.set_ 0 (.bool false)).far (by simp; omega) _).far (by simp; omega) _).far (by simp; omega) _).alloc _
          · exact only_alloc (only_setCell (only_setCell (only_setCell (only_setCell hb1 (.inl rfl) _) (.inr (by simp)) _) (.inr (by simp)) _) (.inr (by simp)) _) _
      | some t =>
        obtain ⟨k2, n2, ks2⟩ := t
        rw [show (some (Tm.mk k2 n2 ks2)).getD (.mk 0 0 []) = .mk k2 n2 ks2 from rfl, show (some (Tm.mk k2 n2 ks2)).isSome = true from rfl, Bool.and_true]
        cases b
        · go_enter Try.func109, Try.ntmps109
          go_wp2_with (go_at_call 85; refine (shift_any k' n' ks' A' c' d 0 _ (by omega) (by omega) (by omega) H4.out (hrd.alloc _)).mono ?_; rw [hsi]; intro e w1 hp; obtain ⟨A1, c1, rfl, hl1, hf1, hb1⟩ := gotO_some hp; clear hp; have hT : Blk w1 w.heap.size #[.int .i64 0, .int .i64 0, .slice none 0 0] := (Blk.new_ _ 29 _ rfl).keep hb1; obtain ⟨d0, d1, d2⟩ := hT.three; have e0 := hT.frozen 0; have e1 := hT.frozen 1; have e2 := hT.frozen 2; have hG1 := (hg.alloc (.cells #[.int .i64 0, .int .i64 0, .slice none 0 0] 29)).keep hb1; have g1 := hG1.at_ (i := 0) rfl; have gz := hG1.frozen 0; have lT := hT.lt; have lG := hG1.lt; replace hf1 : Fresh (w.heap.size + 1) w1 A1 ks2 := hf1.mono (by simp); replace hb1 : w.grownBy w1 (some g) := only_below (only_alloc (World.grownBy.refl _ _) _) hb1)
          have y := fun (v : Value) (o : Obj) => ((((((hT.far (p := ⟨g, 0, none⟩) (by simp; omega) v).set_ 0 (.int .i64 k2)).set_ 1 (.int .i64 n2)).set_ 2 (.slice A1 ks2.length c1)).alloc o : Blk _ _ #[.int .i64 k2, .int .i64 n2, .slice A1 ks2.length c1])).three
          refine bodyPost_ret (v := .agg #[.int .i64 k2, .int .i64 n2, .slice A1 ks2.length c1]) (by simp [results, Try.results109, go_sem, y]) rfl ⟨_, _, rfl, ?_, ?_, ?_, ?_⟩
          · exact hl1
          · exact (((((hf1.setCell (by simp; omega) _).setCell (by simp) _).setCell (by simp) _).setCell (by simp) _).alloc _).mono (by simp)
          · exact ((((hG1.set_ 0 (.bool false)).far (by simp; omega) _).far (by simp; omega) _).far (by simp; omega) _).alloc _
          · exact only_alloc (only_setCell (only_setCell (only_setCell (only_setCell hb1 (.inl rfl) _) (.inr (by simp)) _) (.inr (by simp)) _) (.inr (by simp)) _) _
        · go_enter Try.func109, Try.ntmps109
          go_wp2_with (go_at_call 85; refine (shift_any k' n' ks' A' c' d 0 _ (by omega) (by omega) (by omega) H4.out (hrd.alloc _)).mono ?_; rw [hsi]; intro e w1 hp; obtain ⟨A1, c1, rfl, hl1, hf1, hb1⟩ := gotO_some hp; clear hp; have hT : Blk w1 w.heap.size #[.int .i64 0, .int .i64 0, .slice none 0 0] := (Blk.new_ _ 29 _ rfl).keep hb1; obtain ⟨d0, d1, d2⟩ := hT.three; have e0 := hT.frozen 0; have e1 := hT.frozen 1; have e2 := hT.frozen 2; have hG1 := (hg.alloc (.cells #[.int .i64 0, .int .i64 0, .slice none 0 0] 29)).keep hb1; have g1 := hG1.at_ (i := 0) rfl; have gz := hG1.frozen 0; have lT := hT.lt; have lG := hG1.lt; replace hf1 : Fresh (w.heap.size + 1) w1 A1 ks2 := hf1.mono (by simp); replace hb1 : w.grownBy w1 (some g) := only_below (only_alloc (World.grownBy.refl _ _) _) hb1)
          have y := fun (v : Value) (o : Obj) => ((((((hT.far (p := ⟨g, 0, none⟩) (by simp; omega) v).set_ 0 (.int .i64 k2)).set_ 1 (.int .i64 n2)).set_ 2 (.slice A1 ks2.length c1)).alloc o : Blk _ _ #[.int .i64 k2, .int .i64 n2, .slice A1 ks2.length c1])).three
          refine bodyPost_ret (v := .agg #[.int .i64 k2, .int .i64 n2, .slice A1 ks2.length c1]) (by simp [results, Try.results109, go_sem, y]) rfl ⟨_, _, rfl, ?_, ?_, ?_, ?_⟩
          · exact hl1
          · exact (((((hf1.setCell (by simp; omega) _).setCell (by simp) _).setCell (by simp) _).setCell (by simp) _).alloc _).mono (by simp)
          · exact ((((hG1.set_ 0 (.bool true)).far (by simp; omega) _).far (by simp; omega) _).far (by simp; omega) _).alloc _
          · exact only_alloc (only_setCell (only_setCell (only_setCell (only_setCell hb1 (.inl rfl) _) (.inr (by simp)) _) (.inr (by simp)) _) (.inr (by simp)) _) _
end Go.Proofs.Ytefifcmieicnlaa
