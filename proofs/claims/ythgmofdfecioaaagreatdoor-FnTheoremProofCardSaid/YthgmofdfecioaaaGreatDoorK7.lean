/-
  Contracts of the functions that the law reaches, and plain lemmas. No condition.
-/
import Derived.Test.YthgmofdfecioaaaGreatDoorK3
import Derived.Test.YthgmofdfecioaaaGreatDoorK4
import Derived.Test.YthgmofdfecioaaaGreatDoorK6
namespace Go.Proofs.YthgmofdfecioaaaGreatDoor
set_option linter.unusedSimpArgs false
set_option linter.unusedVariables false
open Go.RowKit
/-- what subst puts in a variable's place -/
def sbF (x : Int) (u : Tm) (n d : Int) : Tm := if n - d = x then (shiftI d 0 u).getD (.mk 0 0 []) else if x < n - d then .mk 1 (n - 1) [] else .mk 1 n []
def sbOk (x : Int) (u : Tm) (n d : Int) : Bool := if n - d = x then (shiftI d 0 u).isSome else true
set_option maxHeartbeats 4000000 in
set_option maxRecDepth 100000 in
theorem subst1_ok {x k' n' : Int} {ks' : List Tm} {A' : Option Addr} {c' bi ba g : Nat} {W0 : World} (hx : 0 ≤ x ∧ x ≤ 20) (hsh : shape 30 (.mk k' n' ks') = true) (hsz : sizes ks' ≤ 1000000000) (hI : Blk W0 bi #[.int .i64 x]) (hA : Blk W0 ba #[.int .i64 k', .int .i64 n', .slice A' ks'.length c']) (hR : RdP (· ≠ g) W0 A' 0 ks') (hig : bi ≠ g) (hag : ba ≠ g) :
    FunOk 51 [.pointer (some ⟨bi, 0, none⟩), .pointer (some ⟨ba, 0, none⟩), .pointer (some ⟨g, 0, none⟩)] W0 g (sbF x (.mk k' n' ks')) (sbOk x (.mk k' n' ks')) := by
  intro n d w b hn0 hn1 hd0 hd1 hW hg
  have hIw := hI.grown hW (by simpa using hig)
  have hAw := hA.grown hW (by simpa using hag)
  have hRw := hR.grown hW (fun b hb e => hb (by injection e))
  have i0 := hIw.at_ (i := 0) rfl
  have x0 := hAw.at_ (i := 0) rfl
  have x1 := hAw.at_ (i := 1) rfl
  have x3 := hAw.at_ (i := 2) rfl
  have x2 := hg.at_ (i := 0) rfl
  have z2 := hg.frozen 0
  have li := hIw.lt
  have l0 := hAw.lt
  have l2 := hg.lt
  have hrd := hRw.rd
  have H4 := hide hsh
  clear hsh
  by_cases h1 : n - d = x
  · have hz : sbF x (.mk k' n' ks') n d = (shiftI d 0 (.mk k' n' ks')).getD (.mk 0 0 []) := by rw [sbF, if_pos h1]
    have hzo : sbOk x (.mk k' n' ks') n d = (shiftI d 0 (.mk k' n' ks')).isSome := by rw [sbOk, if_pos h1]
    rw [hz, hzo]
    have q1 : ((n - d) == x) = true := by simpa using h1
    have H := hide h1
    clear h1 hz hzo
    cases hsi : shiftI d 0 (.mk k' n' ks') with
    | none =>
      rw [show (none : Option Tm).getD (.mk 0 0 []) = .mk 0 0 [] from rfl, show (none : Option Tm).isSome = false from rfl, Bool.and_false]
      cases b
      all_goals
        go_enter Tryz.func51, Tryz.ntmps51
        go_wp2_with (go_at_call 52; refine (shift_any k' n' ks' A' c' d 0 _ (by omega) (by omega) (by omega) H4.out (hrd.alloc _)).mono ?_; rw [hsi]; intro e w1 hp; obtain ⟨he, hb1⟩ := gotO_none hp; subst he; clear hp; have hT : Blk w1 w.heap.size #[.int .i64 0, .int .i64 0, .slice none 0 0] := (Blk.new_ _ 27 _ rfl).keep hb1; obtain ⟨d0, d1, d2⟩ := hT.three; have e0 := hT.frozen 0; have e1 := hT.frozen 1; have e2 := hT.frozen 2; have hG1 := (hg.alloc (.cells #[.int .i64 0, .int .i64 0, .slice none 0 0] 27)).keep hb1; have g1 := hG1.at_ (i := 0) rfl; have gz := hG1.frozen 0; have lT := hT.lt; have lG := hG1.lt; replace hb1 : w.grownBy w1 (some g) := only_below (only_alloc (World.grownBy.refl _ _) _) hb1)
        have y := fun (v : Value) (o : Obj) => ((((((hT.far (p := ⟨g, 0, none⟩) (by simp; omega) v).set_ 0 (.int .i64 0)).set_ 1 (.int .i64 0)).set_ 2 (.slice none 0 0)).alloc o : Blk _ _ #[.int .i64 0, .int .i64 0, .slice none 0 0])).three
        refine bodyPost_ret (v := .agg #[.int .i64 0, .int .i64 0, .slice none 0 0]) (by simp [results, Tryz.results51, go_sem, y]) rfl ⟨_, _, rfl, ?_, ?_, ?_, ?_⟩
        · simp [Tm.ks]
        · exact Fresh.nil
        · exact ((((hG1.set_ 0 (.bool false)).far (by simp; omega) _).far (by simp; omega) _).far (by simp; omega) _).alloc _
        · exact only_alloc (only_setCell (only_setCell (only_setCell (only_setCell hb1 (.inl rfl) _) (.inr (by simp)) _) (.inr (by simp)) _) (.inr (by simp)) _) _
    | some t =>
      obtain ⟨k2, n2, ks2⟩ := t
      rw [show (some (Tm.mk k2 n2 ks2)).getD (.mk 0 0 []) = .mk k2 n2 ks2 from rfl, show (some (Tm.mk k2 n2 ks2)).isSome = true from rfl, Bool.and_true]
      cases b
      · go_enter Tryz.func51, Tryz.ntmps51
        go_wp2_with (go_at_call 52; refine (shift_any k' n' ks' A' c' d 0 _ (by omega) (by omega) (by omega) H4.out (hrd.alloc _)).mono ?_; rw [hsi]; intro e w1 hp; obtain ⟨A1, c1, rfl, hl1, hf1, hb1⟩ := gotO_some hp; clear hp; have hT : Blk w1 w.heap.size #[.int .i64 0, .int .i64 0, .slice none 0 0] := (Blk.new_ _ 27 _ rfl).keep hb1; obtain ⟨d0, d1, d2⟩ := hT.three; have e0 := hT.frozen 0; have e1 := hT.frozen 1; have e2 := hT.frozen 2; have hG1 := (hg.alloc (.cells #[.int .i64 0, .int .i64 0, .slice none 0 0] 27)).keep hb1; have g1 := hG1.at_ (i := 0) rfl; have gz := hG1.frozen 0; have lT := hT.lt; have lG := hG1.lt; replace hf1 : Fresh (w.heap.size + 1) w1 A1 ks2 := hf1.mono (by simp); replace hb1 : w.grownBy w1 (some g) := only_below (only_alloc (World.grownBy.refl _ _) _) hb1)
        have y := fun (v : Value) (o : Obj) => ((((((hT.far (p := ⟨g, 0, none⟩) (by simp; omega) v).set_ 0 (.int .i64 k2)).set_ 1 (.int .i64 n2)).set_ 2 (.slice A1 ks2.length c1)).alloc o : Blk _ _ #[.int .i64 k2, .int .i64 n2, .slice A1 ks2.length c1])).three
        refine bodyPost_ret (v := .agg #[.int .i64 k2, .int .i64 n2, .slice A1 ks2.length c1]) (by simp [results, Tryz.results51, go_sem, y]) rfl ⟨_, _, rfl, ?_, ?_, ?_, ?_⟩
        · exact hl1
        · exact (((((hf1.setCell (by simp; omega) _).setCell (by simp) _).setCell (by simp) _).setCell (by simp) _).alloc _).mono (by simp)
        · exact ((((hG1.set_ 0 (.bool false)).far (by simp; omega) _).far (by simp; omega) _).far (by simp; omega) _).alloc _
        · exact only_alloc (only_setCell (only_setCell (only_setCell (only_setCell hb1 (.inl rfl) _) (.inr (by simp)) _) (.inr (by simp)) _) (.inr (by simp)) _) _
      · go_enter Tryz.func51, Tryz.ntmps51
        go_wp2_with (go_at_call 52; refine (shift_any k' n' ks' A' c' d 0 _ (by omega) (by omega) (by omega) H4.out (hrd.alloc _)).mono ?_; rw [hsi]; intro e w1 hp; obtain ⟨A1, c1, rfl, hl1, hf1, hb1⟩ := gotO_some hp; clear hp; have hT : Blk w1 w.heap.size #[.int .i64 0, .int .i64 0, .slice none 0 0] := (Blk.new_ _ 27 _ rfl).keep hb1; obtain ⟨d0, d1, d2⟩ := hT.three; have e0 := hT.frozen 0; have e1 := hT.frozen 1; have e2 := hT.frozen 2; have hG1 := (hg.alloc (.cells #[.int .i64 0, .int .i64 0, .slice none 0 0] 27)).keep hb1; have g1 := hG1.at_ (i := 0) rfl; have gz := hG1.frozen 0; have lT := hT.lt; have lG := hG1.lt; replace hf1 : Fresh (w.heap.size + 1) w1 A1 ks2 := hf1.mono (by simp); replace hb1 : w.grownBy w1 (some g) := only_below (only_alloc (World.grownBy.refl _ _) _) hb1)
        have y := fun (v : Value) (o : Obj) => ((((((hT.far (p := ⟨g, 0, none⟩) (by simp; omega) v).set_ 0 (.int .i64 k2)).set_ 1 (.int .i64 n2)).set_ 2 (.slice A1 ks2.length c1)).alloc o : Blk _ _ #[.int .i64 k2, .int .i64 n2, .slice A1 ks2.length c1])).three
        refine bodyPost_ret (v := .agg #[.int .i64 k2, .int .i64 n2, .slice A1 ks2.length c1]) (by simp [results, Tryz.results51, go_sem, y]) rfl ⟨_, _, rfl, ?_, ?_, ?_, ?_⟩
        · exact hl1
        · exact (((((hf1.setCell (by simp; omega) _).setCell (by simp) _).setCell (by simp) _).setCell (by simp) _).alloc _).mono (by simp)
        · exact ((((hG1.set_ 0 (.bool true)).far (by simp; omega) _).far (by simp; omega) _).far (by simp; omega) _).alloc _
        · exact only_alloc (only_setCell (only_setCell (only_setCell (only_setCell hb1 (.inl rfl) _) (.inr (by simp)) _) (.inr (by simp)) _) (.inr (by simp)) _) _
  · have q1 : ((n - d) == x) = false := by simpa using h1
    have hzo : sbOk x (.mk k' n' ks') n d = true := by rw [sbOk, if_neg h1]
    by_cases h2 : x < n - d
    · have hz : sbF x (.mk k' n' ks') n d = .mk 1 (n - 1) [] := by rw [sbF, if_neg h1, if_pos h2]
      rw [hz, hzo, Bool.and_true]
      have q2 : decide (x < n - d) = true := decide_eq_true h2
      have H := hide h1
      clear h1 h2 hz hzo
      go_enter Tryz.func51, Tryz.ntmps51
      go_wp2_with (go_at_call 53; refine (variable_any _ _).mono ?_; rintro e w1 ⟨rfl, hv1⟩; have hT : Blk w1 w.heap.size #[.int .i64 0, .int .i64 0, .slice none 0 0] := (Blk.new_ _ 27 _ rfl).keep hv1; obtain ⟨d0, d1, d2⟩ := hT.three; have e0 := hT.frozen 0; have e1 := hT.frozen 1; have e2 := hT.frozen 2; have hG1 := (hg.alloc (.cells #[.int .i64 0, .int .i64 0, .slice none 0 0] 27)).keep hv1; replace hv1 : w.grownBy w1 (some g) := only_below (only_alloc (World.grownBy.refl _ _) _) hv1)
      refine bodyPost_ret (v := .agg #[.int .i64 1, .int .i64 (n - 1), .slice none 0 0]) (by simp [results, Tryz.results51, go_sem, d0, d1, d2]) rfl ⟨none, 0, rfl, by simp [Tm.ks], Fresh.nil, ?_, ?_⟩
      · exact ((hG1.far (by simp; omega) _).far (by simp; omega) _).far (by simp; omega) _
      · exact only_setCell (only_setCell (only_setCell hv1 (.inr (by simp)) _) (.inr (by simp)) _) (.inr (by simp)) _
    · have hz : sbF x (.mk k' n' ks') n d = .mk 1 n [] := by rw [sbF, if_neg h1, if_neg h2]
      rw [hz, hzo, Bool.and_true]
      have q2 : decide (x < n - d) = false := decide_eq_false h2
      have H := hide h1
      clear h1 h2 hz hzo
      go_enter Tryz.func51, Tryz.ntmps51
      go_wp2_with (go_at_call 53; refine (variable_any _ _).mono ?_; rintro e w1 ⟨rfl, hv1⟩; have hT : Blk w1 w.heap.size #[.int .i64 0, .int .i64 0, .slice none 0 0] := (Blk.new_ _ 27 _ rfl).keep hv1; obtain ⟨d0, d1, d2⟩ := hT.three; have e0 := hT.frozen 0; have e1 := hT.frozen 1; have e2 := hT.frozen 2; have hG1 := (hg.alloc (.cells #[.int .i64 0, .int .i64 0, .slice none 0 0] 27)).keep hv1; replace hv1 : w.grownBy w1 (some g) := only_below (only_alloc (World.grownBy.refl _ _) _) hv1)
      refine bodyPost_ret (v := .agg #[.int .i64 1, .int .i64 (n), .slice none 0 0]) (by simp [results, Tryz.results51, go_sem, d0, d1, d2]) rfl ⟨none, 0, rfl, by simp [Tm.ks], Fresh.nil, ?_, ?_⟩
      · exact ((hG1.far (by simp; omega) _).far (by simp; omega) _).far (by simp; omega) _
      · exact only_setCell (only_setCell (only_setCell hv1 (.inr (by simp)) _) (.inr (by simp)) _) (.inr (by simp)) _
/-- what subst answers -/
def substI (x : Int) (u : Tm) (t : Tm) : Option Tm := if chgOk (sbOk x u) 0 t = true then (if validT (chg (sbF x u) 0 t) = true then some (chg (sbF x u) 0 t) else none) else none
theorem sbF_size (x : Int) (u : Tm) (n d : Int) : (sbF x u n d).size ≤ 400 := by
  unfold sbF
  split
  · unfold shiftI
    split
    · split
      · rename_i h; exact validT_size h
      · simp [Tm.size, sizes]
    · simp [Tm.size, sizes]
  · split <;> simp [Tm.size, sizes]
set_option maxHeartbeats 4000000 in
set_option maxRecDepth 100000 in
theorem subst_any (k n : Int) (ks : List Tm) (A : Option Addr) (c : Nat) (x ku nu : Int) (us : List Tm) (B : Option Addr) (cb : Nat) (w : World) (hx : 0 ≤ x ∧ x ≤ 20) (hsa : shape 30 (.mk ku nu us) = true) (hza : sizes us ≤ 1000000000) (hRa : Rd w B 0 us) (hM : sizes ks ≤ 1000) (hs : shape 30 (.mk k n ks) = true) (hr : Rd w A 0 ks) :
    Calls Tryz.prog 28 #[(.agg #[.int .i64 k, .int .i64 n, .slice A ks.length c]), .int .i64 x, .agg #[.int .i64 ku, .int .i64 nu, .slice B us.length cb]] w (GotO w (substI x (.mk ku nu us) (.mk k n ks))) := by
  have hrp : RdP (· ≠ w.heap.size + 4) w A 0 ks := hr.rdp.mono (fun b hb => by have hb : b < w.heap.size := hb; show b ≠ _; omega)
  have hRp : RdP (· ≠ w.heap.size + 4) w B 0 us := hRa.rdp.mono (fun b hb => by have hb : b < w.heap.size := hb; show b ≠ _; omega)
  obtain ⟨k2, n2, ks2, hct⟩ := tm_eta (chg (sbF x (.mk ku nu us)) 0 (.mk k n ks))
  have hsz2 : sizes ks2 ≤ 1000000001 := by
    have := (chg_size (by omega) (sbF_size x (.mk ku nu us))).1 (.mk k n ks) 0
    rw [hct, Tm.size, Tm.size] at this
    omega
  cases hok : chgOk (sbOk x (.mk ku nu us)) 0 (.mk k n ks) with
  | false =>
    have hz : substI x (.mk ku nu us) (.mk k n ks) = none := by rw [substI, hok]; rfl
    rw [hz]
    clear hz
    go_enter Tryz.func28, Tryz.ntmps28
    go_wp2_with (go_at_call 50; refine (changed_any (subst1_ok (x := x) (k' := ku) (n' := nu) (ks' := us) (A' := B) (c' := cb) (bi := w.heap.size + 1) (ba := w.heap.size + 2) (g := w.heap.size + 4) hx hsa hza ((((Blk.new_ _ 3 _ (by simp)).alloc _).alloc _).alloc _) (((Blk.new_ _ 27 _ (by simp)).alloc _).alloc _) (((((hRp.alloc _).alloc _).alloc _).alloc _).alloc _) (by omega) (by omega)) (run_enter Tryz.func51 (by kernel_rfl) (by kernel_rfl)) (sizes ks + 1) k n ks A c 0 30 _ true (by omega) hs (by omega) (by omega) (by omega) (World.grownBy.refl _ _) (Blk.new_ _ 4 _ (by simp)) (((((hrp.alloc _).alloc _).alloc _).alloc _).alloc _)).mono ?_; rw [hct, hok]; intro e w6 hpost; obtain ⟨A6, c6, rfl, hl6, hf6, hG6, hg6⟩ := gotG_mk hpost; clear hpost; have hT6 : Blk w6 (w.heap.size + 1 + 1 + 1) #[.int .i64 0, .int .i64 0, .slice none 0 0] := ((Blk.new_ _ 27 _ (by simp)).alloc _).grown hg6 (by simp); have f0 := hG6.at_ (i := 0) rfl; obtain ⟨d0, d1, d2⟩ := hT6.three; have e0 := hT6.frozen 0; have e1 := hT6.frozen 1; have e2 := hT6.frozen 2; have lT := hT6.lt; have lG := hG6.lt; have hb6 : Below w.heap.size w w6 := ((((((Below.refl _ _).alloc (Nat.le_refl _) _).alloc (by simp) _).alloc (by simp; omega) _).alloc (by simp; omega) _).alloc (by simp; omega) _).grown hg6 (by simp; omega) (fun k e => by cases e; omega); replace hf6 := hf6.mono (B' := w.heap.size + 5) (by simp))
    have y := fun o => (((((hT6.set_ 0 (.int .i64 0)).set_ 1 (.int .i64 0)).set_ 2 (.slice none 0 0)).alloc o : Blk _ _ #[.int .i64 0, .int .i64 0, .slice none 0 0])).three
    refine bodyPost_ret (v := .tuple #[zeroV, .bool false]) (by simp [results, Tryz.results28, go_sem, y, zeroV]) rfl ⟨rfl, ?_⟩
    exact (((hb6.setCell (by simp; omega) _).setCell (by simp; omega) _).setCell (by simp; omega) _).alloc (by simp [World.setCell]; omega) _
  | true =>
    cases hv : validT (.mk k2 n2 ks2) with
    | false =>
      have hz : substI x (.mk ku nu us) (.mk k n ks) = none := by rw [substI, hok, if_pos rfl, hct, hv]; rfl
      rw [hz]
      clear hz
      go_enter Tryz.func28, Tryz.ntmps28
      go_wp2_with (first | (go_at_call 50; refine (changed_any (subst1_ok (x := x) (k' := ku) (n' := nu) (ks' := us) (A' := B) (c' := cb) (bi := w.heap.size + 1) (ba := w.heap.size + 2) (g := w.heap.size + 4) hx hsa hza ((((Blk.new_ _ 3 _ (by simp)).alloc _).alloc _).alloc _) (((Blk.new_ _ 27 _ (by simp)).alloc _).alloc _) (((((hRp.alloc _).alloc _).alloc _).alloc _).alloc _) (by omega) (by omega)) (run_enter Tryz.func51 (by kernel_rfl) (by kernel_rfl)) (sizes ks + 1) k n ks A c 0 30 _ true (by omega) hs (by omega) (by omega) (by omega) (World.grownBy.refl _ _) (Blk.new_ _ 4 _ (by simp)) (((((hrp.alloc _).alloc _).alloc _).alloc _).alloc _)).mono ?_; rw [hct, hok]; intro e w6 hpost; obtain ⟨A6, c6, rfl, hl6, hf6, hG6, hg6⟩ := gotG_mk hpost; clear hpost; have hT6 : Blk w6 (w.heap.size + 1 + 1 + 1) #[.int .i64 0, .int .i64 0, .slice none 0 0] := ((Blk.new_ _ 27 _ (by simp)).alloc _).grown hg6 (by simp); have f0 := hG6.at_ (i := 0) rfl; obtain ⟨d0, d1, d2⟩ := hT6.three; have e0 := hT6.frozen 0; have e1 := hT6.frozen 1; have e2 := hT6.frozen 2; have lT := hT6.lt; have lG := hG6.lt; have hb6 : Below w.heap.size w w6 := ((((((Below.refl _ _).alloc (Nat.le_refl _) _).alloc (by simp) _).alloc (by simp; omega) _).alloc (by simp; omega) _).alloc (by simp; omega) _).grown hg6 (by simp; omega) (fun k e => by cases e; omega); replace hf6 := hf6.mono (B' := w.heap.size + 5) (by simp)) | (go_at_call 25; refine (valid_no k2 n2 ks2 A6 c6 _ (by omega) (hf6.rd.alloc _) hv).mono ?_; rintro e w8 ⟨rfl, hb8⟩; have hT8 : Blk w8 (w.heap.size + 1 + 1 + 1) #[.int .i64 0, .int .i64 0, .slice none 0 0] := (hT6.alloc _).keep hb8; obtain ⟨x0, x1, x2⟩ := hT8.three; have e80 := hT8.frozen 0; have e81 := hT8.frozen 1; have e82 := hT8.frozen 2; replace hb8 : Below w.heap.size w w8 := (hb6.alloc hb6.size _).trans (hb8.mono (by have := hb6.size; simp; omega)); have hzz : zeroV = .agg #[.int .i64 0, .int .i64 0, .slice none 0 0] := rfl))
      refine bodyPost_ret (v := .tuple #[zeroV, .bool false]) (by simp [results, Tryz.results28, go_sem, x0, x1, x2, zeroV]) rfl ⟨rfl, ?_⟩
      exact ((hb8.setCell (by simp; omega) _).setCell (by simp; omega) _).setCell (by simp; omega) _
    | true =>
      have hz : substI x (.mk ku nu us) (.mk k n ks) = some (.mk k2 n2 ks2) := by rw [substI, hok, if_pos rfl, hct, hv]; rfl
      rw [hz]
      clear hz
      go_enter Tryz.func28, Tryz.ntmps28
      go_wp2_with (first | (go_at_call 50; refine (changed_any (subst1_ok (x := x) (k' := ku) (n' := nu) (ks' := us) (A' := B) (c' := cb) (bi := w.heap.size + 1) (ba := w.heap.size + 2) (g := w.heap.size + 4) hx hsa hza ((((Blk.new_ _ 3 _ (by simp)).alloc _).alloc _).alloc _) (((Blk.new_ _ 27 _ (by simp)).alloc _).alloc _) (((((hRp.alloc _).alloc _).alloc _).alloc _).alloc _) (by omega) (by omega)) (run_enter Tryz.func51 (by kernel_rfl) (by kernel_rfl)) (sizes ks + 1) k n ks A c 0 30 _ true (by omega) hs (by omega) (by omega) (by omega) (World.grownBy.refl _ _) (Blk.new_ _ 4 _ (by simp)) (((((hrp.alloc _).alloc _).alloc _).alloc _).alloc _)).mono ?_; rw [hct, hok]; intro e w6 hpost; obtain ⟨A6, c6, rfl, hl6, hf6, hG6, hg6⟩ := gotG_mk hpost; clear hpost; have hT6 : Blk w6 (w.heap.size + 1 + 1 + 1) #[.int .i64 0, .int .i64 0, .slice none 0 0] := ((Blk.new_ _ 27 _ (by simp)).alloc _).grown hg6 (by simp); have f0 := hG6.at_ (i := 0) rfl; obtain ⟨d0, d1, d2⟩ := hT6.three; have e0 := hT6.frozen 0; have e1 := hT6.frozen 1; have e2 := hT6.frozen 2; have lT := hT6.lt; have lG := hG6.lt; have hb6 : Below w.heap.size w w6 := ((((((Below.refl _ _).alloc (Nat.le_refl _) _).alloc (by simp) _).alloc (by simp; omega) _).alloc (by simp; omega) _).alloc (by simp; omega) _).grown hg6 (by simp; omega) (fun k e => by cases e; omega); replace hf6 := hf6.mono (B' := w.heap.size + 5) (by simp)) | (go_at_call 25; refine (valid_yes k2 n2 ks2 A6 c6 _ (by omega) (hf6.rd.alloc _) hv).mono ?_; rintro e w8 ⟨rfl, hb8⟩; have hf8 := (hf6.alloc (.cells #[.int .i64 k2, .int .i64 n2, .slice A6 ks2.length c6] 27)).below hb8; have hT8 : Blk w8 (w.heap.size + 1 + 1 + 1) #[.int .i64 0, .int .i64 0, .slice none 0 0] := (hT6.alloc _).keep hb8; obtain ⟨x0, x1, x2⟩ := hT8.three; have e80 := hT8.frozen 0; have e81 := hT8.frozen 1; have e82 := hT8.frozen 2; replace hb8 : Below w.heap.size w w8 := (hb6.alloc hb6.size _).trans (hb8.mono (by have := hb6.size; simp; omega))))
      refine bodyPost_ret (v := .tuple #[.agg #[.int .i64 k2, .int .i64 n2, .slice A6 ks2.length c6], .bool true]) (by simp [results, Tryz.results28, go_sem, x0, x1, x2]) rfl ⟨A6, c6, rfl, hl6, ?_, ?_⟩
      · exact (((hf8.setCell (by simp) _).setCell (by simp) _).setCell (by simp) _).mono (by omega)
      · exact ((hb8.setCell (by simp; omega) _).setCell (by simp; omega) _).setCell (by simp; omega) _
open Go.RowKit
mutual
/-- the way to the first redex from outside -/
def outP : Tm → Option (List Int)
  | .mk k n ks => if rdx k ks = 0 then outPs 0 ks else some []
def outPs : Int → List Tm → Option (List Int)
  | _, [] => none
  | i, t :: ts => match outP t with | some p => some (i :: p) | none => outPs (i + 1) ts
end
/-- the operand that the root needs -/
def mainO (k : Int) : Int := if k = 5 ∨ k = 15 ∨ k = 16 then 0 else if k = 9 then 3 else if k = 12 then 1 else -1
mutual
/-- the way to the redex that the root needs -/
def headP : Tm → Option (List Int)
  | .mk k n ks => if rdx k ks = 0 then (if mainO k < 0 then none else (headN (mainO k).toNat ks).map (mainO k :: ·)) else some []
def headN : Nat → List Tm → Option (List Int)
  | _, [] => none
  | 0, t :: _ => headP t
  | i + 1, _ :: ts => headN i ts
end
/-- a term with another part at the end of a way -/
def putN : Tm → List Int → Tm → Tm
  | _, [], u => u
  | .mk k n ks, i :: is, u => .mk k n (ks.set i.toNat (putN (ks.getD i.toNat default) is u))
def vO (t : Tm) : Option Tm := if validT t = true then some t else none
def kidT (ks : List Tm) (i : Nat) : Tm := ks.getD i default
/-- the contractum, if it is valid -/
def ctrI : Tm → Option Tm
  | .mk k n ks =>
    if rdx k ks = 1 then substI 0 (kidT ks 1) (kidT (kidT ks 0).ks 1)
    else if rdx k ks = 2 then vO (kidT ks 1)
    else if rdx k ks = 3 then vO (.mk 5 0 [.mk 5 0 [kidT ks 2, kidT (kidT ks 3).ks 0], .mk 9 0 [kidT ks 0, kidT ks 1, kidT ks 2, kidT (kidT ks 3).ks 0]])
    else if rdx k ks = 4 then vO (kidT ks 2)
    else if rdx k ks = 5 then vO (kidT (kidT ks 0).ks 1)
    else if rdx k ks = 6 then vO (kidT (kidT ks 0).ks 2)
    else none
/-- a term whose part at a way is contracted, if it is valid -/
def ctdI (t : Tm) (p : List Int) : Option Tm :=
  match atT t p with
  | none => none
  | some u => match ctrI u with | none => none | some v => vO (putN t p v)
/-- steps at the places that are found, and the code -/
def redI (find : Tm → Option (List Int)) : Nat → Tm → Option Tm × Int
  | fuel, t => match find t with
    | none => (some t, 0)
    | some p => match fuel with
      | 0 => (none, 1)
      | fuel + 1 => match ctdI t p with
        | none => (none, 2)
        | some t' => redI find fuel t'
def convI (fuel : Nat) (a b : Tm) : Int :=
  if tmEq a b = true then 1 else
    if (redI outP fuel a).2 ≠ 0 ∨ (redI outP fuel b).2 ≠ 0 then 3 else
      if tmEq ((redI outP fuel a).1.getD (.mk 0 0 [])) ((redI outP fuel b).1.getD (.mk 0 0 [])) = true then 1 else 2
/-- a way to a redex -/
def Way (find : Tm → Option (List Int)) : Prop := ∀ t p, find t = some p → ∃ k n ks, atT t p = some (.mk k n ks) ∧ rdx k ks ≠ 0
theorem atT_cons {k n : Int} {ks : List Tm} {j : Nat} {p : List Int} (hj : j < ks.length) : atT (.mk k n ks) ((j : Int) :: p) = atT ks[j] p := by
  rw [atT, if_pos ⟨by omega, by simpa [Tm.kids] using hj⟩]
  simp [Tm.kids, List.getD, List.getElem?_eq_getElem hj]
theorem outP_way : Way outP := by
  have h : (∀ t p, outP t = some p → ∃ k n ks, atT t p = some (.mk k n ks) ∧ rdx k ks ≠ 0) ∧
      (∀ (ts : List Tm) (i : Nat) p, outPs i ts = some p → ∃ (j : Nat) (q : List Int) (h : j < ts.length), p = ((i + j : Nat) : Int) :: q ∧ ∃ k n ks, atT ts[j] q = some (.mk k n ks) ∧ rdx k ks ≠ 0) := by
    refine Tm.ind2 (fun k n ks ih p hp => ?_) (fun i p hp => ?_) (fun t ts h1 h2 i p hp => ?_)
    · rw [outP] at hp
      split at hp
      · obtain ⟨j, q, hj, rfl, h⟩ := ih 0 p hp
        rw [Nat.zero_add, atT_cons hj]
        exact h
      · rename_i hr
        injection hp with hp
        subst hp
        exact ⟨k, n, ks, rfl, hr⟩
    · rw [outPs] at hp; cases hp
    · rw [outPs] at hp
      cases h : outP t with
      | some q =>
        rw [h] at hp
        injection hp with hp
        subst hp
        exact ⟨0, q, by simp, by simp, h1 q h⟩
      | none =>
        rw [h] at hp
        obtain ⟨j, q, hj, rfl, h3⟩ := h2 (i + 1) p (by simpa using hp)
        refine ⟨j + 1, q, by simp; omega, by congr 1; omega, ?_⟩
        simpa using h3
  exact h.1
theorem headP_way : Way headP := by
  have h : (∀ t p, headP t = some p → ∃ k n ks, atT t p = some (.mk k n ks) ∧ rdx k ks ≠ 0) ∧
      (∀ (ts : List Tm) (i : Nat) p, headN i ts = some p → ∃ h : i < ts.length, ∃ k n ks, atT ts[i] p = some (.mk k n ks) ∧ rdx k ks ≠ 0) := by
    refine Tm.ind2 (fun k n ks ih p hp => ?_) (fun i p hp => ?_) (fun t ts h1 h2 i p hp => ?_)
    · rw [headP] at hp
      split at hp
      · split at hp
        · cases hp
        · rename_i hm
          cases h : headN (mainO k).toNat ks with
          | none => rw [h] at hp; cases hp
          | some q =>
            rw [h] at hp
            injection hp with hp
            subst hp
            obtain ⟨hj, h3⟩ := ih _ _ h
            rw [show mainO k = ((mainO k).toNat : Int) from by omega, atT_cons (by simpa using hj)]
            simpa using h3
      · rename_i hr
        injection hp with hp
        subst hp
        exact ⟨k, n, ks, rfl, hr⟩
    · rw [headN] at hp; cases hp
    · cases i with
      | zero => rw [headN] at hp; exact ⟨by simp, by simpa using h1 p hp⟩
      | succ i =>
        rw [headN] at hp
        obtain ⟨hj, h3⟩ := h2 i p hp
        exact ⟨by simp; omega, by simpa using h3⟩
  exact h.1
theorem vO_valid {t u : Tm} (h : vO t = some u) : validT u = true := by
  unfold vO at h
  split at h
  · injection h with h; subst h; assumption
  · cases h
theorem substI_valid {x : Int} {u t v : Tm} (h : substI x u t = some v) : validT v = true := by
  unfold substI at h
  split at h
  · split at h
    · injection h with h; subst h; assumption
    · cases h
  · cases h
theorem ctrI_valid {t u : Tm} (h : ctrI t = some u) : validT u = true := by
  obtain ⟨k, n, ks⟩ := t
  rw [ctrI] at h
  split at h
  · exact substI_valid h
  repeat (split at h; · exact vO_valid h)
  cases h
theorem ctdI_valid {t u : Tm} {p : List Int} (h : ctdI t p = some u) : validT u = true := by
  unfold ctdI at h
  split at h
  · cases h
  · split at h
    · cases h
    · exact vO_valid h
theorem redI_valid {find : Tm → Option (List Int)} : ∀ (fuel : Nat) (t u : Tm) (c : Int), validT t = true → redI find fuel t = (some u, c) → validT u = true
  | fuel, t, u, c, hv, h => by
    rw [redI] at h
    split at h
    · injection h with h1 h2; injection h1 with h1; subst h1; exact hv
    · split at h
      · cases h
      · split at h
        · cases h
        · exact redI_valid _ _ _ _ (ctdI_valid (by assumption)) h
open Go.RowKit
/-- numbers that memory holds, in one row -/
def PathX (w : World) (A : Option Addr) (xs : List Int) : Prop :=
  0 < xs.length → ∃ b off, A = some ⟨b, off, none⟩ ∧ ∀ (i : Nat) (u : Value), (xs.map (Value.int .i64))[i]? = some u → w.cell? ⟨b, off + i, none⟩ = some u
theorem PathX.nil {w : World} {A : Option Addr} : PathX w A [] := fun h => absurd h (Nat.lt_irrefl _)
theorem PathX.alloc {w : World} {A : Option Addr} {xs : List Int} (h : PathX w A xs) (o : Obj) : PathX (w.alloc o) A xs := by
  intro hm
  obtain ⟨b, off, h3, h4⟩ := h hm
  exact ⟨b, off, h3, fun i u hu => Keeps.alloc w o _ _ (h4 i u hu)⟩
theorem PathX.rdi {w : World} {A : Option Addr} {xs : List Int} (h : PathX w A xs) : RdI w A xs := fun j hj => by
  obtain ⟨b, off, h3, h4⟩ := h (by omega)
  exact ⟨b, off, h3, h4 j _ (by rw [List.getElem?_map, List.getElem?_eq_getElem hj]; rfl)⟩
theorem PathX.below {w w' : World} {A : Option Addr} {xs : List Int} (h : PathX w A xs) (hb : Below w.heap.size w w') : PathX w' A xs := by
  intro hm
  obtain ⟨b, off, h3, h4⟩ := h hm
  exact ⟨b, off, h3, fun i u hu => (Keeps.of_below hb) _ _ (h4 i u hu)⟩
theorem run_append_pathX {w : World} {A : Option Addr} {xs : List Int} {m c : Nat} (h : PathX w A xs) (h1 : xs.length = m) (hm : m ≤ 1000) (x : Int) (ty : TypeId) :
    ∃ A' c' w', (Builtin.append_ #[46, 46] ty #[.slice (some ⟨w.heap.size, 0, none⟩) 1 1, .slice A m c]).run Tryz.prog (w.alloc (.cells #[.int .i64 x] 3)) = .ok (.slice A' (m + 1) c') w' ∧ m + 1 ≤ c' ∧ PathX w' A' (x :: xs) ∧ Below w.heap.size w w' := by
  obtain ⟨i0, hi, hz0, hz1, hz2⟩ := info_parts int_info
  have hown : (w.alloc (.cells #[.int .i64 x] 3)).ownsRow w.heap.size 3 1 (.slice (some ⟨w.heap.size, 0, none⟩) 1 1) 1 [.int .i64 x] :=
    ⟨rfl, .inr ⟨w.heap.size, 1, #[.int .i64 x], rfl, Nat.le_refl _, heap_alloc_new w _, Nat.le_refl _, by decide, rfl, rfl⟩⟩
  have h2 := h.alloc (.cells #[.int .i64 x] 3)
  have fin : ∀ (v' : Value) (w' : World), w'.ownsRow w.heap.size 3 1 v' (1 + m) (.int .i64 x :: xs.map (Value.int .i64)) → (w.alloc (.cells #[.int .i64 x] 3)).grownBy w' (some w.heap.size) →
      ∃ A' c', v' = .slice A' (m + 1) c' ∧ m + 1 ≤ c' ∧ PathX w' A' (x :: xs) ∧ Below w.heap.size w w' := by
    intro v' w' ho hg
    have hb : Below w.heap.size w w' := ((Below.refl _ _).alloc (Nat.le_refl _) _).grown hg (by simp) (fun k e => by cases e; omega)
    rcases ho.2 with ⟨_, h0⟩ | ⟨g, cap, cur, rfl, hgb, hgc, hn, hmx, hcs, htk⟩
    · omega
    · refine ⟨some ⟨g, 0, none⟩, cap, by rw [Nat.add_comm], by omega, fun _ => ⟨g, 0, rfl, fun i u hu => ?_⟩, hb⟩
      rw [List.map_cons, ← htk] at hu
      have hu2 : cur[i]? = some u := by
        rw [List.getElem?_take] at hu
        split at hu
        · simpa using hu
        · cases hu
      have hB : Blk w' g cur := ⟨3, hgc⟩
      rw [Nat.zero_add]
      exact hB.at_ hu2
  have hcells : ∀ (ad : Addr), A = some ad → ∀ j u, (xs.map (Value.int .i64))[j]? = some u → (w.alloc (.cells #[.int .i64 x] 3)).cell? (ad.add j) = some u := by
    intro ad e j u hu
    have hj : j < xs.length := by have := (List.getElem?_eq_some_iff.1 hu).1; simpa using this
    obtain ⟨b, off, e2, hc⟩ := h2 (by omega)
    rw [e2] at e
    cases e
    have := hc j u hu
    rwa [← Go.WideShapes.add_plain] at this
  rcases A with _ | ad
  · have hz : m = 0 := by
      rcases Nat.eq_zero_or_pos m with h0 | h0
      · exact h0
      · obtain ⟨b, off, e, _⟩ := h2 (by omega); cases e
    subst hz
    have hx : xs = [] := List.eq_nil_of_length_eq_zero h1
    subst hx
    obtain ⟨A', c', hv, hcc, hp, hb⟩ := fin _ _ hown (World.grownBy.refl _ _)
    refine ⟨A', c', _, ?_, hcc, hp, hb⟩
    rw [← hv]
    have hgc := heap_alloc_new w (.cells #[.int .i64 x] 3)
    simp [Builtin.append_, run_underlying Tryz.underlying46, sizeOf, typeInfo, hi, Builtin.lenOf, Builtin.firstCells, storeCells]
  · obtain ⟨v', w', hrun, ho, hg, _, hat⟩ := run_append_own_at (P := Tryz.prog) (w.alloc (.cells #[.int .i64 x] 3)) w.heap.size 46 ty 3 i0 _ 1 8 Tryz.underlying46 hi hz0 hz1 hz2 rfl (by omega) _ 1 _ hown ad m c (xs.map (Value.int .i64)) (by simp [h1]) (hcells ad rfl) (by
      intro u hu
      obtain ⟨z, _, rfl⟩ := List.mem_map.1 hu
      rfl) (by simp only [maxLen]; omega) (by omega) (by simp)
    obtain ⟨A', c', rfl, hcc, hp, hb⟩ := fin v' w' (by simpa using ho) hg
    exact ⟨A', c', w', hrun, hcc, hp, hb⟩
theorem wpList_append_pathX {w : World} {A : Option Addr} {xs : List Int} {m c : Nat} (h : PathX w A xs) (h1 : xs.length = m) (hm : m ≤ 1000) (x : Int)
    {ops : Array Oper} {rest : List Oper} {o : Oper} {a : Act} {Q : Exit → Act → World → Prop} (hgd : o.guard = none) (s t : Operand)
    (ho : o.op = .call { callee := .builtin .append, args := #[s, t], argTypes := #[46, 46] }) (hs : a.eval s = .slice (some ⟨w.heap.size, 0, none⟩) 1 1) (hx : a.eval t = .slice A m c)
    (hk : ∀ A' c' w', m + 1 ≤ c' → PathX w' A' (x :: xs) → Below w.heap.size w w' → wpList Tryz.prog ops Q rest (a.put o.dst (.slice A' (m + 1) c')) w') :
    wpList Tryz.prog ops Q (o :: rest) a (w.alloc (.cells #[.int .i64 x] 3)) := by
  refine wpList_plain hgd fun K hK => ?_
  obtain ⟨A', c', w', hrun, h0, h2, h3⟩ := run_append_pathX (c := c) h h1 hm x o.type
  unfold Oper.wp execOp
  simp only [ho, resolve, invoke, builtin, Sem.run_bind, Sem.run_pure, Result.andThen_ok, List.map_toArray, List.map_cons, List.map_nil, hs, hx, hrun]
  exact hK _ _ (hk A' c' w' h0 h2 h3)
/-- a way, or none -/
def WayPost (o : Option (List Int)) (d : Nat) (w : World) (e : Ending) (w' : World) : Prop :=
  ∃ A m c, e = .returned (.tuple #[.slice A m c, .bool o.isSome]) ∧ m ≤ d ∧ m ≤ c ∧ (∀ p, o = some p → m = p.length ∧ PathX w' A p) ∧ Below w.heap.size w w'
theorem WayPost.some_ {p : List Int} {d : Nat} {w : World} {e : Ending} {w' : World} (h : WayPost (some p) d w e w') :
    ∃ A m c, e = .returned (.tuple #[.slice A m c, .bool true]) ∧ m ≤ d ∧ m ≤ c ∧ m = p.length ∧ PathX w' A p ∧ Below w.heap.size w w' := by
  obtain ⟨A, m, c, he, h1, h2, h3, h4⟩ := h
  exact ⟨A, m, c, he, h1, h2, (h3 p rfl).1, (h3 p rfl).2, h4⟩
theorem WayPost.none_ {d : Nat} {w : World} {e : Ending} {w' : World} (h : WayPost none d w e w') :
    ∃ A m c, e = .returned (.tuple #[.slice A m c, .bool false]) ∧ Below w.heap.size w w' := by
  obtain ⟨A, m, c, he, h1, h2, h3, h4⟩ := h
  exact ⟨A, m, c, he, h4⟩
theorem outP_no : (∀ t, (outP t = none ↔ nrm t = true)) ∧ (∀ (ts : List Tm) (i : Int), (outPs i ts = none ↔ nrms ts = true)) := by
  refine Tm.ind2 (fun k n ks ih => ?_) (fun i => ?_) (fun t ts h1 h2 i => ?_)
  · rw [outP, nrm]
    split
    · rename_i h
      rw [ih 0, h]; simp
    · rename_i h
      simp [h]
  · simp [outPs, nrms]
  · rw [outPs, nrms, Bool.and_eq_true, ← h1, ← h2 (i + 1)]
    cases outP t <;> simp
theorem outPs_first {ks : List Tm} {p : List Int} : ∀ {j : Nat} {i : Int}, (∀ t, t ∈ ks.take j → nrm t = true) → (hj : j < ks.length) → outP ks[j] = some p → outPs i ks = some ((i + j) :: p) := by
  induction ks with
  | nil => intro j i _ hj; exact absurd hj (Nat.not_lt_zero _)
  | cons t ts ih =>
    intro j i hall hj hp
    cases j with
    | zero => rw [outPs]; simp at hp; rw [hp]; simp
    | succ j =>
      have h0 : outP t = none := (outP_no.1 t).2 (hall t (by simp))
      rw [outPs, h0]
      have := ih (j := j) (i := i + 1) (fun u hu => hall u (by simp [hu])) (by simpa using hj) (by simpa using hp)
      rw [this]
      simp; omega
set_option maxRecDepth 100000 in
set_option maxHeartbeats 2000000 in
theorem outX_any (N : Nat) : ∀ (d : Nat) (k n : Int) (ks : List Tm) (A : Option Addr) (c : Nat) (w : World), d ≤ 30 → sizes ks < N → shape d (.mk k n ks) = true → sizes ks ≤ 1099511627775 → Rd w A 0 ks →
    Calls Tryz.prog 46 #[.agg #[.int .i64 k, .int .i64 n, .slice A ks.length c]] w (WayPost (outP (.mk k n ks)) d w) := by
  induction N with
  | zero => intro d k n ks A c w _ hN; exact absurd hN (Nat.not_lt_zero _)
  | succ N ih =>
  intro d k n ks A c w hd hN hsh hM hr
  have hlen := length_le_sizes ks
  obtain ⟨d, rfl⟩ : ∃ d', d = d' + 1 := by cases d with | zero => simp [shape] at hsh | succ d => exact ⟨d, rfl⟩
  obtain ⟨ha, hm1, hm2, hkids⟩ := (shape_split d k n ks).1 hsh
  have hkids := hide hkids
  have ha' := hide ha
  clear ha hm1 hm2 hsh
  by_cases hrd : rdx k ks = 0
  · have hz : outP (.mk k n ks) = outPs 0 ks := by rw [outP, if_pos hrd]
    rw [hz]
    have hrd' := hide hrd
    clear hz
    generalize hoo : outPs 0 ks = oo
    have hoo' := hide hoo
    clear hoo
    go_enter Tryz.func46, Tryz.ntmps46
    go_wp2_with (go_at_call 75; refine (iRedex_any k n ks A c _ (by omega) ha'.out (hr.alloc _)).mono ?_; rw [hrd]; rintro e w1 ⟨rfl, hb1⟩; have hB1 := (Blk.new_ w 27 #[.int .i64 k, .int .i64 n, .slice A ks.length c] rfl).keep hb1; obtain ⟨p10, p11, p12⟩ := hB1.three; replace hb1 := ((Below.refl _ _).alloc (Nat.le_refl _) _).trans (hb1.mono (by simp)))
    go_loopw [14] (fun i wr => ∃ j : Nat, j ≤ ks.length ∧ i = .int .i64 j ∧ Hid (∀ t, t ∈ ks.take j → nrm t = true) ∧ Below w.heap.size w wr)
      (fun i _ => ks.length - (intOf i).toNat)
    case atStart => exact ⟨0, Nat.zero_le _, rfl, hide (by simp), hb1⟩
    case round =>
      obtain ⟨j, hj, rfl, hall, hb⟩ := hrel
      by_cases hlt : j < ks.length
      · obtain ⟨b, off, k1, n1, ks1, A1, c1, rfl, hkj, hc1, hc2, hc3, hl1, hr1⟩ := (hr.below hb).at_ hlt
        have hsz := sizes_le (List.getElem_mem hlt)
        have hs1 := hkids.out _ (List.getElem_mem hlt)
        rw [hkj] at hsz hs1
        simp only [Tm.size] at hsz
        have H3 := hide hkj
        have H4 := hide hs1
        clear hkj hs1
        cases ho1 : outP (.mk k1 n1 ks1) with
        | none =>
          have hn1 : nrm (.mk k1 n1 ks1) = true := (outP_no.1 _).1 ho1
          have hn1' := hide hn1
          have ho1' := hide ho1
          clear ho1 hn1
          go_wp2_with (go_at_call 46; refine (ih d k1 n1 ks1 A1 c1 _ (by omega) (by omega) H4.out (by omega) (hr1.alloc _)).mono ?_; rw [ho1'.out]; intro e w3 hp; obtain ⟨A3, m3, c3, rfl, hb3⟩ := hp.none_; replace hb3 := ((Below.refl _ _).alloc (Nat.le_refl _) _).trans (hb3.mono (by simp)))
          go_roundw
          case rel => exact ⟨j + 1, hlt, by go_num, hide (all_take hlt hall.out (by rw [H3.out]; exact hn1'.out)), hb.trans (hb3.mono hb.size)⟩
          case measure => simp [intOf]; omega
        | some p1 =>
          have ho1' := hide ho1
          clear ho1
          go_wp2_with (first | (go_at_call 46; refine (ih d k1 n1 ks1 A1 c1 _ (by omega) (by omega) H4.out (by omega) (hr1.alloc _)).mono ?_; rw [ho1'.out]; intro e w3 hp; obtain ⟨A3, m3, c3, rfl, hm3, hc3', hm3e, hp3, hb3⟩ := hp.some_; have hm3e' := hide hm3e.symm; clear hm3e; replace hb3 := ((Below.refl _ _).alloc (Nat.le_refl _) _).trans (hb3.mono (by simp))) | (at_builtin; refine wpList_append_pathX hp3 hm3e'.out (by omega) _ rfl _ _ rfl rfl rfl ?_; intro A4 c4 w4 hcc4 hp4 hb4))
          go_ret2
          have hfin := outPs_first (i := 0) hall.out hlt (by rw [H3.out]; exact ho1'.out)
          rw [hoo'.out] at hfin
          refine ⟨A4, m3 + 1, c4, by rw [hfin]; rfl, by omega, hcc4, ?_, hb.trans ((hb3.trans (hb4.mono hb3.size)).mono hb.size)⟩
          intro p hp
          rw [hfin] at hp
          injection hp with hp
          subst hp
          refine ⟨by rw [List.length_cons, hm3e'.out], by simpa using hp4⟩
      · have hje : j = ks.length := by omega
        go_wp2_with fail
        go_ret2
        have ha := hall.out
        rw [hje, List.take_length] at ha
        have h2 : oo = none := by rw [← hoo'.out]; exact (outP_no.2 ks 0).2 ((nrms_iff ks).2 ha)
        refine ⟨none, 0, 0, by rw [h2]; rfl, by omega, Nat.le_refl _, fun p hp => (by rw [h2] at hp; cases hp), hb⟩
  · have hne : (rdx k ks != 0) = true := by simpa using hrd
    have hz : outP (.mk k n ks) = some [] := by rw [outP, if_neg hrd]
    rw [hz]
    have H := hide hrd
    clear hrd hz
    go_enter Tryz.func46, Tryz.ntmps46
    go_wp2_with (go_at_call 75; refine (iRedex_any k n ks A c _ (by omega) ha'.out (hr.alloc _)).mono ?_; rintro e w1 ⟨rfl, hb1⟩; replace hb1 := ((Below.refl _ _).alloc (Nat.le_refl _) _).trans (hb1.mono (by simp)))
    go_ret2
    exact ⟨none, 0, 0, rfl, by omega, Nat.le_refl _, fun p hp => (by injection hp with hp; subst hp; exact ⟨rfl, PathX.nil⟩), hb1⟩
end Go.Proofs.YthgmofdfecioaaaGreatDoor
