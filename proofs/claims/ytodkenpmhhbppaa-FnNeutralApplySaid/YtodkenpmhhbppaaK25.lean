/-
  Texts that are common to the laws: Subst, SubstT. No condition.
-/
import Derived.Test.YtodkenpmhhbppaaK1
import Derived.Test.YtodkenpmhhbppaaK2
import Derived.Test.YtodkenpmhhbppaaK3

namespace Go.Proofs.Ytodkenpmhhbppaa
open Go.RowKit
set_option linter.unusedSimpArgs false
set_option linter.unusedVariables false

/-- what subst puts in a variable's place -/
def sbF (x : Int) (u : Tm) (n d : Int) : Tm := if n - d = x then (shiftI d 0 u).getD (.mk 0 0 []) else if x < n - d then .mk 1 (n - 1) [] else .mk 1 n []
def sbOk (x : Int) (u : Tm) (n d : Int) : Bool := if n - d = x then (shiftI d 0 u).isSome else true
set_option maxHeartbeats 4000000 in
set_option maxRecDepth 100000 in
theorem subst1_ok {x k' n' : Int} {ks' : List Tm} {A' : Option Addr} {c' bi ba g : Nat} {W0 : World} (hx : 0 ≤ x ∧ x ≤ 20) (hsh : shape 30 (.mk k' n' ks') = true) (hsz : sizes ks' ≤ 1000000000) (hI : Blk W0 bi #[.int .i64 x]) (hA : Blk W0 ba #[.int .i64 k', .int .i64 n', .slice A' ks'.length c']) (hR : RdP (· ≠ g) W0 A' 0 ks') (hig : bi ≠ g) (hag : ba ≠ g) :
    FunOk 113 [.pointer (some ⟨bi, 0, none⟩), .pointer (some ⟨ba, 0, none⟩), .pointer (some ⟨g, 0, none⟩)] W0 g (sbF x (.mk k' n' ks')) (sbOk x (.mk k' n' ks')) := by
  intro n d w b hn0 hn1 hd0 hd1 hW hg
  have hIw := hI.grown hW (by simpa using hig)
  have hAw := hA.grown hW (by simpa using hag)
  have hRw := hR.grown hW (fun b hb e => hb (by injection e))
  have i0 := hIw.at_ (i := 0) rfl
  have x0 := hAw.at_ (i := 0) rfl
  have x1 := hAw.at_ (i := 1) rfl
  have x3 := hAw.at_ (i := 2) rfl
  have x2 := hg.at_ (i := 0) rfl
  have z2 := hg.frozen 0
  have li := hIw.lt
  have l0 := hAw.lt
  have l2 := hg.lt
  have hrd := hRw.rd
  have H4 := hide hsh
  clear hsh
  by_cases h1 : n - d = x
  · have hz : sbF x (.mk k' n' ks') n d = (shiftI d 0 (.mk k' n' ks')).getD (.mk 0 0 []) := by rw [sbF, if_pos h1]
    have hzo : sbOk x (.mk k' n' ks') n d = (shiftI d 0 (.mk k' n' ks')).isSome := by rw [sbOk, if_pos h1]
    rw [hz, hzo]
    have q1 : ((n - d) == x) = true := by simpa using h1
    have H := hide h1
    clear h1 hz hzo
    cases hsi : shiftI d 0 (.mk k' n' ks') with
    | none =>
      rw [show (none : Option Tm).getD (.mk 0 0 []) = .mk 0 0 [] from rfl, show (none : Option Tm).isSome = false from rfl, Bool.and_false]
      cases b
      all_goals
        go_enter Try.func113, Try.ntmps113
        go_wp2_with (go_at_call 92; refine (shift_any k' n' ks' A' c' d 0 _ (by omega) (by omega) (by omega) H4.out (hrd.alloc _)).mono ?_; rw [hsi]; intro e w1 hp; obtain ⟨he, hb1⟩ := gotO_none hp; subst he; clear hp; have hT : Blk w1 w.heap.size #[.int .i64 0, .int .i64 0, .slice none 0 0] := (Blk.new_ _ 25 _ rfl).keep hb1; obtain ⟨d0, d1, d2⟩ := hT.three; have e0 := hT.frozen 0; have e1 := hT.frozen 1; have e2 := hT.frozen 2; have hG1 := (hg.alloc (.cells #[.int .i64 0, .int .i64 0, .slice none 0 0] 25)).keep hb1; have g1 := hG1.at_ (i := 0) rfl; have gz := hG1.frozen 0; have lT := hT.lt; have lG := hG1.lt; replace hb1 : w.grownBy w1 (some g) := only_below (only_alloc (World.grownBy.refl _ _) _) hb1)
        have y := fun (v : Value) (o : Obj) => ((((((hT.far (p := ⟨g, 0, none⟩) (by simp; omega) v).set_ 0 (.int .i64 0)).set_ 1 (.int .i64 0)).set_ 2 (.slice none 0 0)).alloc o : Blk _ _ #[.int .i64 0, .int .i64 0, .slice none 0 0])).three
        refine bodyPost_ret (v := .agg #[.int .i64 0, .int .i64 0, .slice none 0 0]) (by simp [results, Try.results113, go_sem, y]) rfl ⟨_, _, rfl, ?_, ?_, ?_, ?_⟩
        · simp [Tm.ks]
        · exact Fresh.nil
        · exact ((((hG1.set_ 0 (.bool false)).far (by simp; omega) _).far (by simp; omega) _).far (by simp; omega) _).alloc _
        · exact only_alloc (only_setCell (only_setCell (only_setCell (only_setCell hb1 (.inl rfl) _) (.inr (by simp)) _) (.inr (by simp)) _) (.inr (by simp)) _) _
    | some t =>
      obtain ⟨k2, n2, ks2⟩ := t
      rw [show (some (Tm.mk k2 n2 ks2)).getD (.mk 0 0 []) = .mk k2 n2 ks2 from rfl, show (some (Tm.mk k2 n2 ks2)).isSome = true from rfl, Bool.and_true]
      cases b
      · go_enter Try.func113, Try.ntmps113
        go_wp2_with (go_at_call 92; refine (shift_any k' n' ks' A' c' d 0 _ (by omega) (by omega) (by omega) H4.out (hrd.alloc _)).mono ?_; rw [hsi]; intro e w1 hp; obtain ⟨A1, c1, rfl, hl1, hf1, hb1⟩ := gotO_some hp; clear hp; have hT : Blk w1 w.heap.size #[.int .i64 0, .int .i64 0, .slice none 0 0] := (Blk.new_ _ 25 _ rfl).keep hb1; obtain ⟨d0, d1, d2⟩ := hT.three; have e0 := hT.frozen 0; have e1 := hT.frozen 1; have e2 := hT.frozen 2; have hG1 := (hg.alloc (.cells #[.int .i64 0, .int .i64 0, .slice none 0 0] 25)).keep hb1; have g1 := hG1.at_ (i := 0) rfl; have gz := hG1.frozen 0; have lT := hT.lt; have lG := hG1.lt; replace hf1 : Fresh (w.heap.size + 1) w1 A1 ks2 := hf1.mono (by simp); replace hb1 : w.grownBy w1 (some g) := only_below (only_alloc (World.grownBy.refl _ _) _) hb1)
        have y := fun (v : Value) (o : Obj) => ((((((hT.far (p := ⟨g, 0, none⟩) (by simp; omega) v).set_ 0 (.int .i64 k2)).set_ 1 (.int .i64 n2)).set_ 2 (.slice A1 ks2.length c1)).alloc o : Blk _ _ #[.int .i64 k2, .int .i64 n2, .slice A1 ks2.length c1])).three
        refine bodyPost_ret (v := .agg #[.int .i64 k2, .int .i64 n2, .slice A1 ks2.length c1]) (by simp [results, Try.results113, go_sem, y]) rfl ⟨_, _, rfl, ?_, ?_, ?_, ?_⟩
        · exact hl1
        · exact (((((hf1.setCell (by simp; omega) _).setCell (by simp) _).setCell (by simp) _).setCell (by simp) _).alloc _).mono (by simp)
        · exact ((((hG1.set_ 0 (.bool false)).far (by simp; omega) _).far (by simp; omega) _).far (by simp; omega) _).alloc _
        · exact only_alloc (only_setCell (only_setCell (only_setCell (only_setCell hb1 (.inl rfl) _) (.inr (by simp)) _) (.inr (by simp)) _) (.inr (by simp)) _) _
      · go_enter Try.func113, Try.ntmps113
        go_wp2_with (go_at_call 92; refine (shift_any k' n' ks' A' c' d 0 _ (by omega) (by omega) (by omega) H4.out (hrd.alloc _)).mono ?_; rw [hsi]; intro e w1 hp; obtain ⟨A1, c1, rfl, hl1, hf1, hb1⟩ := gotO_some hp; clear hp; have hT : Blk w1 w.heap.size #[.int .i64 0, .int .i64 0, .slice none 0 0] := (Blk.new_ _ 25 _ rfl).keep hb1; obtain ⟨d0, d1, d2⟩ := hT.three; have e0 := hT.frozen 0; have e1 := hT.frozen 1; have e2 := hT.frozen 2; have hG1 := (hg.alloc (.cells #[.int .i64 0, .int .i64 0, .slice none 0 0] 25)).keep hb1; have g1 := hG1.at_ (i := 0) rfl; have gz := hG1.frozen 0; have lT := hT.lt; have lG := hG1.lt; replace hf1 : Fresh (w.heap.size + 1) w1 A1 ks2 := hf1.mono (by simp); replace hb1 : w.grownBy w1 (some g) := only_below (only_alloc (World.grownBy.refl _ _) _) hb1)
        have y := fun (v : Value) (o : Obj) => ((((((hT.far (p := ⟨g, 0, none⟩) (by simp; omega) v).set_ 0 (.int .i64 k2)).set_ 1 (.int .i64 n2)).set_ 2 (.slice A1 ks2.length c1)).alloc o : Blk _ _ #[.int .i64 k2, .int .i64 n2, .slice A1 ks2.length c1])).three
        refine bodyPost_ret (v := .agg #[.int .i64 k2, .int .i64 n2, .slice A1 ks2.length c1]) (by simp [results, Try.results113, go_sem, y]) rfl ⟨_, _, rfl, ?_, ?_, ?_, ?_⟩
        · exact hl1
        · exact (((((hf1.setCell (by simp; omega) _).setCell (by simp) _).setCell (by simp) _).setCell (by simp) _).alloc _).mono (by simp)
        · exact ((((hG1.set_ 0 (.bool true)).far (by simp; omega) _).far (by simp; omega) _).far (by simp; omega) _).alloc _
        · exact only_alloc (only_setCell (only_setCell (only_setCell (only_setCell hb1 (.inl rfl) _) (.inr (by simp)) _) (.inr (by simp)) _) (.inr (by simp)) _) _
  · have q1 : ((n - d) == x) = false := by simpa using h1
    have hzo : sbOk x (.mk k' n' ks') n d = true := by rw [sbOk, if_neg h1]
    by_cases h2 : x < n - d
    · have hz : sbF x (.mk k' n' ks') n d = .mk 1 (n - 1) [] := by rw [sbF, if_neg h1, if_pos h2]
      rw [hz, hzo, Bool.and_true]
      have q2 : decide (x < n - d) = true := decide_eq_true h2
      have H := hide h1
      clear h1 h2 hz hzo
      go_enter Try.func113, Try.ntmps113
      go_wp2_with (go_at_call 104; refine (variable_any _ _).mono ?_; rintro e w1 ⟨rfl, hv1⟩; have hT : Blk w1 w.heap.size #[.int .i64 0, .int .i64 0, .slice none 0 0] := (Blk.new_ _ 25 _ rfl).keep hv1; obtain ⟨d0, d1, d2⟩ := hT.three; have e0 := hT.frozen 0; have e1 := hT.frozen 1; have e2 := hT.frozen 2; have hG1 := (hg.alloc (.cells #[.int .i64 0, .int .i64 0, .slice none 0 0] 25)).keep hv1; replace hv1 : w.grownBy w1 (some g) := only_below (only_alloc (World.grownBy.refl _ _) _) hv1)
      refine bodyPost_ret (v := .agg #[.int .i64 1, .int .i64 (n - 1), .slice none 0 0]) (by simp [results, Try.results113, go_sem, d0, d1, d2]) rfl ⟨none, 0, rfl, by simp [Tm.ks], Fresh.nil, ?_, ?_⟩
      · exact ((hG1.far (by simp; omega) _).far (by simp; omega) _).far (by simp; omega) _
      · exact only_setCell (only_setCell (only_setCell hv1 (.inr (by simp)) _) (.inr (by simp)) _) (.inr (by simp)) _
    · have hz : sbF x (.mk k' n' ks') n d = .mk 1 n [] := by rw [sbF, if_neg h1, if_neg h2]
      rw [hz, hzo, Bool.and_true]
      have q2 : decide (x < n - d) = false := decide_eq_false h2
      have H := hide h1
      clear h1 h2 hz hzo
      go_enter Try.func113, Try.ntmps113
      go_wp2_with (go_at_call 104; refine (variable_any _ _).mono ?_; rintro e w1 ⟨rfl, hv1⟩; have hT : Blk w1 w.heap.size #[.int .i64 0, .int .i64 0, .slice none 0 0] := (Blk.new_ _ 25 _ rfl).keep hv1; obtain ⟨d0, d1, d2⟩ := hT.three; have e0 := hT.frozen 0; have e1 := hT.frozen 1; have e2 := hT.frozen 2; have hG1 := (hg.alloc (.cells #[.int .i64 0, .int .i64 0, .slice none 0 0] 25)).keep hv1; replace hv1 : w.grownBy w1 (some g) := only_below (only_alloc (World.grownBy.refl _ _) _) hv1)
      refine bodyPost_ret (v := .agg #[.int .i64 1, .int .i64 (n), .slice none 0 0]) (by simp [results, Try.results113, go_sem, d0, d1, d2]) rfl ⟨none, 0, rfl, by simp [Tm.ks], Fresh.nil, ?_, ?_⟩
      · exact ((hG1.far (by simp; omega) _).far (by simp; omega) _).far (by simp; omega) _
      · exact only_setCell (only_setCell (only_setCell hv1 (.inr (by simp)) _) (.inr (by simp)) _) (.inr (by simp)) _

/-- what subst answers -/
def substI (x : Int) (u : Tm) (t : Tm) : Option Tm := if chgOk (sbOk x u) 0 t = true then (if validT (chg (sbF x u) 0 t) = true then some (chg (sbF x u) 0 t) else none) else none
theorem sbF_size (x : Int) (u : Tm) (n d : Int) : (sbF x u n d).size ≤ 400 := by
  unfold sbF
  split
  · unfold shiftI
    split
    · split
      · rename_i h; exact validT_size h
      · simp [Tm.size, sizes]
    · simp [Tm.size, sizes]
  · split <;> simp [Tm.size, sizes]

set_option maxHeartbeats 4000000 in
set_option maxRecDepth 100000 in
theorem subst_any (k n : Int) (ks : List Tm) (A : Option Addr) (c : Nat) (x ku nu : Int) (us : List Tm) (B : Option Addr) (cb : Nat) (w : World) (hx : 0 ≤ x ∧ x ≤ 20) (hsa : shape 30 (.mk ku nu us) = true) (hza : sizes us ≤ 1000000000) (hRa : Rd w B 0 us) (hM : sizes ks ≤ 1000) (hs : shape 30 (.mk k n ks) = true) (hr : Rd w A 0 ks) :
    Calls Try.prog 70 #[(.agg #[.int .i64 k, .int .i64 n, .slice A ks.length c]), .int .i64 x, .agg #[.int .i64 ku, .int .i64 nu, .slice B us.length cb]] w (GotO w (substI x (.mk ku nu us) (.mk k n ks))) := by
  have hrp : RdP (· ≠ w.heap.size + 4) w A 0 ks := hr.rdp.mono (fun b hb => by have hb : b < w.heap.size := hb; show b ≠ _; omega)
  have hRp : RdP (· ≠ w.heap.size + 4) w B 0 us := hRa.rdp.mono (fun b hb => by have hb : b < w.heap.size := hb; show b ≠ _; omega)
  obtain ⟨k2, n2, ks2, hct⟩ := tm_eta (chg (sbF x (.mk ku nu us)) 0 (.mk k n ks))
  have hsz2 : sizes ks2 ≤ 1000000001 := by
    have := (chg_size (by omega) (sbF_size x (.mk ku nu us))).1 (.mk k n ks) 0
    rw [hct, Tm.size, Tm.size] at this
    omega
  cases hok : chgOk (sbOk x (.mk ku nu us)) 0 (.mk k n ks) with
  | false =>
    have hz : substI x (.mk ku nu us) (.mk k n ks) = none := by rw [substI, hok]; rfl
    rw [hz]
    clear hz
    go_enter Try.func70, Try.ntmps70
    go_wp2_with (go_at_call 102; refine (changed_any (subst1_ok (x := x) (k' := ku) (n' := nu) (ks' := us) (A' := B) (c' := cb) (bi := w.heap.size + 1) (ba := w.heap.size + 2) (g := w.heap.size + 4) hx hsa hza ((((Blk.new_ _ 3 _ (by simp)).alloc _).alloc _).alloc _) (((Blk.new_ _ 25 _ (by simp)).alloc _).alloc _) (((((hRp.alloc _).alloc _).alloc _).alloc _).alloc _) (by omega) (by omega)) (run_enter Try.func113 (by kernel_rfl) (by kernel_rfl)) (sizes ks + 1) k n ks A c 0 30 _ true (by omega) hs (by omega) (by omega) (by omega) (World.grownBy.refl _ _) (Blk.new_ _ 4 _ (by simp)) (((((hrp.alloc _).alloc _).alloc _).alloc _).alloc _)).mono ?_; rw [hct, hok]; intro e w6 hpost; obtain ⟨A6, c6, rfl, hl6, hf6, hG6, hg6⟩ := gotG_mk hpost; clear hpost; have hT6 : Blk w6 (w.heap.size + 1 + 1 + 1) #[.int .i64 0, .int .i64 0, .slice none 0 0] := ((Blk.new_ _ 25 _ (by simp)).alloc _).grown hg6 (by simp); have f0 := hG6.at_ (i := 0) rfl; obtain ⟨d0, d1, d2⟩ := hT6.three; have e0 := hT6.frozen 0; have e1 := hT6.frozen 1; have e2 := hT6.frozen 2; have lT := hT6.lt; have lG := hG6.lt; have hb6 : Below w.heap.size w w6 := ((((((Below.refl _ _).alloc (Nat.le_refl _) _).alloc (by simp) _).alloc (by simp; omega) _).alloc (by simp; omega) _).alloc (by simp; omega) _).grown hg6 (by simp; omega) (fun k e => by cases e; omega); replace hf6 := hf6.mono (B' := w.heap.size + 5) (by simp))
    have y := fun o => (((((hT6.set_ 0 (.int .i64 0)).set_ 1 (.int .i64 0)).set_ 2 (.slice none 0 0)).alloc o : Blk _ _ #[.int .i64 0, .int .i64 0, .slice none 0 0])).three
    refine bodyPost_ret (v := .tuple #[zeroV, .bool false]) (by simp [results, Try.results70, go_sem, y, zeroV]) rfl ⟨rfl, ?_⟩
    exact (((hb6.setCell (by simp; omega) _).setCell (by simp; omega) _).setCell (by simp; omega) _).alloc (by simp [World.setCell]; omega) _
  | true =>
    cases hv : validT (.mk k2 n2 ks2) with
    | false =>
      have hz : substI x (.mk ku nu us) (.mk k n ks) = none := by rw [substI, hok, if_pos rfl, hct, hv]; rfl
      rw [hz]
      clear hz
      go_enter Try.func70, Try.ntmps70
      go_wp2_with (first | (go_at_call 102; refine (changed_any (subst1_ok (x := x) (k' := ku) (n' := nu) (ks' := us) (A' := B) (c' := cb) (bi := w.heap.size + 1) (ba := w.heap.size + 2) (g := w.heap.size + 4) hx hsa hza ((((Blk.new_ _ 3 _ (by simp)).alloc _).alloc _).alloc _) (((Blk.new_ _ 25 _ (by simp)).alloc _).alloc _) (((((hRp.alloc _).alloc _).alloc _).alloc _).alloc _) (by omega) (by omega)) (run_enter Try.func113 (by kernel_rfl) (by kernel_rfl)) (sizes ks + 1) k n ks A c 0 30 _ true (by omega) hs (by omega) (by omega) (by omega) (World.grownBy.refl _ _) (Blk.new_ _ 4 _ (by simp)) (((((hrp.alloc _).alloc _).alloc _).alloc _).alloc _)).mono ?_; rw [hct, hok]; intro e w6 hpost; obtain ⟨A6, c6, rfl, hl6, hf6, hG6, hg6⟩ := gotG_mk hpost; clear hpost; have hT6 : Blk w6 (w.heap.size + 1 + 1 + 1) #[.int .i64 0, .int .i64 0, .slice none 0 0] := ((Blk.new_ _ 25 _ (by simp)).alloc _).grown hg6 (by simp); have f0 := hG6.at_ (i := 0) rfl; obtain ⟨d0, d1, d2⟩ := hT6.three; have e0 := hT6.frozen 0; have e1 := hT6.frozen 1; have e2 := hT6.frozen 2; have lT := hT6.lt; have lG := hG6.lt; have hb6 : Below w.heap.size w w6 := ((((((Below.refl _ _).alloc (Nat.le_refl _) _).alloc (by simp) _).alloc (by simp; omega) _).alloc (by simp; omega) _).alloc (by simp; omega) _).grown hg6 (by simp; omega) (fun k e => by cases e; omega); replace hf6 := hf6.mono (B' := w.heap.size + 5) (by simp)) | (go_at_call 82; refine (valid_no k2 n2 ks2 A6 c6 _ (by omega) (hf6.rd.alloc _) hv).mono ?_; rintro e w8 ⟨rfl, hb8⟩; have hT8 : Blk w8 (w.heap.size + 1 + 1 + 1) #[.int .i64 0, .int .i64 0, .slice none 0 0] := (hT6.alloc _).keep hb8; obtain ⟨x0, x1, x2⟩ := hT8.three; have e80 := hT8.frozen 0; have e81 := hT8.frozen 1; have e82 := hT8.frozen 2; replace hb8 : Below w.heap.size w w8 := (hb6.alloc hb6.size _).trans (hb8.mono (by have := hb6.size; simp; omega)); have hzz : zeroV = .agg #[.int .i64 0, .int .i64 0, .slice none 0 0] := rfl))
      refine bodyPost_ret (v := .tuple #[zeroV, .bool false]) (by simp [results, Try.results70, go_sem, x0, x1, x2, zeroV]) rfl ⟨rfl, ?_⟩
      exact ((hb8.setCell (by simp; omega) _).setCell (by simp; omega) _).setCell (by simp; omega) _
    | true =>
      have hz : substI x (.mk ku nu us) (.mk k n ks) = some (.mk k2 n2 ks2) := by rw [substI, hok, if_pos rfl, hct, hv]; rfl
      rw [hz]
      clear hz
      go_enter Try.func70, Try.ntmps70
      go_wp2_with (first | (go_at_call 102; refine (changed_any (subst1_ok (x := x) (k' := ku) (n' := nu) (ks' := us) (A' := B) (c' := cb) (bi := w.heap.size + 1) (ba := w.heap.size + 2) (g := w.heap.size + 4) hx hsa hza ((((Blk.new_ _ 3 _ (by simp)).alloc _).alloc _).alloc _) (((Blk.new_ _ 25 _ (by simp)).alloc _).alloc _) (((((hRp.alloc _).alloc _).alloc _).alloc _).alloc _) (by omega) (by omega)) (run_enter Try.func113 (by kernel_rfl) (by kernel_rfl)) (sizes ks + 1) k n ks A c 0 30 _ true (by omega) hs (by omega) (by omega) (by omega) (World.grownBy.refl _ _) (Blk.new_ _ 4 _ (by simp)) (((((hrp.alloc _).alloc _).alloc _).alloc _).alloc _)).mono ?_; rw [hct, hok]; intro e w6 hpost; obtain ⟨A6, c6, rfl, hl6, hf6, hG6, hg6⟩ := gotG_mk hpost; clear hpost; have hT6 : Blk w6 (w.heap.size + 1 + 1 + 1) #[.int .i64 0, .int .i64 0, .slice none 0 0] := ((Blk.new_ _ 25 _ (by simp)).alloc _).grown hg6 (by simp); have f0 := hG6.at_ (i := 0) rfl; obtain ⟨d0, d1, d2⟩ := hT6.three; have e0 := hT6.frozen 0; have e1 := hT6.frozen 1; have e2 := hT6.frozen 2; have lT := hT6.lt; have lG := hG6.lt; have hb6 : Below w.heap.size w w6 := ((((((Below.refl _ _).alloc (Nat.le_refl _) _).alloc (by simp) _).alloc (by simp; omega) _).alloc (by simp; omega) _).alloc (by simp; omega) _).grown hg6 (by simp; omega) (fun k e => by cases e; omega); replace hf6 := hf6.mono (B' := w.heap.size + 5) (by simp)) | (go_at_call 82; refine (valid_yes k2 n2 ks2 A6 c6 _ (by omega) (hf6.rd.alloc _) hv).mono ?_; rintro e w8 ⟨rfl, hb8⟩; have hf8 := (hf6.alloc (.cells #[.int .i64 k2, .int .i64 n2, .slice A6 ks2.length c6] 25)).below hb8; have hT8 : Blk w8 (w.heap.size + 1 + 1 + 1) #[.int .i64 0, .int .i64 0, .slice none 0 0] := (hT6.alloc _).keep hb8; obtain ⟨x0, x1, x2⟩ := hT8.three; have e80 := hT8.frozen 0; have e81 := hT8.frozen 1; have e82 := hT8.frozen 2; replace hb8 : Below w.heap.size w w8 := (hb6.alloc hb6.size _).trans (hb8.mono (by have := hb6.size; simp; omega))))
      refine bodyPost_ret (v := .tuple #[.agg #[.int .i64 k2, .int .i64 n2, .slice A6 ks2.length c6], .bool true]) (by simp [results, Try.results70, go_sem, x0, x1, x2]) rfl ⟨A6, c6, rfl, hl6, ?_, ?_⟩
      · exact (((hf8.setCell (by simp) _).setCell (by simp) _).setCell (by simp) _).mono (by omega)
      · exact ((hb8.setCell (by simp; omega) _).setCell (by simp; omega) _).setCell (by simp; omega) _
end Go.Proofs.Ytodkenpmhhbppaa

namespace Go.Proofs.Ytodkenpmhhbppaa
open Go.RowKit
set_option linter.unusedSimpArgs false
set_option linter.unusedVariables false

def substTI (x : Int) (u t : Tm) : Option Tm := if validT t = true ∧ validT u = true then substI x u t else none
theorem substTI_size {x : Int} {u t : Tm} {k n : Int} {ks : List Tm} (ht : (substTI x u t).getD (.mk 0 0 []) = .mk k n ks) : sizes ks ≤ 400 := by
  unfold substTI at ht
  split at ht
  · unfold substI at ht
    split at ht
    · split at ht
      · rename_i h
        have := validT_size h
        rw [Option.getD_some] at ht
        rw [ht, Tm.size] at this; omega
      · injection ht with _ _ h3; subst h3; simp [sizes]
    · injection ht with _ _ h3; subst h3; simp [sizes]
  · injection ht with _ _ h3; subst h3; simp [sizes]
set_option maxHeartbeats 8000000 in
set_option maxRecDepth 100000 in
theorem substTerm_any (k n : Int) (ks : List Tm) (A : Option Addr) (c : Nat) (x ku nu : Int) (us : List Tm) (B : Option Addr) (cb : Nat) (w : World) (hx : 0 ≤ x ∧ x ≤ 20) (hM : sizes ks ≤ 1048576) (hMu : sizes us ≤ 1048576) (hr : Rd w A 0 ks) (hru : Rd w B 0 us) :
    Calls Try.prog 24 #[.agg #[.int .i64 k, .int .i64 n, .slice A ks.length c], .int .i64 x, .agg #[.int .i64 ku, .int .i64 nu, .slice B us.length cb]] w (GotO w (substTI x (.mk ku nu us) (.mk k n ks))) := by
  have q1 : decide (0 ≤ x) = true := decide_eq_true hx.1
  have q2 : decide (x ≤ 20) = true := decide_eq_true hx.2
  cases hv : validT (.mk k n ks) with
  | false =>
    have hz : substTI x (.mk ku nu us) (.mk k n ks) = none := by rw [substTI, if_neg (by rw [hv]; simp)]
    rw [hz]
    have hv' := hide hv
    clear hz hv
    go_enter Try.func24, Try.ntmps24
    go_wp2_with (go_at_call 34; refine (iTermValid_any k n ks A c _ (by omega) (((hr.alloc _).alloc _).alloc _)).mono ?_; rw [hv'.out]; rintro e w1 ⟨rfl, hb1⟩; have hT : Blk w1 (w.heap.size + 1 + 1) #[.int .i64 0, .int .i64 0, .slice none 0 0] := (Blk.new_ _ 25 _ (by simp)).keep hb1; obtain ⟨d0, d1, d2⟩ := hT.three; have e0 := hT.frozen 0; have e1 := hT.frozen 1; have e2 := hT.frozen 2; have g1 : Below w.heap.size w w1 := ((((Below.refl _ _).alloc (Nat.le_refl _) _).alloc (by simp) _).alloc (by simp; omega) _).trans (hb1.mono (by simp; omega)))
    refine bodyPost_ret (v := .tuple #[zeroV, .bool false]) (by simp [results, Try.results24, go_sem, d0, d1, d2, zeroV]) rfl ⟨rfl, ?_⟩
    exact ((g1.setCell (by simp; omega) _).setCell (by simp; omega) _).setCell (by simp; omega) _
  | true =>
    cases hvu : validT (.mk ku nu us) with
    | false =>
      have hz : substTI x (.mk ku nu us) (.mk k n ks) = none := by rw [substTI, if_neg (by rw [hvu]; simp)]
      rw [hz]
      have hv' := hide hv
      have hvu' := hide hvu
      clear hz hv hvu
      go_enter Try.func24, Try.ntmps24
      go_wp2_with (first
        | (go_at_call 34; have _t := tok; refine (iTermValid_any ku nu us B cb _ (by omega) ((((hru.alloc _).alloc _).alloc _).below hb1)).mono ?_; rw [hvu'.out]; rintro e w2 ⟨rfl, hb2⟩; replace hT := hT.keep hb2; obtain ⟨d0, d1, d2⟩ := hT.three; have e0 := hT.frozen 0; have e1 := hT.frozen 1; have e2 := hT.frozen 2; have g2 := g1.trans (hb2.mono g1.size); clear tok)
        | (go_at_call 34; refine (iTermValid_any k n ks A c _ (by omega) (((hr.alloc _).alloc _).alloc _)).mono ?_; rw [hv'.out]; rintro e w1 ⟨rfl, hb1⟩; have tok := trivial; have hU : Blk w1 (w.heap.size + 1) #[.int .i64 ku, .int .i64 nu, .slice B us.length cb] := ((Blk.new_ _ 25 _ (by simp)).alloc _).keep hb1; obtain ⟨u0, u1, u2⟩ := hU.three; have hT : Blk w1 (w.heap.size + 1 + 1) #[.int .i64 0, .int .i64 0, .slice none 0 0] := (Blk.new_ _ 25 _ (by simp)).keep hb1; have g1 : Below w.heap.size w w1 := ((((Below.refl _ _).alloc (Nat.le_refl _) _).alloc (by simp) _).alloc (by simp; omega) _).trans (hb1.mono (by simp; omega))))
      refine bodyPost_ret (v := .tuple #[zeroV, .bool false]) (by simp [results, Try.results24, go_sem, d0, d1, d2, zeroV]) rfl ⟨rfl, ?_⟩
      exact ((g2.setCell (by simp; omega) _).setCell (by simp; omega) _).setCell (by simp; omega) _
    | true =>
      have hz : substTI x (.mk ku nu us) (.mk k n ks) = substI x (.mk ku nu us) (.mk k n ks) := by rw [substTI, if_pos ⟨hv, hvu⟩]
      have hsz := validT_size hv
      have hszu := validT_size hvu
      rw [Tm.size] at hsz hszu
      have hs : shape 30 (.mk k n ks) = true := by simp only [validT, Bool.and_eq_true] at hv; exact hv.1
      have hsu : shape 30 (.mk ku nu us) = true := by simp only [validT, Bool.and_eq_true] at hvu; exact hvu.1
      rw [hz]
      have hv' := hide hv
      have hvu' := hide hvu
      have hs' := hide hs
      have hsu' := hide hsu
      clear hz hv hvu hs hsu
      cases ho : substI x (.mk ku nu us) (.mk k n ks) with
      | none =>
        have ho' := hide ho
        clear ho
        go_enter Try.func24, Try.ntmps24
        go_wp2_with (first
          | (go_at_call 70; refine (subst_any k n ks A c x ku nu us B cb _ hx hsu'.out (by omega) (((((hru.alloc _).alloc _).alloc _).below hb1).below hb2) (by omega) hs'.out (((((hr.alloc _).alloc _).alloc _).below hb1).below hb2)).mono ?_; rw [ho'.out]; intro e w3 hgo; obtain ⟨rfl, hb3⟩ := gotO_none hgo; clear hgo d0 d1 d2 e0 e1 e2; replace hT := hT.keep hb3; obtain ⟨d0, d1, d2⟩ := hT.three; have e0 := hT.frozen 0; have e1 := hT.frozen 1; have e2 := hT.frozen 2; have g3 := g2.trans (hb3.mono g2.size))
          | (go_at_call 69; refine (within_any _ _ _ _).mono ?_; rintro e w9 ⟨rfl, rfl⟩)
          | (go_at_call 34; have _t := tok; refine (iTermValid_any ku nu us B cb _ (by omega) ((((hru.alloc _).alloc _).alloc _).below hb1)).mono ?_; rw [hvu'.out]; rintro e w2 ⟨rfl, hb2⟩; replace hT := hT.keep hb2; replace hU := hU.keep hb2; replace hX := hX.keep hb2; clear u0 u1 u2; obtain ⟨u0, u1, u2⟩ := hU.three; obtain ⟨x0, x1, x2⟩ := hX.three; obtain ⟨d0, d1, d2⟩ := hT.three; have e0 := hT.frozen 0; have e1 := hT.frozen 1; have e2 := hT.frozen 2; have g2 := g1.trans (hb2.mono g1.size); clear tok)
          | (go_at_call 34; refine (iTermValid_any k n ks A c _ (by omega) (((hr.alloc _).alloc _).alloc _)).mono ?_; rw [hv'.out]; rintro e w1 ⟨rfl, hb1⟩; have tok := trivial; have hX : Blk w1 w.heap.size #[.int .i64 k, .int .i64 n, .slice A ks.length c] := (((Blk.new_ _ 25 _ rfl).alloc _).alloc _).keep hb1; have hU : Blk w1 (w.heap.size + 1) #[.int .i64 ku, .int .i64 nu, .slice B us.length cb] := ((Blk.new_ _ 25 _ (by simp)).alloc _).keep hb1; obtain ⟨u0, u1, u2⟩ := hU.three; have hT : Blk w1 (w.heap.size + 1 + 1) #[.int .i64 0, .int .i64 0, .slice none 0 0] := (Blk.new_ _ 25 _ (by simp)).keep hb1; have g1 : Below w.heap.size w w1 := ((((Below.refl _ _).alloc (Nat.le_refl _) _).alloc (by simp) _).alloc (by simp; omega) _).trans (hb1.mono (by simp; omega))))
        refine bodyPost_ret (v := .tuple #[zeroV, .bool false]) (by simp [results, Try.results24, go_sem, d0, d1, d2, zeroV]) rfl ⟨rfl, ?_⟩
        exact ((g3.setCell (by simp; omega) _).setCell (by simp; omega) _).setCell (by simp; omega) _
      | some t =>
        obtain ⟨k2, n2, ks2⟩ := t
        have ho' := hide ho
        clear ho
        go_enter Try.func24, Try.ntmps24
        go_wp2_with (first
          | (go_at_call 70; refine (subst_any k n ks A c x ku nu us B cb _ hx hsu'.out (by omega) (((((hru.alloc _).alloc _).alloc _).below hb1).below hb2) (by omega) hs'.out (((((hr.alloc _).alloc _).alloc _).below hb1).below hb2)).mono ?_; rw [ho'.out]; intro e w3 hgo; obtain ⟨A3, c3, rfl, hl3, hf3, hb3⟩ := gotO_some hgo; clear hgo d0 d1 d2 e0 e1 e2; replace hT := hT.keep hb3; obtain ⟨d0, d1, d2⟩ := hT.three; have e0 := hT.frozen 0; have e1 := hT.frozen 1; have e2 := hT.frozen 2; have g3 := g2.trans (hb3.mono g2.size))
          | (go_at_call 69; refine (within_any _ _ _ _).mono ?_; rintro e w9 ⟨rfl, rfl⟩)
          | (go_at_call 34; have _t := tok; refine (iTermValid_any ku nu us B cb _ (by omega) ((((hru.alloc _).alloc _).alloc _).below hb1)).mono ?_; rw [hvu'.out]; rintro e w2 ⟨rfl, hb2⟩; have lT1 := hT.lt; replace hT := hT.keep hb2; replace hU := hU.keep hb2; replace hX := hX.keep hb2; clear u0 u1 u2; obtain ⟨u0, u1, u2⟩ := hU.three; obtain ⟨x0, x1, x2⟩ := hX.three; obtain ⟨d0, d1, d2⟩ := hT.three; have e0 := hT.frozen 0; have e1 := hT.frozen 1; have e2 := hT.frozen 2; have g2 := g1.trans (hb2.mono g1.size); have s2 := hb2.size; clear tok)
          | (go_at_call 34; refine (iTermValid_any k n ks A c _ (by omega) (((hr.alloc _).alloc _).alloc _)).mono ?_; rw [hv'.out]; rintro e w1 ⟨rfl, hb1⟩; have tok := trivial; have hX : Blk w1 w.heap.size #[.int .i64 k, .int .i64 n, .slice A ks.length c] := (((Blk.new_ _ 25 _ rfl).alloc _).alloc _).keep hb1; have hU : Blk w1 (w.heap.size + 1) #[.int .i64 ku, .int .i64 nu, .slice B us.length cb] := ((Blk.new_ _ 25 _ (by simp)).alloc _).keep hb1; obtain ⟨u0, u1, u2⟩ := hU.three; have hT : Blk w1 (w.heap.size + 1 + 1) #[.int .i64 0, .int .i64 0, .slice none 0 0] := (Blk.new_ _ 25 _ (by simp)).keep hb1; have g1 : Below w.heap.size w w1 := ((((Below.refl _ _).alloc (Nat.le_refl _) _).alloc (by simp) _).alloc (by simp; omega) _).trans (hb1.mono (by simp; omega))))
        refine bodyPost_ret (v := .tuple #[.agg #[.int .i64 k2, .int .i64 n2, .slice A3 ks2.length c3], .bool true]) (by simp [results, Try.results24, go_sem, d0, d1, d2]) rfl ⟨A3, c3, rfl, hl3, ?_, ?_⟩
        · exact (((hf3.setCell (by simp; omega) _).setCell (by simp; omega) _).setCell (by simp; omega) _).mono (by omega)
        · exact ((g3.setCell (by simp; omega) _).setCell (by simp; omega) _).setCell (by simp; omega) _
set_option maxHeartbeats 4000000 in
set_option maxRecDepth 100000 in
theorem instantiate_any (k n : Int) (ks : List Tm) (A : Option Addr) (c : Nat) (ku nu : Int) (us : List Tm) (B : Option Addr) (cb : Nat) (w : World) (hM : sizes ks ≤ 1048576) (hMu : sizes us ≤ 1048576) (hr : Rd w A 0 ks) (hru : Rd w B 0 us) :
    Calls Try.prog 20 #[.agg #[.int .i64 k, .int .i64 n, .slice A ks.length c], .agg #[.int .i64 ku, .int .i64 nu, .slice B us.length cb]] w (GotO w (substTI 0 (.mk ku nu us) (.mk k n ks))) := by
  have hs := hide (fun w hr hru => substTerm_any k n ks A c 0 ku nu us B cb w (by omega) hM hMu hr hru)
  cases ho : substTI 0 (.mk ku nu us) (.mk k n ks) with
  | none =>
    have ho' := hide ho
    clear ho
    go_enter Try.func20, Try.ntmps20
    go_wp2_with (go_at_call 24; refine (hs.out _ (((hr.alloc _).alloc _).alloc _) (((hru.alloc _).alloc _).alloc _)).mono ?_; rw [ho'.out]; intro e w3 hgo; obtain ⟨rfl, hb3⟩ := gotO_none hgo; clear hgo; have hT : Blk w3 (w.heap.size + 1 + 1) #[.int .i64 0, .int .i64 0, .slice none 0 0] := (Blk.new_ _ 25 _ (by simp)).keep hb3; obtain ⟨d0, d1, d2⟩ := hT.three; have e0 := hT.frozen 0; have e1 := hT.frozen 1; have e2 := hT.frozen 2; have g3 : Below w.heap.size w w3 := ((((Below.refl _ _).alloc (Nat.le_refl _) _).alloc (by simp) _).alloc (by simp; omega) _).trans (hb3.mono (by simp; omega)))
    refine bodyPost_ret (v := .tuple #[zeroV, .bool false]) (by simp [results, Try.results20, go_sem, d0, d1, d2, zeroV]) rfl ⟨rfl, ?_⟩
    exact ((g3.setCell (by simp; omega) _).setCell (by simp; omega) _).setCell (by simp; omega) _
  | some t =>
    obtain ⟨k2, n2, ks2⟩ := t
    have ho' := hide ho
    clear ho
    go_enter Try.func20, Try.ntmps20
    go_wp2_with (go_at_call 24; refine (hs.out _ (((hr.alloc _).alloc _).alloc _) (((hru.alloc _).alloc _).alloc _)).mono ?_; rw [ho'.out]; intro e w3 hgo; obtain ⟨A3, c3, rfl, hl3, hf3, hb3⟩ := gotO_some hgo; clear hgo; have hT : Blk w3 (w.heap.size + 1 + 1) #[.int .i64 0, .int .i64 0, .slice none 0 0] := (Blk.new_ _ 25 _ (by simp)).keep hb3; obtain ⟨d0, d1, d2⟩ := hT.three; have e0 := hT.frozen 0; have e1 := hT.frozen 1; have e2 := hT.frozen 2; have g3 : Below w.heap.size w w3 := ((((Below.refl _ _).alloc (Nat.le_refl _) _).alloc (by simp) _).alloc (by simp; omega) _).trans (hb3.mono (by simp; omega)))
    refine bodyPost_ret (v := .tuple #[.agg #[.int .i64 k2, .int .i64 n2, .slice A3 ks2.length c3], .bool true]) (by simp [results, Try.results20, go_sem, d0, d1, d2]) rfl ⟨A3, c3, rfl, hl3, ?_, ?_⟩
    · exact (((hf3.setCell (by simp) _).setCell (by simp) _).setCell (by simp) _).mono (by simp; omega)
    · exact ((g3.setCell (by simp; omega) _).setCell (by simp; omega) _).setCell (by simp; omega) _
end Go.Proofs.Ytodkenpmhhbppaa
