/-
  Contracts of the functions that the law reaches, and plain lemmas. No condition.
-/
import Derived.Test.YtodkenpmhhbppaaK3
import Derived.Test.YtodkenpmhhbppaaK5
import Derived.Test.YtodkenpmhhbppaaK6
namespace Go.Proofs.Ytodkenpmhhbppaa
set_option linter.unusedSimpArgs false
set_option linter.unusedVariables false
open Go.RowKit
theorem chg_size {f : Int → Int → Tm} {M : Nat} (hM : 1 ≤ M) (hf : ∀ n d, (f n d).size ≤ M) : (∀ t d, (chg f d t).size ≤ t.size * M) ∧ (∀ ts k d i, sizes (chgs f k d i ts) ≤ sizes ts * M) := by
  refine Tm.ind2 (fun k n ks ih d => ?_) (fun k d i => by simp [chgs, sizes]) (fun t ts h1 h2 k d i => ?_)
  · rw [chg, Tm.size, Nat.add_mul, Nat.one_mul]
    split
    · have := hf n d; omega
    · rw [Tm.size]; have := ih k d 0; omega
  · rw [chgs, sizes, sizes, Nat.add_mul]
    have := h1 (d + under k i); have := h2 k d (i + 1); omega
theorem shF_size (by_ cut n d : Int) : (shF by_ cut n d).size ≤ 1 := by simp [shF, Tm.size, sizes]
/-- a term handed back in new memory, or a failure -/
def GotO (w : World) (o : Option Tm) (e : Ending) (w' : World) : Prop :=
  match o with
  | none => e = .returned (.tuple #[zeroV, .bool false]) ∧ Below w.heap.size w w'
  | some t => ∃ A c, e = .returned (.tuple #[.agg #[.int .i64 t.k, .int .i64 t.n, .slice A t.ks.length c], .bool true]) ∧ t.ks.length ≤ 9223372036854775807 ∧ Fresh w.heap.size w' A t.ks ∧ Below w.heap.size w w'
/-- what shift answers -/
def shiftI (by_ cut : Int) (t : Tm) : Option Tm := if chgOk (shOk by_ cut) 0 t = true then (if validT (chg (shF by_ cut) 0 t) = true then some (chg (shF by_ cut) 0 t) else none) else none
set_option maxHeartbeats 2000000 in
set_option maxRecDepth 100000 in
theorem shift_any (k n : Int) (ks : List Tm) (A : Option Addr) (c : Nat) (by_ cut : Int) (w : World) (hby : -1000 ≤ by_ ∧ by_ ≤ 1000) (hcut : -1000 ≤ cut ∧ cut ≤ 1000) (hM : sizes ks ≤ 1000000000) (hs : shape 30 (.mk k n ks) = true) (hr : Rd w A 0 ks) :
    Calls Try.prog 92 #[(.agg #[.int .i64 k, .int .i64 n, .slice A ks.length c]), .int .i64 by_, .int .i64 cut] w (GotO w (shiftI by_ cut (.mk k n ks))) := by
  have hrp : RdP (· ≠ w.heap.size + 4) w A 0 ks := hr.rdp.mono (fun b hb => by have hb : b < w.heap.size := hb; show b ≠ _; omega)
  obtain ⟨k2, n2, ks2, hct⟩ := tm_eta (chg (shF by_ cut) 0 (.mk k n ks))
  have hsz2 : sizes ks2 ≤ 1000000001 := by
    have := (chg_size (Nat.le_refl 1) (shF_size by_ cut)).1 (.mk k n ks) 0
    rw [hct, Tm.size, Tm.size] at this
    omega
  cases hok : chgOk (shOk by_ cut) 0 (.mk k n ks) with
  | false =>
    have hz : shiftI by_ cut (.mk k n ks) = none := by rw [shiftI, hok]; rfl
    rw [hz]
    clear hz
    go_enter Try.func92, Try.ntmps92
    go_wp2_with (go_at_call 102; refine (changed_any (shift1_ok (bc := w.heap.size + 2) (bb := w.heap.size + 1) (g := w.heap.size + 4) hby hcut (((Blk.new_ _ 3 _ (by simp)).alloc _).alloc _) ((((Blk.new_ _ 3 _ (by simp)).alloc _).alloc _).alloc _) (by omega) (by omega)) (run_enter Try.func137 (by kernel_rfl) (by kernel_rfl)) (sizes ks + 1) k n ks A c 0 30 _ true (by omega) hs (by omega) (by omega) (by omega) (World.grownBy.refl _ _) (Blk.new_ _ 4 _ (by simp)) (((((hrp.alloc _).alloc _).alloc _).alloc _).alloc _)).mono ?_; rw [hct, hok]; intro e w6 hpost; obtain ⟨A6, c6, rfl, hl6, hf6, hG6, hg6⟩ := gotG_mk hpost; clear hpost; have hT6 : Blk w6 (w.heap.size + 1 + 1 + 1) #[.int .i64 0, .int .i64 0, .slice none 0 0] := ((Blk.new_ _ 25 _ (by simp)).alloc _).grown hg6 (by simp); have f0 := hG6.at_ (i := 0) rfl; obtain ⟨d0, d1, d2⟩ := hT6.three; have e0 := hT6.frozen 0; have e1 := hT6.frozen 1; have e2 := hT6.frozen 2; have lT := hT6.lt; have lG := hG6.lt; have hb6 : Below w.heap.size w w6 := ((((((Below.refl _ _).alloc (Nat.le_refl _) _).alloc (by simp) _).alloc (by simp; omega) _).alloc (by simp; omega) _).alloc (by simp; omega) _).grown hg6 (by simp; omega) (fun k e => by cases e; omega); replace hf6 := hf6.mono (B' := w.heap.size + 5) (by simp))
    have y := fun o => (((((hT6.set_ 0 (.int .i64 0)).set_ 1 (.int .i64 0)).set_ 2 (.slice none 0 0)).alloc o : Blk _ _ #[.int .i64 0, .int .i64 0, .slice none 0 0])).three
    refine bodyPost_ret (v := .tuple #[zeroV, .bool false]) (by simp [results, Try.results92, go_sem, y, zeroV]) rfl ⟨rfl, ?_⟩
    exact (((hb6.setCell (by simp; omega) _).setCell (by simp; omega) _).setCell (by simp; omega) _).alloc (by simp [World.setCell]; omega) _
  | true =>
    cases hv : validT (.mk k2 n2 ks2) with
    | false =>
      have hz : shiftI by_ cut (.mk k n ks) = none := by rw [shiftI, hok, if_pos rfl, hct, hv]; rfl
      rw [hz]
      clear hz
      go_enter Try.func92, Try.ntmps92
      go_wp2_with (first | (go_at_call 102; refine (changed_any (shift1_ok (bc := w.heap.size + 2) (bb := w.heap.size + 1) (g := w.heap.size + 4) hby hcut (((Blk.new_ _ 3 _ (by simp)).alloc _).alloc _) ((((Blk.new_ _ 3 _ (by simp)).alloc _).alloc _).alloc _) (by omega) (by omega)) (run_enter Try.func137 (by kernel_rfl) (by kernel_rfl)) (sizes ks + 1) k n ks A c 0 30 _ true (by omega) hs (by omega) (by omega) (by omega) (World.grownBy.refl _ _) (Blk.new_ _ 4 _ (by simp)) (((((hrp.alloc _).alloc _).alloc _).alloc _).alloc _)).mono ?_; rw [hct, hok]; intro e w6 hpost; obtain ⟨A6, c6, rfl, hl6, hf6, hG6, hg6⟩ := gotG_mk hpost; clear hpost; have hT6 : Blk w6 (w.heap.size + 1 + 1 + 1) #[.int .i64 0, .int .i64 0, .slice none 0 0] := ((Blk.new_ _ 25 _ (by simp)).alloc _).grown hg6 (by simp); have f0 := hG6.at_ (i := 0) rfl; obtain ⟨d0, d1, d2⟩ := hT6.three; have e0 := hT6.frozen 0; have e1 := hT6.frozen 1; have e2 := hT6.frozen 2; have lT := hT6.lt; have lG := hG6.lt; have hb6 : Below w.heap.size w w6 := ((((((Below.refl _ _).alloc (Nat.le_refl _) _).alloc (by simp) _).alloc (by simp; omega) _).alloc (by simp; omega) _).alloc (by simp; omega) _).grown hg6 (by simp; omega) (fun k e => by cases e; omega); replace hf6 := hf6.mono (B' := w.heap.size + 5) (by simp)) | (go_at_call 82; refine (valid_no k2 n2 ks2 A6 c6 _ (by omega) (hf6.rd.alloc _) hv).mono ?_; rintro e w8 ⟨rfl, hb8⟩; have hT8 : Blk w8 (w.heap.size + 1 + 1 + 1) #[.int .i64 0, .int .i64 0, .slice none 0 0] := (hT6.alloc _).keep hb8; obtain ⟨x0, x1, x2⟩ := hT8.three; have e80 := hT8.frozen 0; have e81 := hT8.frozen 1; have e82 := hT8.frozen 2; replace hb8 : Below w.heap.size w w8 := (hb6.alloc hb6.size _).trans (hb8.mono (by have := hb6.size; simp; omega)); have hzz : zeroV = .agg #[.int .i64 0, .int .i64 0, .slice none 0 0] := rfl))
      refine bodyPost_ret (v := .tuple #[zeroV, .bool false]) (by simp [results, Try.results92, go_sem, x0, x1, x2, zeroV]) rfl ⟨rfl, ?_⟩
      exact ((hb8.setCell (by simp; omega) _).setCell (by simp; omega) _).setCell (by simp; omega) _
    | true =>
      have hz : shiftI by_ cut (.mk k n ks) = some (.mk k2 n2 ks2) := by rw [shiftI, hok, if_pos rfl, hct, hv]; rfl
      rw [hz]
      clear hz
      go_enter Try.func92, Try.ntmps92
      go_wp2_with (first | (go_at_call 102; refine (changed_any (shift1_ok (bc := w.heap.size + 2) (bb := w.heap.size + 1) (g := w.heap.size + 4) hby hcut (((Blk.new_ _ 3 _ (by simp)).alloc _).alloc _) ((((Blk.new_ _ 3 _ (by simp)).alloc _).alloc _).alloc _) (by omega) (by omega)) (run_enter Try.func137 (by kernel_rfl) (by kernel_rfl)) (sizes ks + 1) k n ks A c 0 30 _ true (by omega) hs (by omega) (by omega) (by omega) (World.grownBy.refl _ _) (Blk.new_ _ 4 _ (by simp)) (((((hrp.alloc _).alloc _).alloc _).alloc _).alloc _)).mono ?_; rw [hct, hok]; intro e w6 hpost; obtain ⟨A6, c6, rfl, hl6, hf6, hG6, hg6⟩ := gotG_mk hpost; clear hpost; have hT6 : Blk w6 (w.heap.size + 1 + 1 + 1) #[.int .i64 0, .int .i64 0, .slice none 0 0] := ((Blk.new_ _ 25 _ (by simp)).alloc _).grown hg6 (by simp); have f0 := hG6.at_ (i := 0) rfl; obtain ⟨d0, d1, d2⟩ := hT6.three; have e0 := hT6.frozen 0; have e1 := hT6.frozen 1; have e2 := hT6.frozen 2; have lT := hT6.lt; have lG := hG6.lt; have hb6 : Below w.heap.size w w6 := ((((((Below.refl _ _).alloc (Nat.le_refl _) _).alloc (by simp) _).alloc (by simp; omega) _).alloc (by simp; omega) _).alloc (by simp; omega) _).grown hg6 (by simp; omega) (fun k e => by cases e; omega); replace hf6 := hf6.mono (B' := w.heap.size + 5) (by simp)) | (go_at_call 82; refine (valid_yes k2 n2 ks2 A6 c6 _ (by omega) (hf6.rd.alloc _) hv).mono ?_; rintro e w8 ⟨rfl, hb8⟩; have hf8 := (hf6.alloc (.cells #[.int .i64 k2, .int .i64 n2, .slice A6 ks2.length c6] 25)).below hb8; have hT8 : Blk w8 (w.heap.size + 1 + 1 + 1) #[.int .i64 0, .int .i64 0, .slice none 0 0] := (hT6.alloc _).keep hb8; obtain ⟨x0, x1, x2⟩ := hT8.three; have e80 := hT8.frozen 0; have e81 := hT8.frozen 1; have e82 := hT8.frozen 2; replace hb8 : Below w.heap.size w w8 := (hb6.alloc hb6.size _).trans (hb8.mono (by have := hb6.size; simp; omega))))
      refine bodyPost_ret (v := .tuple #[.agg #[.int .i64 k2, .int .i64 n2, .slice A6 ks2.length c6], .bool true]) (by simp [results, Try.results92, go_sem, x0, x1, x2]) rfl ⟨A6, c6, rfl, hl6, ?_, ?_⟩
      · exact (((hf8.setCell (by simp) _).setCell (by simp) _).setCell (by simp) _).mono (by omega)
      · exact ((hb8.setCell (by simp; omega) _).setCell (by simp; omega) _).setCell (by simp; omega) _
open Go.RowKit
set_option maxHeartbeats 1000000 in
theorem sLeaf_any (k n : Int) (w : World) : Calls Try.prog 98 #[.int .i64 k, .int .i64 n] w fun e w' => e = .returned (.agg #[.int .i64 k, .int .i64 n, .slice none 0 0]) ∧ Below w.heap.size w w' := by
  go_enter Try.func98, Try.ntmps98
  go_wp2_with fail
  refine bodyPost_ret (v := .agg #[.int .i64 k, .int .i64 n, .slice none 0 0]) (by simp [results, Try.results98, go_sem]) rfl ⟨rfl, ?_⟩
  exact (Below.refl _ _).alloc (Nat.le_refl _) _
mutual
def flS (args : List Tm) : Int → Tm → Tm
  | d, .mk k n ks => if k = 1 ∧ d ≤ n then (if n < d + args.length then shS d 0 (args.getD (n - d).toNat default) else .mk 1 (n - args.length) []) else .mk k n (flSL args k d 0 ks)
def flSL (args : List Tm) : Int → Int → Nat → List Tm → List Tm | _, _, _, [] => [] | k, d, i, t :: ts => flS args (d + under k i) t :: flSL args k d (i + 1) ts
end
theorem flSL_append (args : List Tm) (k d : Int) (us : List Tm) : ∀ (ts : List Tm) (i : Nat), flSL args k d i (ts ++ us) = flSL args k d i ts ++ flSL args k d (i + ts.length) us
  | [], i => by simp [flSL]
  | t :: ts, i => by rw [List.cons_append, flSL, flSL, flSL_append args k d us ts (i + 1), List.cons_append, List.length_cons, show i + 1 + ts.length = i + (ts.length + 1) from by omega]
theorem flSL_length (args : List Tm) (k d : Int) : ∀ (ts : List Tm) (i : Nat), (flSL args k d i ts).length = ts.length
  | [], i => by simp [flSL]
  | t :: ts, i => by rw [flSL, List.length_cons, List.length_cons, flSL_length args k d ts (i + 1)]
theorem flSL_take (args : List Tm) (k d : Int) {ks : List Tm} {j : Nat} (hj : j < ks.length) : flSL args k d 0 (ks.take (j + 1)) = flSL args k d 0 (ks.take j) ++ [flS args (d + under k j) ks[j]] := by
  rw [List.take_succ_eq_append_getElem hj, flSL_append, List.length_take, Nat.min_eq_left (Nat.le_of_lt hj), Nat.zero_add, flSL, flSL]
set_option maxHeartbeats 2000000 in
set_option maxRecDepth 100000 in
theorem sFill_any (args : List Tm) (hal : args.length ≤ 1000) (has : ∀ t, t ∈ args → shape 30 t = true) (haz : sizes args ≤ 1000000000) (N : Nat) : ∀ (k n : Int) (ks : List Tm) (A : Option Addr) (c : Nat) (B : Option Addr) (cb : Nat) (cut : Int) (q : Nat) (w : World), sizes ks < N → sizes ks ≤ 1000000000 → shape q (.mk k n ks) = true → 0 ≤ cut → cut + q ≤ 900 → Rd w A 0 ks → Rd w B 0 args →
    ∀ (k2 n2 : Int) (ks2 : List Tm), flS args cut (.mk k n ks) = .mk k2 n2 ks2 →
    Calls Try.prog 63 #[.agg #[.int .i64 k, .int .i64 n, .slice A ks.length c], .slice B args.length cb, .int .i64 cut] w (GotT w k2 n2 ks2) := by
  induction N with
  | zero => intro k n ks A c B cb cut q w hN; exact absurd hN (Nat.not_lt_zero _)
  | succ N ih =>
  intro k n ks A c B cb cut q w hN hM hsh hc0 hcq hr hrB kr nr ksr hfl
  have hlen := length_le_sizes ks
  have has' := hide has
  clear has
  obtain ⟨q, rfl⟩ : ∃ q', q = q' + 1 := by cases q with | zero => simp [shape] at hsh | succ q => exact ⟨q, rfl⟩
  obtain ⟨ha, hm1, hm2, hkids⟩ := (shape_split q k n ks).1 hsh
  rw [flS] at hfl
  by_cases hk : k = 1
  · subst hk
    have hks : ks = [] := by
      have h0 : arity 1 = 0 := rfl
      rw [h0] at ha
      exact List.eq_nil_of_length_eq_zero (by omega)
    subst hks
    have h20 : mostN 1 = 20 := rfl
    rw [h20] at hm2
    clear hkids hsh ha h20
    by_cases hcn : cut ≤ n
    · rw [if_pos ⟨rfl, hcn⟩] at hfl
      have q0 : decide (cut ≤ n) = true := by simpa using hcn
      by_cases hlt0 : n < cut + args.length
      · rw [if_pos hlt0] at hfl
        have q2 : decide (n < cut + (args.length : Int)) = true := by simpa using hlt0
        obtain ⟨j, hj⟩ : ∃ j : Nat, n = cut + (j : Int) := ⟨(n - cut).toNat, by omega⟩
        have hsub : n - cut = (j : Int) := by omega
        have hlt : j < args.length := by omega
        obtain ⟨b0, off, k', n', ks', A', c', rfl, hkj, hc1, hc2, hc3, hl', hr'⟩ := hrB.at_ hlt
        have hbl := World.block_lt_of_cell? _ _ hc1
        have hs1 := has'.out _ (List.getElem_mem hlt)
        have hz1 := sizes_le (List.getElem_mem hlt)
        have hgd : args.getD (n - cut).toNat default = .mk k' n' ks' := by rw [hsub]; simp [List.getD, List.getElem?_eq_getElem hlt, hkj]
        rw [hgd, shS] at hfl
        injection hfl with h1 h2 h3
        subst h1 h2 h3
        rw [hkj] at hs1 hz1
        simp only [Tm.size] at hz1
        have H3 := hide hkj
        have H4 := hide hs1
        have H5 := hide hlt0
        have H6 := hide hcn
        have H7 := hide hj
        clear hkj hs1 hgd hlt0 hcn hj
        obtain ⟨n2, hn2⟩ : ∃ n2, (if k' = 1 ∧ 0 ≤ n' then n' + cut else n') = n2 := ⟨_, rfl⟩
        have hn2' := hide hn2
        rw [hn2]
        clear hn2
        go_enter Try.func63, Try.ntmps63
        go_wp2_with (go_at_call 108; refine (sShift_any _ k' n' ks' A' c' cut 0 30 _ (Nat.lt_succ_self _) (by omega) H4.out (by have := H7.out; omega) (by omega) (by omega) ((hr'.alloc _).alloc _)).mono ?_; rw [hn2'.out]; rintro e w1 ⟨A1, c1, rfl, hl1, hf1, hb1⟩; have hT : Blk w1 (w.heap.size + 1) #[.int .i64 0, .int .i64 0, .slice none 0 0] := (Blk.new_ _ 25 _ (by simp)).keep hb1; obtain ⟨d0, d1, d2⟩ := hT.three; have e0 := hT.frozen 0; have e1 := hT.frozen 1; have e2 := hT.frozen 2; replace hf1 : Fresh (w.heap.size + 2) w1 A1 (shSL cut k' 0 0 ks') := hf1.mono (by simp); replace hb1 : Below w.heap.size w w1 := (((Below.refl _ _).alloc (Nat.le_refl _) _).alloc (by simp) _).trans (hb1.mono (by simp; omega)))
        refine bodyPost_ret (v := .agg #[.int .i64 k', .int .i64 n2, .slice A1 (shSL cut k' 0 0 ks').length c1]) (by simp [results, Try.results63, go_sem, d0, d1, d2]) rfl ⟨A1, c1, by simp, hl1, ?_, ?_⟩
        · exact (((hf1.setCell (by simp) _).setCell (by simp) _).setCell (by simp) _).mono (by omega)
        · exact ((hb1.setCell (by simp) _).setCell (by simp) _).setCell (by simp) _
      · rw [if_neg hlt0] at hfl
        have q2 : decide (n < cut + (args.length : Int)) = false := by simpa using hlt0
        injection hfl with h1 h2 h3
        subst h1 h2 h3
        have H5 := hide hlt0
        have H6 := hide hcn
        clear hlt0 hcn
        go_enter Try.func63, Try.ntmps63
        go_wp2_with (go_at_call 98; refine (sLeaf_any _ _ _).mono ?_; rintro e w1 ⟨rfl, hb1⟩; have hT : Blk w1 (w.heap.size + 1) #[.int .i64 0, .int .i64 0, .slice none 0 0] := (Blk.new_ _ 25 _ (by simp)).keep hb1; obtain ⟨d0, d1, d2⟩ := hT.three; have e0 := hT.frozen 0; have e1 := hT.frozen 1; have e2 := hT.frozen 2; replace hb1 : Below w.heap.size w w1 := (((Below.refl _ _).alloc (Nat.le_refl _) _).alloc (by simp) _).trans (hb1.mono (by simp; omega)))
        refine bodyPost_ret (v := .agg #[.int .i64 1, .int .i64 (n - args.length), .slice none 0 0]) (by simp [results, Try.results63, go_sem, d0, d1, d2]) rfl ⟨none, 0, by simp, by simp, Fresh.nil, ?_⟩
        exact ((hb1.setCell (by simp) _).setCell (by simp) _).setCell (by simp) _
    · rw [if_neg (by rintro ⟨-, h⟩; exact hcn h)] at hfl
      injection hfl with h1 h2 h3
      subst h1 h2 h3
      have q0 : decide (cut ≤ n) = false := by simpa using hcn
      go_enter Try.func63, Try.ntmps63
      go_wp2_with fail
      go_loopw [9] (fun i wr => i = .int .i64 0 ∧ Blk wr (w.heap.size + 1 + 1) #[.int .i64 1, .int .i64 (n), .slice none 0 0] ∧ Blk wr (w.heap.size + 1) #[.int .i64 0, .int .i64 0, .slice none 0 0] ∧ Blk wr w.heap.size #[.int .i64 1, .int .i64 n, .slice A 0 c] ∧ Below w.heap.size w wr)
        (fun _ _ => 0)
      case atStart => exact ⟨rfl, Blk.new_ _ _ _ (by simp), (Blk.new_ _ _ _ (by simp)).alloc _, ((Blk.new_ _ _ _ rfl).alloc _).alloc _, (((Below.refl _ _).alloc (by simp) _).alloc (by simp) _).alloc (by simp; omega) _⟩
      case round =>
        obtain ⟨rfl, hB3, hB2, hB1, hb⟩ := hrel
        have b2 := hB1.at_ (i := 2) rfl
        have c0 : wr.cell? ⟨w.heap.size + 1 + 1, 0, none⟩ = some (.int .i64 1) := hB3.at_ rfl
        have c1 : wr.cell? ⟨w.heap.size + 1 + 1, 1, none⟩ = some (.int .i64 (n)) := hB3.at_ rfl
        have c2 : wr.cell? ⟨w.heap.size + 1 + 1, 2, none⟩ = some (.slice none 0 0) := hB3.at_ rfl
        have d0 : wr.cell? ⟨w.heap.size + 1, 0, none⟩ = some (.int .i64 0) := hB2.at_ rfl
        have d1 : wr.cell? ⟨w.heap.size + 1, 1, none⟩ = some (.int .i64 0) := hB2.at_ rfl
        have d2 : wr.cell? ⟨w.heap.size + 1, 2, none⟩ = some (.slice none 0 0) := hB2.at_ rfl
        have e0 := hB2.frozen 0
        have e1 := hB2.frozen 1
        have e2 := hB2.frozen 2
        go_wp2_with fail
        refine bodyPost_ret (v := .agg #[.int .i64 1, .int .i64 (n), .slice none 0 0]) (by simp [results, Try.results63, go_sem, d0, d1, d2]) rfl ⟨none, 0, by simp [flSL], by simp [flSL], ?_, ?_⟩
        · simpa [flSL] using (Fresh.nil : Fresh w.heap.size _ none [])
        · exact ((hb.setCell (by simp) _).setCell (by simp) _).setCell (by simp) _
  · have hn : ¬ (k = 1 ∧ cut ≤ n) := by rintro ⟨h, -⟩; exact hk h
    rw [if_neg hn] at hfl
    injection hfl with h1 h2 h3
    subst h1 h2 h3
    have hkids' := hide hkids
    have hm2' := hide hm2
    clear hkids ha hsh hm2
    have q1 : (k == 1) = false := by simpa using hk
    clear hn hk
    go_enter Try.func63, Try.ntmps63
    go_wp2_with fail
    go_loopw [9] (fun i wr => ∃ (j : Nat) (v : Value), j ≤ ks.length ∧ i = .int .i64 j ∧ Part (w.heap.size + 3) wr v (flSL args k cut 0 (ks.take j)) ∧ Blk wr (w.heap.size + 1 + 1) #[.int .i64 k, .int .i64 (n), v] ∧ Blk wr (w.heap.size + 1) #[.int .i64 0, .int .i64 0, .slice none 0 0] ∧ Blk wr w.heap.size #[.int .i64 k, .int .i64 n, .slice A ks.length c] ∧ Below w.heap.size w wr)
      (fun i _ => ks.length - (intOf i).toNat)
    case atStart => exact ⟨0, _, Nat.zero_le _, rfl, Part.nil, Blk.new_ _ _ _ (by simp), (Blk.new_ _ _ _ (by simp)).alloc _, ((Blk.new_ _ _ _ rfl).alloc _).alloc _, (((Below.refl _ _).alloc (by simp) _).alloc (by simp) _).alloc (by simp; omega) _⟩
    case round =>
      obtain ⟨j, v, hj, rfl, hp, hB3, hB2, hB1, hb⟩ := hrel
      have c12 := hB1.at_ (i := 2) rfl
      by_cases hlt : j < ks.length
      · obtain ⟨b, off, k', n', ks', A', c', rfl, hkj, hc1, hc2, hc3, hl', hr'⟩ := (hr.below hb).at_ hlt
        have hsz := sizes_le (List.getElem_mem hlt)
        have hsk := hkids'.out _ (List.getElem_mem hlt)
        rw [hkj] at hsz hsk
        simp only [Tm.size] at hsz
        have H3 := hide hkj
        have H4 := hide hsk
        clear hkj hsk
        have hz := hB3.lt
        obtain ⟨k2, n2, ks2, hct⟩ : ∃ k2 n2 ks2, flS args (cut + under k j) (.mk k' n' ks') = .mk k2 n2 ks2 := tm_eta _
        have hct' := hide hct
        clear hct
        go_wp2_with fail
        have x2 := hB3.rule (i := 2) rfl
        have b0 := hB1.rule (i := 0) rfl
        have b2 := hB1.rule (i := 2) rfl
        have y0 := rule_of hc1
        have y1 := rule_of hc2
        have y2 := rule_of hc3
        have hun := under_le k j
        refine wp_region_firstY (fun w' => Below wr.heap.size wr w') [0, 1, 2, 3, 4, 5, 6, 7, 8, 9, 10, 11, 12, 13] [14, 15] [16, 17, 18] [_, _, _, _, _, _, _, _, _, _, _, _, _, _] [_, _] [_, _, _] (by kernel_rfl) (by kernel_rfl) rfl rfl rfl (fun _ _ d _ _ h => by cases d <;> exact h) (Below.refl _ _).drew ?_
        repeat (first | ((refine takeY_skip (a' := ?_) ?_ ?_ ?_); (rotate_left); (· (simp [Region.wanted, yielded]; done)); (· (simp only [List.getElem_toArray, List.getElem_cons_zero, List.getElem_cons_succ, Act.put, List.setIfInBounds_toArray, List.set_cons_zero, List.set_cons_succ]; exact rfl))) | ((refine takeY_step (v := ?_) (a' := ?_) ?_ ?_ ?_ ?_); (rotate_left 2); (· (simp [Region.wanted, yielded]; done)); (· (intro w' hS'; go_simp; try (with_reducible rfl))); (· (simp only [List.getElem_toArray, List.getElem_cons_zero, List.getElem_cons_succ, Act.put, List.setIfInBounds_toArray, List.set_cons_zero, List.set_cons_succ]; exact rfl))) | ((refine takeY_call (v := ?_) (a' := ?_) 109 ?_ ?_ ?_ ?_ ?_ ?_); (rotate_left 3); (· (simp [Region.wanted, yielded]; done)); (· (intro w' hS'; go_simp; try (with_reducible rfl))); (· (intro w' hS'; exact sUnder_any _ _ _)); (· (simp only [List.getElem_toArray, List.getElem_cons_zero, List.getElem_cons_succ, Act.put, List.setIfInBounds_toArray, List.set_cons_zero, List.set_cons_succ]; exact rfl))))
        refine takeY_nil (then_cons ?_)
        go_wp2_with (go_at_call 63; refine (ih k' n' ks' A' c' B cb (cut + under k j) q _ (by omega) (by omega) H4.out (by omega) (by omega) hr'.drew (hrB.below hb).drew k2 n2 ks2 hct'.out).mono ?_; rintro e w1 ⟨A1, c1, rfl, hl1, hf1, hb1⟩)
        have hx1 : Below wr.heap.size wr w1 := (Below.refl _ _).drew.trans hb1
        refine mid_intro hx1 (then_cons ?_)
        go_wp2_with fail
        refine mid_intro (hx1.alloc hx1.size _) (then_nil ?_)
        refine wpList_append_built (B := w.heap.size + 3) (m := j) hp.drew hb1 (by simp; omega) hf1 hl1 (by rw [flSL_length]; simp; omega) (by omega) rfl (.tmp 54) (.tmp 68) rfl rfl rfl ?_
        intro A2 c2 w2 hp2 hb2 hg2
        have q3 : Blk w2 (w.heap.size + 1 + 1) #[.int .i64 k, .int .i64 (n), v] := (hB3.below hx1 (by omega)).below hb2 (by omega)
        have q2 : Blk w2 (w.heap.size + 1) #[.int .i64 0, .int .i64 0, .slice none 0 0] := (hB2.below hx1 (by omega)).below hb2 (by omega)
        have q1' : Blk w2 w.heap.size #[.int .i64 k, .int .i64 n, .slice (some ⟨b, off, none⟩) ks.length c] := (hB1.below hx1 (by omega)).below hb2 (by omega)
        have c3 : w2.cell? ⟨w.heap.size + 1 + 1, 2, none⟩ = some v := q3.at_ rfl
        have z3 := q3.frozen 2
        have hbf : Below w.heap.size w w2 := (hb.trans (hx1.mono (by omega))).trans (hb2.mono (by omega))
        clear x2 y0 y1 y2 b0 b2
        go_wp2_with fail
        go_roundw
        case rel => exact ⟨j + 1, _, by omega, by go_num, by rw [flSL_take args k cut hlt, H3.out, hct'.out]; exact hp2.setCell (by simp) _, q3.set_ 2 _, q2.far (by simp) _, q1'.far (by simp; omega) _, hbf.setCell (by simp; omega) _⟩
        case measure => simp [intOf]; omega
      · have hjl : j = ks.length := by omega
        subst hjl
        rw [List.take_length] at hp
        obtain ⟨Ar, cr, rfl, hfr⟩ := hp.fresh
        have c0 : wr.cell? ⟨w.heap.size + 1 + 1, 0, none⟩ = some (.int .i64 k) := hB3.at_ rfl
        have c1 : wr.cell? ⟨w.heap.size + 1 + 1, 1, none⟩ = some (.int .i64 (n)) := hB3.at_ rfl
        have c2 : wr.cell? ⟨w.heap.size + 1 + 1, 2, none⟩ = some (.slice Ar (flSL args k cut 0 ks).length cr) := hB3.at_ rfl
        have d0 : wr.cell? ⟨w.heap.size + 1, 0, none⟩ = some (.int .i64 0) := hB2.at_ rfl
        have d1 : wr.cell? ⟨w.heap.size + 1, 1, none⟩ = some (.int .i64 0) := hB2.at_ rfl
        have d2 : wr.cell? ⟨w.heap.size + 1, 2, none⟩ = some (.slice none 0 0) := hB2.at_ rfl
        have e0 := hB2.frozen 0
        have e1 := hB2.frozen 1
        have e2 := hB2.frozen 2
        go_wp2_with fail
        refine bodyPost_ret (v := .agg #[.int .i64 k, .int .i64 (n), .slice Ar (flSL args k cut 0 ks).length cr]) (by simp [results, Try.results63, go_sem, d0, d1, d2]) rfl ⟨Ar, cr, rfl, by rw [flSL_length]; omega, ?_, ?_⟩
        · exact (((hfr.setCell (by simp) _).setCell (by simp) _).setCell (by simp) _).mono (by omega)
        · exact ((hb.setCell (by simp) _).setCell (by simp) _).setCell (by simp) _
open Go.RowKit
/-- a place in a string where a sign stands, as numbers -/
theorem at_byte {s : ByteArray} {i : Nat} {c : UInt8} {bs : List UInt8} (h : Has s i (c :: bs)) {z : Nat} (hz : c.toNat = z) : ∃ hi : i < s.size, (s[i]'hi).toNat = z := by
  obtain ⟨⟨hi, hc⟩, _⟩ := h.cons
  exact ⟨hi, by rw [hc, hz]⟩
theorem ParsedT.cast {w : World} {k n : Int} {ks : List Tm} {j j' : Nat} {e : Ending} {w' : World} (h : ParsedT w k n ks j e w') (hj : j = j') : ParsedT w k n ks j' e w' := hj ▸ h
section
variable (s : ByteArray) (i : Nat) (D : Int) (w : World)
set_option maxHeartbeats 4000000 in
set_option maxRecDepth 100000 in
theorem parse_var (n : Int) (c : UInt8) (h : 0 ≤ n ∧ n ≤ 9 ∧ (c.toNat : Int) = 48 + n) (hs : s.size ≤ 1000000) (hh : Has s i [35, c]) (hn : Nd s (i + 2)) (hD : 1 ≤ D) (hD2 : D ≤ 1000) :
    Calls Try.prog 142 #[.string s, .int .i64 i, .int .i64 D] w (ParsedT w 1 n [] (i + 2)) := by
  obtain ⟨hi, he⟩ := at_byte hh (z := 35) rfl
  obtain ⟨_, hh2⟩ := hh.cons
  obtain ⟨hi2, he2⟩ := at_byte hh2 (z := c.toNat) rfl
  have hnum := hide (fun w => l1Number_one s (i + 1) c.toNat 2 w (.inr rfl) hs hi2 he2 (by omega) (by omega) (fun _ => hn))
  have hcn : Hid ((c.toNat : Int) - 48 = n) := hide (by omega)
  clear hh hh2 he2 hn
  go_enter Try.func142, Try.ntmps142
  go_wp2_with (first
    | (go_at_call 98; refine (sLeaf_any _ _ _).mono ?_; rintro e w1 ⟨rfl, hb1⟩; have hZ := (Blk.new_ w 25 #[.int .i64 0, .int .i64 0, .slice none 0 0] rfl).keep hb1; have d0 := hZ.at_ (i := 0) rfl; have d1 := hZ.at_ (i := 1) rfl; have d2 := hZ.at_ (i := 2) rfl; have e0 := hZ.frozen 0; have e1 := hZ.frozen 1; have e2 := hZ.frozen 2; have g1 : Below w.heap.size w w1 := ((Below.refl _ _).alloc (Nat.le_refl _) _).trans (hb1.mono (by simp)))
    | (go_at_call 152; refine (hnum.out _).mono ?_; rintro e w9 ⟨rfl, rfl⟩; rw [hcn.out]))
  refine bodyPost_ret (v := .tuple #[.agg #[.int .i64 1, .int .i64 n, .slice none 0 0], .int .i64 ((i + 2 : Nat) : Int)]) (by simp [results, Try.results142, go_sem, d0, d1, d2]; omega) rfl ⟨i + 2, none, 0, rfl, rfl, by simp, Fresh.nil, ((g1.setCell (by simp) _).setCell (by simp) _).setCell (by simp) _⟩
set_option maxHeartbeats 4000000 in
set_option maxRecDepth 100000 in
theorem parse_sort (n : Int) (c : UInt8) (h : 0 ≤ n ∧ n ≤ 3 ∧ (c.toNat : Int) = 48 + n) (hs : s.size ≤ 1000000) (hh : Has s i [42, c]) (hn : Nd s (i + 2)) (hD : 1 ≤ D) (hD2 : D ≤ 1000) :
    Calls Try.prog 142 #[.string s, .int .i64 i, .int .i64 D] w (ParsedT w 2 n [] (i + 2)) := by
  obtain ⟨hi, he⟩ := at_byte hh (z := 42) rfl
  obtain ⟨_, hh2⟩ := hh.cons
  obtain ⟨hi2, he2⟩ := at_byte hh2 (z := c.toNat) rfl
  have hnum := hide (fun w => l1Number_one s (i + 1) c.toNat 1 w (.inl rfl) hs hi2 he2 (by omega) (by omega) (fun h => absurd h (by decide)))
  have hcn : Hid ((c.toNat : Int) - 48 = n) := hide (by omega)
  clear hh hh2 he2 hn
  go_enter Try.func142, Try.ntmps142
  go_wp2_with (first
    | (go_at_call 98; refine (sLeaf_any _ _ _).mono ?_; rintro e w1 ⟨rfl, hb1⟩; have hZ := (Blk.new_ w 25 #[.int .i64 0, .int .i64 0, .slice none 0 0] rfl).keep hb1; have d0 := hZ.at_ (i := 0) rfl; have d1 := hZ.at_ (i := 1) rfl; have d2 := hZ.at_ (i := 2) rfl; have e0 := hZ.frozen 0; have e1 := hZ.frozen 1; have e2 := hZ.frozen 2; have g1 : Below w.heap.size w w1 := ((Below.refl _ _).alloc (Nat.le_refl _) _).trans (hb1.mono (by simp)))
    | (go_at_call 152; refine (hnum.out _).mono ?_; rintro e w9 ⟨rfl, rfl⟩; rw [hcn.out]))
  refine bodyPost_ret (v := .tuple #[.agg #[.int .i64 2, .int .i64 n, .slice none 0 0], .int .i64 ((i + 2 : Nat) : Int)]) (by simp [results, Try.results142, go_sem, d0, d1, d2]; omega) rfl ⟨i + 2, none, 0, rfl, rfl, by simp, Fresh.nil, ((g1.setCell (by simp) _).setCell (by simp) _).setCell (by simp) _⟩
set_option maxHeartbeats 4000000 in
set_option maxRecDepth 100000 in
theorem parse_nat (hs : s.size ≤ 1000000) (hh : Has s i [78]) (hD : 1 ≤ D) (hD2 : D ≤ 1000) :
    Calls Try.prog 142 #[.string s, .int .i64 i, .int .i64 D] w (ParsedT w 6 0 [] (i + 1)) := by
  obtain ⟨hi, he⟩ := at_byte hh (z := 78) rfl
  clear hh
  go_enter Try.func142, Try.ntmps142
  go_wp2_with (go_at_call 98; refine (sLeaf_any _ _ _).mono ?_; rintro e w1 ⟨rfl, hb1⟩; have hZ := (Blk.new_ w 25 #[.int .i64 0, .int .i64 0, .slice none 0 0] rfl).keep hb1; have d0 := hZ.at_ (i := 0) rfl; have d1 := hZ.at_ (i := 1) rfl; have d2 := hZ.at_ (i := 2) rfl; have e0 := hZ.frozen 0; have e1 := hZ.frozen 1; have e2 := hZ.frozen 2; have g1 : Below w.heap.size w w1 := ((Below.refl _ _).alloc (Nat.le_refl _) _).trans (hb1.mono (by simp)))
  refine bodyPost_ret (v := .tuple #[.agg #[.int .i64 6, .int .i64 0, .slice none 0 0], .int .i64 ((i + 1 : Nat) : Int)]) (by simp [results, Try.results142, go_sem, d0, d1, d2]) rfl ⟨i + 1, none, 0, rfl, rfl, by simp, Fresh.nil, ((g1.setCell (by simp) _).setCell (by simp) _).setCell (by simp) _⟩
set_option maxHeartbeats 4000000 in
set_option maxRecDepth 100000 in
theorem parse_zero (hs : s.size ≤ 1000000) (hh : Has s i [48]) (hD : 1 ≤ D) (hD2 : D ≤ 1000) :
    Calls Try.prog 142 #[.string s, .int .i64 i, .int .i64 D] w (ParsedT w 7 0 [] (i + 1)) := by
  obtain ⟨hi, he⟩ := at_byte hh (z := 48) rfl
  clear hh
  go_enter Try.func142, Try.ntmps142
  go_wp2_with (go_at_call 98; refine (sLeaf_any _ _ _).mono ?_; rintro e w1 ⟨rfl, hb1⟩; have hZ := (Blk.new_ w 25 #[.int .i64 0, .int .i64 0, .slice none 0 0] rfl).keep hb1; have d0 := hZ.at_ (i := 0) rfl; have d1 := hZ.at_ (i := 1) rfl; have d2 := hZ.at_ (i := 2) rfl; have e0 := hZ.frozen 0; have e1 := hZ.frozen 1; have e2 := hZ.frozen 2; have g1 : Below w.heap.size w w1 := ((Below.refl _ _).alloc (Nat.le_refl _) _).trans (hb1.mono (by simp)))
  refine bodyPost_ret (v := .tuple #[.agg #[.int .i64 7, .int .i64 0, .slice none 0 0], .int .i64 ((i + 1 : Nat) : Int)]) (by simp [results, Try.results142, go_sem, d0, d1, d2]) rfl ⟨i + 1, none, 0, rfl, rfl, by simp, Fresh.nil, ((g1.setCell (by simp) _).setCell (by simp) _).setCell (by simp) _⟩
set_option maxHeartbeats 4000000 in
set_option maxRecDepth 100000 in
theorem parse_pre (z j : Nat) (k : Int) (ks : List Tm) (hz : z = 43 ∨ z = 33 ∨ z = 94 ∨ z = 95) (hs : s.size ≤ 1000000) (hi : i < s.size) (he : (s[i]'hi).toNat = z) (hD : 1 ≤ D) (hD2 : D ≤ 1000) (hl : ks.length ≤ 9223372036854775807)
    (hp : ∀ w (I D' : Int), I = (i : Int) → D' = D → Calls Try.prog 153 #[.string s, .int .i64 I, .int .i64 D'] w (ParsedT w k 0 ks j)) :
    Calls Try.prog 142 #[.string s, .int .i64 i, .int .i64 D] w (ParsedT w k 0 ks j) := by
  have hp' := hide hp
  clear hp
  rcases hz with rfl | rfl | rfl | rfl
  all_goals
    go_enter Try.func142, Try.ntmps142
    go_wp2_with (go_at_call 153; refine (hp'.out _ _ _ (by simp) rfl).mono ?_; rintro e w1 ⟨m1, A1, c1, hm1, rfl, hl1, hf1, hb1⟩; have hm1' := hide hm1; clear hm1; have hZ := (Blk.new_ w 25 #[.int .i64 0, .int .i64 0, .slice none 0 0] rfl).keep hb1; have d0 := hZ.at_ (i := 0) rfl; have d1 := hZ.at_ (i := 1) rfl; have d2 := hZ.at_ (i := 2) rfl; have e0 := hZ.frozen 0; have e1 := hZ.frozen 1; have e2 := hZ.frozen 2; have g1 : Below w.heap.size w w1 := ((Below.refl _ _).alloc (Nat.le_refl _) _).trans (hb1.mono (by simp)))
    refine bodyPost_ret (v := .tuple #[.agg #[.int .i64 k, .int .i64 0, .slice A1 ks.length c1], .int .i64 m1]) (by simp [results, Try.results142, go_sem, d0, d1, d2]) rfl ⟨m1, A1, c1, hm1'.out, rfl, hl1, ?_, ((g1.setCell (by simp) _).setCell (by simp) _).setCell (by simp) _⟩
    exact (((hf1.setCell (by simp) _).setCell (by simp) _).setCell (by simp) _).mono (by simp)
set_option maxHeartbeats 4000000 in
set_option maxRecDepth 100000 in
theorem parse_rnd (z j : Nat) (k : Int) (ks : List Tm) (hz : z = 40 ∨ z = 40) (hs : s.size ≤ 1000000) (hi : i < s.size) (he : (s[i]'hi).toNat = z) (hD : 1 ≤ D) (hD2 : D ≤ 1000) (hl : ks.length ≤ 9223372036854775807)
    (hp : ∀ w (I D' : Int), I = (i + 1 : Nat) → D' = D - 1 → Calls Try.prog 154 #[.string s, .int .i64 I, .int .i64 D'] w (ParsedT w k 0 ks j)) :
    Calls Try.prog 142 #[.string s, .int .i64 i, .int .i64 D] w (ParsedT w k 0 ks j) := by
  have hp' := hide hp
  clear hp
  rcases hz with rfl | rfl
  all_goals
    go_enter Try.func142, Try.ntmps142
    go_wp2_with (go_at_call 154; refine (hp'.out _ _ _ (by simp) rfl).mono ?_; rintro e w1 ⟨m1, A1, c1, hm1, rfl, hl1, hf1, hb1⟩; have hm1' := hide hm1; clear hm1; have hZ := (Blk.new_ w 25 #[.int .i64 0, .int .i64 0, .slice none 0 0] rfl).keep hb1; have d0 := hZ.at_ (i := 0) rfl; have d1 := hZ.at_ (i := 1) rfl; have d2 := hZ.at_ (i := 2) rfl; have e0 := hZ.frozen 0; have e1 := hZ.frozen 1; have e2 := hZ.frozen 2; have g1 : Below w.heap.size w w1 := ((Below.refl _ _).alloc (Nat.le_refl _) _).trans (hb1.mono (by simp)))
    refine bodyPost_ret (v := .tuple #[.agg #[.int .i64 k, .int .i64 0, .slice A1 ks.length c1], .int .i64 m1]) (by simp [results, Try.results142, go_sem, d0, d1, d2]) rfl ⟨m1, A1, c1, hm1'.out, rfl, hl1, ?_, ((g1.setCell (by simp) _).setCell (by simp) _).setCell (by simp) _⟩
    exact (((hf1.setCell (by simp) _).setCell (by simp) _).setCell (by simp) _).mono (by simp)
set_option maxHeartbeats 4000000 in
set_option maxRecDepth 100000 in
theorem parse_blk (z j : Nat) (k : Int) (ks : List Tm) (hz : z = 60 ∨ z = 123 ∨ z = 124 ∨ z = 64) (hs : s.size ≤ 1000000) (hi : i < s.size) (he : (s[i]'hi).toNat = z) (hD : 1 ≤ D) (hD2 : D ≤ 1000) (hl : ks.length ≤ 9223372036854775807)
    (hp : ∀ w (I D' : Int), I = (i : Int) → D' = D → Calls Try.prog 155 #[.string s, .int .i64 I, .int .i64 D'] w (ParsedT w k 0 ks j)) :
    Calls Try.prog 142 #[.string s, .int .i64 i, .int .i64 D] w (ParsedT w k 0 ks j) := by
  have hp' := hide hp
  clear hp
  rcases hz with rfl | rfl | rfl | rfl
  all_goals
    go_enter Try.func142, Try.ntmps142
    go_wp2_with (go_at_call 155; refine (hp'.out _ _ _ (by simp) rfl).mono ?_; rintro e w1 ⟨m1, A1, c1, hm1, rfl, hl1, hf1, hb1⟩; have hm1' := hide hm1; clear hm1; have hZ := (Blk.new_ w 25 #[.int .i64 0, .int .i64 0, .slice none 0 0] rfl).keep hb1; have d0 := hZ.at_ (i := 0) rfl; have d1 := hZ.at_ (i := 1) rfl; have d2 := hZ.at_ (i := 2) rfl; have e0 := hZ.frozen 0; have e1 := hZ.frozen 1; have e2 := hZ.frozen 2; have g1 : Below w.heap.size w w1 := ((Below.refl _ _).alloc (Nat.le_refl _) _).trans (hb1.mono (by simp)))
    refine bodyPost_ret (v := .tuple #[.agg #[.int .i64 k, .int .i64 0, .slice A1 ks.length c1], .int .i64 m1]) (by simp [results, Try.results142, go_sem, d0, d1, d2]) rfl ⟨m1, A1, c1, hm1'.out, rfl, hl1, ?_, ((g1.setCell (by simp) _).setCell (by simp) _).setCell (by simp) _⟩
    exact (((hf1.setCell (by simp) _).setCell (by simp) _).setCell (by simp) _).mono (by simp)
set_option maxHeartbeats 4000000 in
set_option maxRecDepth 100000 in
theorem parse_lam (j1 j2 : Nat) (k1 n1 : Int) (ks1 : List Tm) (k2 n2 : Int) (ks2 : List Tm) (hs : s.size ≤ 1000000) (hi : i < s.size) (he : (s[i]'hi).toNat = 91) (hi1 : j1 < s.size) (he1 : (s[j1]'hi1).toNat = 93) (hD : 1 ≤ D) (hD2 : D ≤ 1000)
    (hp1 : ∀ w (I D' : Int), I = (i + 1 : Nat) → D' = D - 1 → Calls Try.prog 142 #[.string s, .int .i64 I, .int .i64 D'] w (ParsedT w k1 n1 ks1 j1)) (hp2 : ∀ w (I D' : Int), I = (j1 + 1 : Nat) → D' = D - 1 → Calls Try.prog 142 #[.string s, .int .i64 I, .int .i64 D'] w (ParsedT w k2 n2 ks2 j2)) :
    Calls Try.prog 142 #[.string s, .int .i64 i, .int .i64 D] w (ParsedT w 4 0 [.mk k1 n1 ks1, .mk k2 n2 ks2] j2) := by
  have hpar1 := hide hp1
  have hpar2 := hide hp2
  clear hp1 hp2
  go_enter Try.func142, Try.ntmps142
  go_wp2_with (first
    | (go_at_call 100; refine (l1Node_any (B := w.heap.size + 1) (us := [.mk k1 n1 ks1, .mk k2 n2 ks2]) _ (by simp; omega) ((hO2.alloc _).alloc _) hnd hge (by simp) _ 2 (Blk.new_ _ 25 _ (by simp))).mono ?_; rintro e w4 ⟨A4, c4, rfl, hf4, hb4⟩; replace hZ := ((hZ.alloc _).alloc _).keep hb4; have d0 := hZ.at_ (i := 0) rfl; have d1 := hZ.at_ (i := 1) rfl; have d2 := hZ.at_ (i := 2) rfl; have e0 := hZ.frozen 0; have e1 := hZ.frozen 1; have e2 := hZ.frozen 2; have g4 : Below w.heap.size w w4 := ((g3.alloc (by omega) _).alloc (by simp; omega) _).trans (hb4.mono (by simp; omega)))
    | (go_at_call 142; have _t := tok; refine (hpar2.out _ _ _ (by simp) rfl).mono ?_; rintro e w3 ⟨m2, A2, c2, hm2, rfl, hl2, hf2, hb2⟩; subst hm2; clear tok; obtain ⟨fp, hO2, hnd, hge⟩ := (hf1.alloc _).node2 hb2 hf2 (by simp; omega) hl1 hl2 k1 n1 k2 n2 c1 c2; replace hZ := (hZ.alloc _).keep hb2; have hX1 := (Blk.new_ w1 25 #[.int .i64 k1, .int .i64 n1, .slice A1 ks1.length c1] rfl).keep hb2; have x0 := hX1.at_ (i := 0) rfl; have x1 := hX1.at_ (i := 1) rfl; have x2 := hX1.at_ (i := 2) rfl; have lx := hX1.lt; have lz := hZ.lt; have g3 : Below w.heap.size w w3 := (g1.alloc (by omega) _).trans (hb2.mono (by simp; omega)); have s3 := g3.size; have s13 : w1.heap.size + 1 ≤ w3.heap.size := (by have := hb2.size; simpa using this))
    | (go_at_call 142; refine (hpar1.out _ _ _ (by simp) rfl).mono ?_; rintro e w1 ⟨m, A1, c1, hm, rfl, hl1, hf1, hb1⟩; subst hm; have tok : True := trivial; replace hf1 := hf1.mono (B' := w.heap.size + 1) (by simp); have hZ := (Blk.new_ w 25 #[.int .i64 0, .int .i64 0, .slice none 0 0] rfl).keep hb1; have g1 : Below w.heap.size w w1 := ((Below.refl _ _).alloc (Nat.le_refl _) _).trans (hb1.mono (by simp)); have s1 := g1.size; have s1' := hZ.lt))
  refine bodyPost_ret (v := _) ?_ rfl ⟨m2, A4, c4, rfl, rfl, by simp, ?_, ((g4.setCell (by simp) _).setCell (by simp) _).setCell (by simp) _⟩
  · simp [results, Try.results142, go_sem, d0, d1, d2]
  · exact (((hf4.setCell (by simp) _).setCell (by simp) _).setCell (by simp) _).mono (by omega)
end
theorem parse_any {d : Nat} {t : Tm} {b : List UInt8} (h : Tx d t b) : ∀ (k n : Int) (ks : List Tm), t = .mk k n ks → ParseOk k n ks b d := by
  induction h with
  | var d n c h => rintro k' n' ks' ⟨⟩ s i I D w hs rfl hh hn hD hD2; exact parse_var s i D w n c h hs hh hn (by omega) hD2
  | sort d n c h => rintro k' n' ks' ⟨⟩ s i I D w hs rfl hh hn hD hD2; exact parse_sort s i D w n c h hs hh hn (by omega) hD2
  | nat d => rintro k' n' ks' ⟨⟩ s i I D w hs rfl hh hn hD hD2; exact parse_nat s i D w hs hh (by omega) hD2
  | zero d => rintro k' n' ks' ⟨⟩ s i I D w hs rfl hh hn hD hD2; exact parse_zero s i D w hs hh (by omega) hD2
  | pre d k c t b h ht ih =>
    rintro k' n' ks' ⟨⟩ s i I D w hs rfl hh hn hD hD2
    obtain ⟨k1, n1, ks1⟩ := t
    obtain ⟨hi, he⟩ := at_byte hh (z := c.toNat) rfl
    have hz : c.toNat = 43 ∨ c.toNat = 33 ∨ c.toNat = 94 ∨ c.toNat = 95 := by rcases h with ⟨_, rfl⟩ | ⟨_, rfl⟩ | ⟨_, rfl⟩ | ⟨_, rfl⟩ <;> decide
    rw [List.length_cons] at hn ⊢
    exact parse_pre s i D w _ _ k _ hz hs hi he (by omega) hD2 (by simp) fun w I D' hI hD' => by
      subst hD'
      have := prefix_any h (ih k1 n1 ks1 rfl) s i I D' w hs hI hh (by rw [show i + 1 + b.length = i + (b.length + 1) by omega]; exact hn) (by omega) hD2
      rwa [show i + 1 + b.length = i + (b.length + 1) by omega] at this
  | rnd d k c t u x y h ht hu i1 i2 =>
    rintro k' n' ks' ⟨⟩ s i I D w hs rfl hh hn hD hD2
    obtain ⟨k1, n1, ks1⟩ := t
    obtain ⟨k2, n2, ks2⟩ := u
    obtain ⟨hi, he⟩ := at_byte hh (z := 40) rfl
    obtain ⟨_, hh2⟩ := hh.cons
    exact parse_rnd s i D w _ _ k _ (.inl rfl) hs hi he (by omega) hD2 (by simp) fun w I D' hI hD' => by
      subst hD'
      have := round_any h (i1 k1 n1 ks1 rfl) (i2 k2 n2 ks2 rfl) s (i + 1) I (D - 1) w hs hI hh2 (by omega) (by omega)
      have e : i + 1 + x.length + 1 + y.length + 1 = i + (40 :: (x ++ c :: (y ++ [41]))).length := by simp; omega
      rwa [e] at this
  | lam d t u x y ht hu i1 i2 =>
    rintro k' n' ks' ⟨⟩ s i I D w hs rfl hh hn hD hD2
    obtain ⟨k1, n1, ks1⟩ := t
    obtain ⟨k2, n2, ks2⟩ := u
    obtain ⟨hi, he⟩ := at_byte hh (z := 91) rfl
    obtain ⟨_, hh2⟩ := hh.cons
    obtain ⟨hh3, hh4⟩ := hh2.app
    obtain ⟨hi1, he1⟩ := at_byte hh4 (z := 93) rfl
    obtain ⟨_, hh5⟩ := hh4.cons
    have e : i + (91 :: (x ++ 93 :: y)).length = i + 1 + x.length + 1 + y.length := by simp; omega
    rw [e] at hn ⊢
    exact parse_lam s i D w (i + 1 + x.length) _ k1 n1 ks1 k2 n2 ks2 hs hi he hi1 he1 (by omega) hD2
      (fun w I D' hI hD' => i1 k1 n1 ks1 rfl s (i + 1) I D' w hs hI hh3 (.of hh4 (by decide)) (by omega) (by omega))
      (fun w I D' hI hD' => i2 k2 n2 ks2 rfl s (i + 1 + x.length + 1) I D' w hs hI hh5 hn (by omega) (by omega))
  | blk d k m o c ts xs h hm hx ht ih =>
    rintro k' n' ks' ⟨⟩ s i I D w hs rfl hh hn hD hD2
    obtain ⟨a, ao, hao, hz⟩ : ∃ a ao, o = a :: ao ∧ (a.toNat = 60 ∨ a.toNat = 123 ∨ a.toNat = 124 ∨ a.toNat = 64) := by rcases h with ⟨_, _, rfl, _⟩ | ⟨_, _, rfl, _⟩ | ⟨_, _, rfl, _⟩ | ⟨_, _, rfl, _⟩ <;> exact ⟨_, _, rfl, by decide⟩
    have hh1 := hh
    rw [hao] at hh1
    obtain ⟨hi, he⟩ := at_byte hh1 (z := a.toNat) rfl
    have hm4 : ts.length ≤ 4 := by rcases h with ⟨_, rfl, _, _⟩ | ⟨_, rfl, _, _⟩ | ⟨_, rfl, _, _⟩ | ⟨_, rfl, _, _⟩ <;> omega
    exact parse_blk s i D w _ _ k _ hz hs hi he (by omega) hD2 (by omega) fun w I D' hI hD' => by
      subst hD'
      exact block_any h ts xs hm hx (fun j k n ks x h1 h2 => ih j (.mk k n ks) x h1 h2 k n ks rfl) s i I D' w hs hI hh (by omega) hD2
end Go.Proofs.Ytodkenpmhhbppaa
