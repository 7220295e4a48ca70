/-
  Contracts of the functions that the law reaches, and plain lemmas. No condition.
-/
import Derived.Test.YtodkenpmhhbppaaK4
import Derived.Test.YtodkenpmhhbppaaK7
import Derived.Test.YtodkenpmhhbppaaK9
namespace Go.Proofs.Ytodkenpmhhbppaa
set_option linter.unusedSimpArgs false
set_option linter.unusedVariables false
open Go.RowKit
theorem validT_size {t : Tm} (h : validT t = true) : t.size ≤ 400 := by simp only [validT, Bool.and_eq_true, decide_eq_true_eq] at h; exact h.2
theorem filF_size (args : List Tm) (n d : Int) : (filF args n d).size ≤ 400 := by
  unfold filF
  split
  · simp [Tm.size, sizes]
  · split
    · simp [Tm.size, sizes]
    · unfold shiftI
      split
      · split
        · rename_i h; exact validT_size h
        · simp [Tm.size, sizes]
      · simp [Tm.size, sizes]
/-- what fill answers -/
def fillI (args : List Tm) (t : Tm) : Option Tm := if chgOk (filOk args) 0 t = true then (if validT (chg (filF args) 0 t) = true then some (chg (filF args) 0 t) else none) else none
set_option maxHeartbeats 2000000 in
set_option maxRecDepth 100000 in
theorem fill_any (k n : Int) (ks : List Tm) (A : Option Addr) (c : Nat) (args : List Tm) (B : Option Addr) (cb : Nat) (w : World) (hla : args.length ≤ 1000) (hsa : ∀ t, t ∈ args → shape 30 t = true) (hza : sizes args ≤ 1000000000) (hRa : Rd w B 0 args) (hM : sizes ks ≤ 1000) (hs : shape 30 (.mk k n ks) = true) (hr : Rd w A 0 ks) :
    Calls Try.prog 59 #[(.agg #[.int .i64 k, .int .i64 n, .slice A ks.length c]), .slice B args.length cb] w (GotO w (fillI args (.mk k n ks))) := by
  have hrp : RdP (· ≠ w.heap.size + 3) w A 0 ks := hr.rdp.mono (fun b hb => by have hb : b < w.heap.size := hb; show b ≠ _; omega)
  have hRp : RdP (· ≠ w.heap.size + 3) w B 0 args := hRa.rdp.mono (fun b hb => by have hb : b < w.heap.size := hb; show b ≠ _; omega)
  obtain ⟨k2, n2, ks2, hct⟩ := tm_eta (chg (filF args) 0 (.mk k n ks))
  have hsz2 : sizes ks2 ≤ 1000000001 := by
    have := (chg_size (by omega) (filF_size args)).1 (.mk k n ks) 0
    rw [hct, Tm.size, Tm.size] at this
    omega
  cases hok : chgOk (filOk args) 0 (.mk k n ks) with
  | false =>
    have hz : fillI args (.mk k n ks) = none := by rw [fillI, hok]; rfl
    rw [hz]
    clear hz
    go_enter Try.func59, Try.ntmps59
    go_wp2_with (go_at_call 102; refine (changed_any (fill1_ok (args := args) (B := B) (cb := cb) (ba := w.heap.size + 1) (g := w.heap.size + 3) hla hsa hza (((Blk.new_ _ 23 _ (by simp)).alloc _).alloc _) ((((hRp.alloc _).alloc _).alloc _).alloc _) (by omega)) (run_enter Try.func103 (by kernel_rfl) (by kernel_rfl)) (sizes ks + 1) k n ks A c 0 30 _ true (by omega) hs (by omega) (by omega) (by omega) (World.grownBy.refl _ _) (Blk.new_ _ 4 _ (by simp)) ((((hrp.alloc _).alloc _).alloc _).alloc _)).mono ?_; rw [hct, hok]; intro e w6 hpost; obtain ⟨A6, c6, rfl, hl6, hf6, hG6, hg6⟩ := gotG_mk hpost; clear hpost; have hT6 : Blk w6 (w.heap.size + 1 + 1) #[.int .i64 0, .int .i64 0, .slice none 0 0] := ((Blk.new_ _ 25 _ (by simp)).alloc _).grown hg6 (by simp); have f0 := hG6.at_ (i := 0) rfl; obtain ⟨d0, d1, d2⟩ := hT6.three; have e0 := hT6.frozen 0; have e1 := hT6.frozen 1; have e2 := hT6.frozen 2; have lT := hT6.lt; have lG := hG6.lt; have hb6 : Below w.heap.size w w6 := (((((Below.refl _ _).alloc (Nat.le_refl _) _).alloc (by simp) _).alloc (by simp; omega) _).alloc (by simp; omega) _).grown hg6 (by simp; omega) (fun k e => by cases e; omega); replace hf6 := hf6.mono (B' := w.heap.size + 4) (by simp))
    have y := fun o => (((((hT6.set_ 0 (.int .i64 0)).set_ 1 (.int .i64 0)).set_ 2 (.slice none 0 0)).alloc o : Blk _ _ #[.int .i64 0, .int .i64 0, .slice none 0 0])).three
    refine bodyPost_ret (v := .tuple #[zeroV, .bool false]) (by simp [results, Try.results59, go_sem, y, zeroV]) rfl ⟨rfl, ?_⟩
    exact (((hb6.setCell (by simp; omega) _).setCell (by simp; omega) _).setCell (by simp; omega) _).alloc (by simp [World.setCell]; omega) _
  | true =>
    cases hv : validT (.mk k2 n2 ks2) with
    | false =>
      have hz : fillI args (.mk k n ks) = none := by rw [fillI, hok, if_pos rfl, hct, hv]; rfl
      rw [hz]
      clear hz
      go_enter Try.func59, Try.ntmps59
      go_wp2_with (first | (go_at_call 102; refine (changed_any (fill1_ok (args := args) (B := B) (cb := cb) (ba := w.heap.size + 1) (g := w.heap.size + 3) hla hsa hza (((Blk.new_ _ 23 _ (by simp)).alloc _).alloc _) ((((hRp.alloc _).alloc _).alloc _).alloc _) (by omega)) (run_enter Try.func103 (by kernel_rfl) (by kernel_rfl)) (sizes ks + 1) k n ks A c 0 30 _ true (by omega) hs (by omega) (by omega) (by omega) (World.grownBy.refl _ _) (Blk.new_ _ 4 _ (by simp)) ((((hrp.alloc _).alloc _).alloc _).alloc _)).mono ?_; rw [hct, hok]; intro e w6 hpost; obtain ⟨A6, c6, rfl, hl6, hf6, hG6, hg6⟩ := gotG_mk hpost; clear hpost; have hT6 : Blk w6 (w.heap.size + 1 + 1) #[.int .i64 0, .int .i64 0, .slice none 0 0] := ((Blk.new_ _ 25 _ (by simp)).alloc _).grown hg6 (by simp); have f0 := hG6.at_ (i := 0) rfl; obtain ⟨d0, d1, d2⟩ := hT6.three; have e0 := hT6.frozen 0; have e1 := hT6.frozen 1; have e2 := hT6.frozen 2; have lT := hT6.lt; have lG := hG6.lt; have hb6 : Below w.heap.size w w6 := (((((Below.refl _ _).alloc (Nat.le_refl _) _).alloc (by simp) _).alloc (by simp; omega) _).alloc (by simp; omega) _).grown hg6 (by simp; omega) (fun k e => by cases e; omega); replace hf6 := hf6.mono (B' := w.heap.size + 4) (by simp)) | (go_at_call 82; refine (valid_no k2 n2 ks2 A6 c6 _ (by omega) (hf6.rd.alloc _) hv).mono ?_; rintro e w8 ⟨rfl, hb8⟩; have hT8 : Blk w8 (w.heap.size + 1 + 1) #[.int .i64 0, .int .i64 0, .slice none 0 0] := (hT6.alloc _).keep hb8; obtain ⟨x0, x1, x2⟩ := hT8.three; have e80 := hT8.frozen 0; have e81 := hT8.frozen 1; have e82 := hT8.frozen 2; replace hb8 : Below w.heap.size w w8 := (hb6.alloc hb6.size _).trans (hb8.mono (by have := hb6.size; simp; omega)); have hzz : zeroV = .agg #[.int .i64 0, .int .i64 0, .slice none 0 0] := rfl))
      refine bodyPost_ret (v := .tuple #[zeroV, .bool false]) (by simp [results, Try.results59, go_sem, x0, x1, x2, zeroV]) rfl ⟨rfl, ?_⟩
      exact ((hb8.setCell (by simp; omega) _).setCell (by simp; omega) _).setCell (by simp; omega) _
    | true =>
      have hz : fillI args (.mk k n ks) = some (.mk k2 n2 ks2) := by rw [fillI, hok, if_pos rfl, hct, hv]; rfl
      rw [hz]
      clear hz
      go_enter Try.func59, Try.ntmps59
      go_wp2_with (first | (go_at_call 102; refine (changed_any (fill1_ok (args := args) (B := B) (cb := cb) (ba := w.heap.size + 1) (g := w.heap.size + 3) hla hsa hza (((Blk.new_ _ 23 _ (by simp)).alloc _).alloc _) ((((hRp.alloc _).alloc _).alloc _).alloc _) (by omega)) (run_enter Try.func103 (by kernel_rfl) (by kernel_rfl)) (sizes ks + 1) k n ks A c 0 30 _ true (by omega) hs (by omega) (by omega) (by omega) (World.grownBy.refl _ _) (Blk.new_ _ 4 _ (by simp)) ((((hrp.alloc _).alloc _).alloc _).alloc _)).mono ?_; rw [hct, hok]; intro e w6 hpost; obtain ⟨A6, c6, rfl, hl6, hf6, hG6, hg6⟩ := gotG_mk hpost; clear hpost; have hT6 : Blk w6 (w.heap.size + 1 + 1) #[.int .i64 0, .int .i64 0, .slice none 0 0] := ((Blk.new_ _ 25 _ (by simp)).alloc _).grown hg6 (by simp); have f0 := hG6.at_ (i := 0) rfl; obtain ⟨d0, d1, d2⟩ := hT6.three; have e0 := hT6.frozen 0; have e1 := hT6.frozen 1; have e2 := hT6.frozen 2; have lT := hT6.lt; have lG := hG6.lt; have hb6 : Below w.heap.size w w6 := (((((Below.refl _ _).alloc (Nat.le_refl _) _).alloc (by simp) _).alloc (by simp; omega) _).alloc (by simp; omega) _).grown hg6 (by simp; omega) (fun k e => by cases e; omega); replace hf6 := hf6.mono (B' := w.heap.size + 4) (by simp)) | (go_at_call 82; refine (valid_yes k2 n2 ks2 A6 c6 _ (by omega) (hf6.rd.alloc _) hv).mono ?_; rintro e w8 ⟨rfl, hb8⟩; have hf8 := (hf6.alloc (.cells #[.int .i64 k2, .int .i64 n2, .slice A6 ks2.length c6] 25)).below hb8; have hT8 : Blk w8 (w.heap.size + 1 + 1) #[.int .i64 0, .int .i64 0, .slice none 0 0] := (hT6.alloc _).keep hb8; obtain ⟨x0, x1, x2⟩ := hT8.three; have e80 := hT8.frozen 0; have e81 := hT8.frozen 1; have e82 := hT8.frozen 2; replace hb8 : Below w.heap.size w w8 := (hb6.alloc hb6.size _).trans (hb8.mono (by have := hb6.size; simp; omega))))
      refine bodyPost_ret (v := .tuple #[.agg #[.int .i64 k2, .int .i64 n2, .slice A6 ks2.length c6], .bool true]) (by simp [results, Try.results59, go_sem, x0, x1, x2]) rfl ⟨A6, c6, rfl, hl6, ?_, ?_⟩
      · exact (((hf8.setCell (by simp) _).setCell (by simp) _).setCell (by simp) _).mono (by omega)
      · exact ((hb8.setCell (by simp; omega) _).setCell (by simp; omega) _).setCell (by simp; omega) _
open Go.RowKit
/-- what is asked of a test of terms -/
def TestOk (F : Nat) (p : Tm → Bool) : Prop := ∀ (k n : Int) (ks : List Tm) (A : Option Addr) (c : Nat) (w : World), sizes ks ≤ 1099511627775 → Rd w A 0 ks →
  Calls Try.prog F #[.agg #[.int .i64 k, .int .i64 n, .slice A ks.length c]] w fun e w' => e = .returned (.bool (p (.mk k n ks))) ∧ Below w.heap.size w w'
/-- what FillTerm answers -/
def fillTI (t : Tm) (args : List Tm) : Option Tm := if validT t = true ∧ args.length ≤ 6 ∧ (args.any fun a => !validT a) = false then fillI args t else none
set_option maxHeartbeats 1000000 in
set_option maxRecDepth 100000 in
theorem isHoles_any (n : Int) (w : World) : Calls Try.prog 56 #[.int .i64 n] w fun e w' => e = .returned (.bool (decide (0 ≤ n) && decide (n ≤ 6))) ∧ w = w' := by
  go_enter Try.func56, Try.ntmps56
  go_wp2_with (go_at_call 69; refine (within_any _ _ _ _).mono ?_; rintro e w1 ⟨rfl, rfl⟩)
  go_ret
  exact ⟨rfl, rfl⟩
open Go.RowKit
theorem shS_size (by_ : Int) (t : Tm) : ∀ d, (shS by_ d t).size = t.size := by
  refine Tm.rec (motive_1 := fun t => ∀ d, (shS by_ d t).size = t.size) (motive_2 := fun ts => ∀ k d i, sizes (shSL by_ k d i ts) = sizes ts) ?_ ?_ ?_ t
  · intro k n ks ih d; rw [shS, Tm.size, Tm.size, ih]
  · intro k d i; rfl
  · intro t ts h1 h2 k d i; rw [shSL, sizes, sizes, h1, h2]
theorem flS_size (args : List Tm) (hs : ∀ t, t ∈ args → t.size ≤ 400) (t : Tm) : ∀ d, (flS args d t).size ≤ t.size * 400 := by
  refine Tm.rec (motive_1 := fun t => ∀ d, (flS args d t).size ≤ t.size * 400) (motive_2 := fun ts => ∀ k d i, sizes (flSL args k d i ts) ≤ sizes ts * 400) ?_ ?_ ?_ t
  · intro k n ks ih d
    rw [flS]
    have h3 := ih k d 0
    split
    · split
      · rename_i h1 h2
        rw [shS_size, List.getD_eq_getElem?_getD]
        have hlt : (n - d).toNat < args.length := by omega
        rw [List.getElem?_eq_getElem hlt, Option.getD_some]
        have := hs _ (List.getElem_mem hlt)
        simp only [Tm.size]; omega
      · simp only [Tm.size, sizes]; omega
    · simp only [Tm.size]; omega
  · intro k d i; simp [flSL, sizes]
  · intro t ts h1 h2 k d i; have a := h1 (d + under k i); have b := h2 k d (i + 1); rw [flSL, sizes, sizes]; omega
/-- what the reference's FillTerm answers -/
def fillTS (t : Tm) (args : List Tm) : Option Tm := if validT t = true ∧ args.length ≤ 6 ∧ (args.any fun a => !validT a) = false ∧ validT (flS args 0 t) = true then some (flS args 0 t) else none
open Go.RowKit
theorem shape_pos {q : Nat} {k n : Int} {ks : List Tm} (h : shape q (.mk k n ks) = true) : ∃ q', q = q' + 1 ∧ arity k = (ks.length : Int) ∧ 0 ≤ n ∧ n ≤ mostN k ∧ ∀ t, t ∈ ks → shape q' t = true := by
  cases q with
  | zero => simp [shape] at h
  | succ q => exact ⟨q, rfl, (shape_split q k n ks).1 h⟩
theorem var_nil {ks : List Tm} (h : arity 1 = (ks.length : Int)) : ks = [] := by
  have h0 : arity 1 = 0 := rfl
  rw [h0] at h
  exact List.eq_nil_of_length_eq_zero (by omega)
theorem shS_chg (by_ cut : Int) (t : Tm) : ∀ (q : Nat) (e : Int), shape q t = true → chg (shF by_ cut) e t = shS by_ (cut + e) t := by
  refine Tm.rec (motive_1 := fun t => ∀ (q : Nat) (e : Int), shape q t = true → chg (shF by_ cut) e t = shS by_ (cut + e) t)
    (motive_2 := fun ts => ∀ (q : Nat) (k e : Int) (i : Nat), (∀ t, t ∈ ts → shape q t = true) → chgs (shF by_ cut) k e i ts = shSL by_ k (cut + e) i ts) ?_ ?_ ?_ t
  · intro k n ks ih q e h
    obtain ⟨q', rfl, ha, h0, h1, hk⟩ := shape_pos h
    rw [chg, shS]
    by_cases h1 : k = 1
    · subst h1
      have := var_nil ha
      subst this
      rw [if_pos rfl, shF, shSL]
      congr 1
      by_cases hc : cut ≤ n - e
      · rw [if_pos hc, if_pos ⟨rfl, by omega⟩]
      · rw [if_neg hc, if_neg (by rintro ⟨-, h⟩; omega)]
    · rw [if_neg h1, if_neg (by rintro ⟨h, -⟩; exact h1 h), ih q' k e 0 hk]
  · intro q k e i _; rfl
  · intro t ts h1 h2 q k e i hk
    rw [chgs, shSL, h1 q _ (hk t List.mem_cons_self), h2 q k e (i + 1) (fun t ht => hk t (List.mem_cons_of_mem _ ht)), show cut + (e + under k i) = cut + e + under k i by omega]
theorem shOk_of_shape (by_ cut : Int) (hb : 0 ≤ by_) (t : Tm) : ∀ (q p : Nat) (e : Int), shape q t = true → shape p (shS by_ (cut + e) t) = true → chgOk (shOk by_ cut) e t = true := by
  refine Tm.rec (motive_1 := fun t => ∀ (q p : Nat) (e : Int), shape q t = true → shape p (shS by_ (cut + e) t) = true → chgOk (shOk by_ cut) e t = true)
    (motive_2 := fun ts => ∀ (q p : Nat) (k e : Int) (i : Nat), (∀ t, t ∈ ts → shape q t = true) → (∀ t, t ∈ shSL by_ k (cut + e) i ts → shape p t = true) → chgsOk (shOk by_ cut) k e i ts = true) ?_ ?_ ?_ t
  · intro k n ks ih q p e h hp
    obtain ⟨q', rfl, ha, h0, h1, hk⟩ := shape_pos h
    rw [shS] at hp
    obtain ⟨p', rfl, hpa, hp0, hp1, hpk⟩ := shape_pos hp
    rw [chgOk]
    by_cases h1 : k = 1
    · subst h1
      have h20 : mostN 1 = 20 := rfl
      rw [if_pos rfl, shOk]
      by_cases hc : cut ≤ n - e
      · rw [if_pos ⟨rfl, by omega⟩] at hp1
        rw [if_pos hc, decide_eq_true (by omega), decide_eq_true (by omega)]; rfl
      · rw [if_neg hc]
    · rw [if_neg h1]; exact ih q' p' k e 0 hk hpk
  · intro q p k e i _ _; rfl
  · intro t ts h1 h2 q p k e i hk hp
    rw [shSL] at hp
    rw [chgsOk, h1 q p _ (hk t List.mem_cons_self) (by rw [show cut + (e + under k i) = cut + e + under k i by omega]; exact hp _ List.mem_cons_self), h2 q p k e (i + 1) (fun t ht => hk t (List.mem_cons_of_mem _ ht)) (fun t ht => hp t (List.mem_cons_of_mem _ ht))]; rfl
theorem shape_up {p q : Nat} (h : p ≤ q) (t : Tm) : shape p t = true → shape q t = true := by
  induction p generalizing q t with
  | zero => intro hp; simp [shape] at hp
  | succ p ih =>
    intro hp
    obtain ⟨k, n, ks⟩ := t
    obtain ⟨q', rfl⟩ : ∃ q', q = q' + 1 := ⟨q - 1, by omega⟩
    obtain ⟨a, b, c, d⟩ := (shape_split p k n ks).1 hp
    exact (shape_split q' k n ks).2 ⟨a, b, c, fun t ht => ih (by omega) t (d t ht)⟩
/-- what fill lays in a variable's place is the reference's, where it goes well -/
theorem shiftI_some {d : Int} {a : Tm} (hs : shape 30 a = true) (h : (shiftI d 0 a).isSome = true) : (shiftI d 0 a).getD (.mk 0 0 []) = shS d 0 a := by
  unfold shiftI at h ⊢
  split
  · rename_i h1
    rw [if_pos h1] at h
    split
    · rw [Option.getD_some, shS_chg d 0 a 30 0 hs, Int.zero_add]
    · rename_i h2; rw [if_neg h2] at h; cases h
  · rename_i h1; rw [if_neg h1] at h; cases h
theorem shiftI_ok {d : Int} {a : Tm} (hd : 0 ≤ d) (hs : shape 30 a = true) (h : validT (shS d 0 a) = true) : (shiftI d 0 a).isSome = true := by
  have hsh : shape 30 (shS d 0 a) = true := by simp only [validT, Bool.and_eq_true] at h; exact h.1
  have h1 : chgOk (shOk d 0) 0 a = true := shOk_of_shape d 0 hd a 30 30 0 hs (by rw [Int.zero_add]; exact hsh)
  unfold shiftI
  rw [if_pos h1, shS_chg d 0 a 30 0 hs, Int.zero_add, if_pos h]; rfl
section
variable {args : List Tm} (hsa : ∀ t, t ∈ args → shape 30 t = true)
include hsa
theorem filled (t : Tm) : ∀ (q : Nat) (d : Int), 0 ≤ d → shape q t = true → chgOk (filOk args) d t = true → chg (filF args) d t = flS args d t := by
  refine Tm.rec (motive_1 := fun t => ∀ (q : Nat) (d : Int), 0 ≤ d → shape q t = true → chgOk (filOk args) d t = true → chg (filF args) d t = flS args d t)
    (motive_2 := fun ts => ∀ (q : Nat) (k d : Int) (i : Nat), 0 ≤ d → (∀ t, t ∈ ts → shape q t = true) → chgsOk (filOk args) k d i ts = true → chgs (filF args) k d i ts = flSL args k d i ts) ?_ ?_ ?_ t
  · intro k n ks ih q d hd h hok
    obtain ⟨q', rfl, ha, h0, h1, hk⟩ := shape_pos h
    rw [chgOk] at hok
    rw [chg, flS]
    by_cases h1 : k = 1
    · subst h1
      have := var_nil ha
      subst this
      rw [if_pos rfl] at hok ⊢
      unfold filOk at hok
      unfold filF
      by_cases h2 : n - d < 0
      · rw [if_pos h2, if_neg (by rintro ⟨-, h⟩; omega), flSL]
      · rw [if_neg h2] at hok ⊢
        rw [if_pos (show (1 : Int) = 1 ∧ d ≤ n from ⟨rfl, by omega⟩)]
        by_cases h3 : (args.length : Int) ≤ n - d
        · rw [if_pos h3, if_neg (show ¬ n < d + (args.length : Int) by omega)]
        · rw [if_neg h3] at hok ⊢
          rw [if_pos (show n < d + (args.length : Int) by omega)]
          have hlt : (n - d).toNat < args.length := by omega
          have hsx : shape 30 (args.getD (n - d).toNat default) = true := by
            rw [List.getD_eq_getElem?_getD, List.getElem?_eq_getElem hlt, Option.getD_some]; exact hsa _ (List.getElem_mem hlt)
          exact shiftI_some hsx hok
    · rw [if_neg h1] at hok ⊢
      rw [if_neg (by rintro ⟨h, -⟩; exact h1 h), ih q' k d 0 hd hk hok]
  · intro q k d i _ _ _; rfl
  · intro t ts h1 h2 q k d i hd hk hok
    rw [chgsOk, Bool.and_eq_true] at hok
    rw [chgs, flSL, h1 q _ (by have := under_le k i; omega) (hk t List.mem_cons_self) hok.1, h2 q k d (i + 1) hd (fun t ht => hk t (List.mem_cons_of_mem _ ht)) hok.2]
theorem fill_ok (t : Tm) : ∀ (q p : Nat) (d : Int), 0 ≤ d → p ≤ 30 → shape q t = true → shape p (flS args d t) = true → (flS args d t).size ≤ 400 → chgOk (filOk args) d t = true := by
  refine Tm.rec (motive_1 := fun t => ∀ (q p : Nat) (d : Int), 0 ≤ d → p ≤ 30 → shape q t = true → shape p (flS args d t) = true → (flS args d t).size ≤ 400 → chgOk (filOk args) d t = true)
    (motive_2 := fun ts => ∀ (q p : Nat) (k d : Int) (i : Nat), 0 ≤ d → p ≤ 30 → (∀ t, t ∈ ts → shape q t = true) → (∀ t, t ∈ flSL args k d i ts → shape p t = true) → sizes (flSL args k d i ts) ≤ 400 → chgsOk (filOk args) k d i ts = true) ?_ ?_ ?_ t
  · intro k n ks ih q p d hd hp h hs hz
    obtain ⟨q', rfl, ha, h0, h1, hk⟩ := shape_pos h
    rw [chgOk]
    rw [flS] at hs hz
    by_cases h1 : k = 1
    · subst h1
      rw [if_pos rfl]
      unfold filOk
      by_cases h2 : n - d < 0
      · rw [if_pos h2]
      · rw [if_neg h2]
        by_cases h3 : (args.length : Int) ≤ n - d
        · rw [if_pos h3]
        · rw [if_neg h3]
          rw [if_pos (show (1 : Int) = 1 ∧ d ≤ n from ⟨rfl, by omega⟩), if_pos (show n < d + (args.length : Int) by omega)] at hs hz
          have hlt : (n - d).toNat < args.length := by omega
          have hsx : shape 30 (args.getD (n - d).toNat default) = true := by
            rw [List.getD_eq_getElem?_getD, List.getElem?_eq_getElem hlt, Option.getD_some]; exact hsa _ (List.getElem_mem hlt)
          refine shiftI_ok hd hsx ?_
          rw [validT, shape_up hp _ hs, decide_eq_true hz]; rfl
    · rw [if_neg h1]
      have hn : ¬ (k = 1 ∧ d ≤ n) := by rintro ⟨h, -⟩; exact h1 h
      rw [if_neg hn] at hs hz
      obtain ⟨p', rfl, hpa, hp0, hp1, hpk⟩ := shape_pos hs
      rw [Tm.size] at hz
      exact ih q' p' k d 0 hd (by omega) hk hpk (by omega)
  · intro q p k d i _ _ _ _ _; rfl
  · intro t ts h1 h2 q p k d i hd hp hk hs hz
    rw [flSL] at hs hz
    rw [sizes] at hz
    rw [chgsOk, h1 q p _ (by have := under_le k i; omega) hp (hk t List.mem_cons_self) (hs _ List.mem_cons_self) (by omega), h2 q p k d (i + 1) hd hp (fun t ht => hk t (List.mem_cons_of_mem _ ht)) (fun t ht => hs t (List.mem_cons_of_mem _ ht)) (by omega)]; rfl
end
theorem fill_same (t : Tm) (args : List Tm) : fillTS t args = fillTI t args := by
  unfold fillTS fillTI
  by_cases hv : validT t = true
  · by_cases hl : args.length ≤ 6
    · by_cases ha : (args.any fun a => !validT a) = false
      · rw [if_pos (⟨hv, hl, ha⟩ : _ ∧ _ ∧ _)]
        have hval : ∀ t, t ∈ args → shape 30 t = true := fun t ht => by
          have : validT t = true := by simpa using List.any_eq_false.1 ha t ht
          simp only [validT, Bool.and_eq_true] at this
          exact this.1
        have hs : shape 30 t = true := by simp only [validT, Bool.and_eq_true] at hv; exact hv.1
        unfold fillI
        by_cases hok : chgOk (filOk args) 0 t = true
        · rw [if_pos hok, filled hval t 30 0 (Int.le_refl 0) hs hok]
          by_cases h4 : validT (flS args 0 t) = true
          · rw [if_pos ⟨hv, hl, ha, h4⟩, if_pos h4]
          · rw [if_neg (by rintro ⟨-, -, -, h⟩; exact h4 h), if_neg h4]
        · rw [if_neg hok, if_neg]
          rintro ⟨-, -, -, h4⟩
          simp only [validT, Bool.and_eq_true, decide_eq_true_eq] at h4
          exact hok (fill_ok hval t 30 30 0 (Int.le_refl 0) (Nat.le_refl _) hs h4.1 h4.2)
      · rw [if_neg (by rintro ⟨-, -, h, -⟩; exact ha h), if_neg (by rintro ⟨-, -, h⟩; exact ha h)]
    · rw [if_neg (by rintro ⟨-, h, -⟩; exact hl h), if_neg (by rintro ⟨-, h, -⟩; exact hl h)]
  · rw [if_neg (by rintro ⟨h, -⟩; exact hv h), if_neg (by rintro ⟨h, -⟩; exact hv h)]
open Go.RowKit
mutual
/-- no variable that lies between cut and cut + by -/
def kpS (by_ : Int) : Int → Tm → Bool | d, .mk k n ks => if k = 1 ∧ d ≤ n ∧ n < d + by_ then false else kpSL by_ k d 0 ks
def kpSL (by_ : Int) : Int → Int → Nat → List Tm → Bool | _, _, _, [] => true | k, d, i, t :: ts => kpS by_ (d + under k i) t && kpSL by_ k d (i + 1) ts
end
theorem kpSL_append (by_ k d : Int) (us : List Tm) : ∀ (ts : List Tm) (i : Nat), kpSL by_ k d i (ts ++ us) = (kpSL by_ k d i ts && kpSL by_ k d (i + ts.length) us)
  | [], i => by simp [kpSL]
  | t :: ts, i => by rw [List.cons_append, kpSL, kpSL, kpSL_append by_ k d us ts (i + 1), List.length_cons, show i + 1 + ts.length = i + (ts.length + 1) from by omega, Bool.and_assoc]
theorem kpSL_take (by_ k d : Int) {ks : List Tm} {j : Nat} (hj : j < ks.length) : kpSL by_ k d 0 (ks.take (j + 1)) = (kpSL by_ k d 0 (ks.take j) && kpS by_ (d + under k j) ks[j]) := by
  rw [List.take_succ_eq_append_getElem hj, kpSL_append, List.length_take, Nat.min_eq_left (Nat.le_of_lt hj), Nat.zero_add, kpSL, kpSL, Bool.and_true]
theorem kpSL_no (by_ k d : Int) {ks : List Tm} {j : Nat} (hj : j < ks.length) (h : kpS by_ (d + under k j) ks[j] = false) : kpSL by_ k d 0 ks = false := by
  have h1 : kpSL by_ k d 0 (ks.take (j + 1)) = false := by rw [kpSL_take by_ k d hj, h, Bool.and_false]
  have h2 : ks = ks.take (j + 1) ++ ks.drop (j + 1) := (List.take_append_drop _ _).symm
  rw [h2, kpSL_append, h1, Bool.false_and]
set_option maxHeartbeats 2000000 in
set_option maxRecDepth 100000 in
theorem sKeeps_any (N : Nat) : ∀ (k n : Int) (ks : List Tm) (A : Option Addr) (c : Nat) (cut by_ : Int) (q : Nat) (w : World), sizes ks < N → sizes ks ≤ 1000000000 → shape q (.mk k n ks) = true → 0 ≤ by_ ∧ by_ ≤ 1000 → 0 ≤ cut → cut + q ≤ 1000 → Rd w A 0 ks →
    Calls Try.prog 147 #[.agg #[.int .i64 k, .int .i64 n, .slice A ks.length c], .int .i64 cut, .int .i64 by_] w fun e w' => e = .returned (.bool (kpS by_ cut (.mk k n ks))) ∧ Below w.heap.size w w' := by
  induction N with
  | zero => intro k n ks A c cut by_ q w hN; exact absurd hN (Nat.not_lt_zero _)
  | succ N ih =>
  intro k n ks A c cut by_ q w hN hM hsh hby hc0 hcq hr
  have hlen := length_le_sizes ks
  obtain ⟨q, rfl, ha, hm1, hm2, hkids⟩ := shape_pos hsh
  have hkids' := hide hkids
  rw [kpS]
  by_cases hk : k = 1 ∧ cut ≤ n ∧ n < cut + by_
  · rw [if_pos hk]
    obtain ⟨rfl, h1, h2⟩ := hk
    have q1 : decide (cut ≤ n) = true := decide_eq_true h1
    have q2 : decide (n < cut + by_) = true := decide_eq_true h2
    have hn2 : n ≤ 20 := by simpa [mostN] using hm2
    clear h1 h2 hkids hsh ha hm2
    go_enter Try.func147, Try.ntmps147
    go_wp2_with fail
    go_ret
    exact ⟨rfl, (Below.refl _ _).alloc (Nat.le_refl _) _⟩
  · rw [if_neg hk]
    have hgo : Calls Try.prog 147 #[.agg #[.int .i64 k, .int .i64 n, .slice A ks.length c], .int .i64 cut, .int .i64 by_] w (fun e w' => e = .returned (.bool (kpSL by_ k cut 0 ks)) ∧ Below w.heap.size w w') := by
      have hk' := hide hk
      have hm2' := hide hm2
      clear hk hkids hsh ha hm2
      by_cases h1 : k = 1
      · subst h1
        have q0 : ((1 : Int) == 1) = true := rfl
        have hn2 : n ≤ 20 := by simpa [mostN] using hm2'.out
        by_cases h2 : cut ≤ n
        · have q1 : decide (cut ≤ n) = true := decide_eq_true h2
          have q2 : decide (n < cut + by_) = false := decide_eq_false (fun h => hk'.out ⟨rfl, h2, h⟩)
          clear h2
          go_enter Try.func147, Try.ntmps147
          go_wp2_with fail
          go_loopw [7] (fun i wr => ∃ (j : Nat), j ≤ ks.length ∧ i = .int .i64 j ∧ Hid (kpSL by_ 1 cut 0 (ks.take j) = true) ∧ Blk wr w.heap.size #[.int .i64 1, .int .i64 n, .slice A ks.length c] ∧ Below w.heap.size w wr) (fun i _ => ks.length - (intOf i).toNat)
          case atStart => exact ⟨0, Nat.zero_le _, rfl, hide rfl, Blk.new_ _ _ _ rfl, (Below.refl _ _).alloc (Nat.le_refl _) _⟩
          case round =>
            obtain ⟨j, hj, rfl, hall, hB1, hb⟩ := hrel
            have b2 := hB1.at_ (i := 2) rfl
            by_cases hlt : j < ks.length
            · obtain ⟨b, off, k1, n1, ks1, A1, c1, rfl, hkj, hc1, hc2, hc3, hl1, hr1⟩ := (hr.below hb).at_ hlt
              have hsz := sizes_le (List.getElem_mem hlt)
              have hsk := hkids'.out _ (List.getElem_mem hlt)
              rw [hkj] at hsz hsk
              simp only [Tm.size] at hsz
              have H3 := hide hkj
              have H4 := hide hsk
              clear hkj hsk
              go_wp2_with fail
              have r1 := rule_of hc1
              have r2 := rule_of hc2
              have r3 := rule_of hc3
              have r7 := hB1.rule (i := 2) rfl
              have r8 := hB1.rule (i := 0) rfl
              have hun := under_le 1 j
              refine wp_region_firstY (fun w' => Below wr.heap.size wr w') [0, 1, 2, 3, 4, 5, 6, 7, 8, 9, 10, 11] [] [12, 13] [_, _, _, _, _, _, _, _, _, _, _, _] [] [_, _] (by kernel_rfl) (by kernel_rfl) rfl rfl rfl (fun _ _ d _ _ h => by cases d <;> exact h) (Below.refl _ _).drew ?_
              repeat (first | ((refine takeY_skip (a' := ?_) ?_ ?_ ?_); (rotate_left); (· (simp [Region.wanted, yielded]; done)); (· (simp only [List.getElem_toArray, List.getElem_cons_zero, List.getElem_cons_succ, Act.put, List.setIfInBounds_toArray, List.set_cons_zero, List.set_cons_succ]; exact rfl))) | ((refine takeY_step (v := ?_) (a' := ?_) ?_ ?_ ?_ ?_); (rotate_left 2); (· (simp [Region.wanted, yielded]; done)); (· (intro w' hS'; go_simp; try (with_reducible rfl))); (· (simp only [List.getElem_toArray, List.getElem_cons_zero, List.getElem_cons_succ, Act.put, List.setIfInBounds_toArray, List.set_cons_zero, List.set_cons_succ]; exact rfl))) | ((refine takeY_call (v := ?_) (a' := ?_) 109 ?_ ?_ ?_ ?_ ?_ ?_); (rotate_left 3); (· (simp [Region.wanted, yielded]; done)); (· (intro w' hS'; go_simp; try (with_reducible rfl))); (· (intro w' hS'; exact sUnder_any _ _ _)); (· (simp only [List.getElem_toArray, List.getElem_cons_zero, List.getElem_cons_succ, Act.put, List.setIfInBounds_toArray, List.set_cons_zero, List.set_cons_succ]; exact rfl))))
              refine takeY_nil (then_nil ?_)
              clear r1 r2 r3 r7 r8
              cases hte : kpS by_ (cut + under 1 j) (.mk k1 n1 ks1) with
              | false =>
                have hte' := hide hte
                clear hte
                go_wp2_with (go_at_call 147; refine (ih k1 n1 ks1 A1 c1 (cut + under 1 j) by_ q _ (by omega) (by omega) H4.out hby (by omega) (by omega) hr1.drew).mono ?_; rw [hte'.out]; rintro e w1 ⟨rfl, hb1⟩)
                go_ret
                exact ⟨ret_bool (kpSL_no by_ 1 cut hlt (by rw [H3.out]; exact hte'.out)).symm, hb.drew.trans (hb1.mono (by simpa using hb.size))⟩
              | true =>
                have hte' := hide hte
                clear hte
                go_wp2_with (go_at_call 147; refine (ih k1 n1 ks1 A1 c1 (cut + under 1 j) by_ q _ (by omega) (by omega) H4.out hby (by omega) (by omega) hr1.drew).mono ?_; rw [hte'.out]; rintro e w1 ⟨rfl, hb1⟩)
                replace hb1 : Below wr.heap.size wr w1 := (Below.refl _ _).drew.trans hb1
                go_roundw
                case rel => exact ⟨j + 1, by omega, by go_num, hide (by rw [kpSL_take by_ 1 cut hlt, hall.out, H3.out, hte'.out]; rfl), hB1.keep hb1, hb.trans (hb1.mono hb.size)⟩
                case measure => simp [intOf]; omega
            · go_wp2_with fail
              go_ret
              have hjl : j = ks.length := by omega
              have h5 := hall.out
              rw [hjl, List.take_length] at h5
              exact ⟨ret_bool h5.symm, hb⟩
        · have q1 : decide (cut ≤ n) = false := decide_eq_false h2
          clear h2
          go_enter Try.func147, Try.ntmps147
          go_wp2_with fail
          go_loopw [7] (fun i wr => ∃ (j : Nat), j ≤ ks.length ∧ i = .int .i64 j ∧ Hid (kpSL by_ 1 cut 0 (ks.take j) = true) ∧ Blk wr w.heap.size #[.int .i64 1, .int .i64 n, .slice A ks.length c] ∧ Below w.heap.size w wr) (fun i _ => ks.length - (intOf i).toNat)
          case atStart => exact ⟨0, Nat.zero_le _, rfl, hide rfl, Blk.new_ _ _ _ rfl, (Below.refl _ _).alloc (Nat.le_refl _) _⟩
          case round =>
            obtain ⟨j, hj, rfl, hall, hB1, hb⟩ := hrel
            have b2 := hB1.at_ (i := 2) rfl
            by_cases hlt : j < ks.length
            · obtain ⟨b, off, k1, n1, ks1, A1, c1, rfl, hkj, hc1, hc2, hc3, hl1, hr1⟩ := (hr.below hb).at_ hlt
              have hsz := sizes_le (List.getElem_mem hlt)
              have hsk := hkids'.out _ (List.getElem_mem hlt)
              rw [hkj] at hsz hsk
              simp only [Tm.size] at hsz
              have H3 := hide hkj
              have H4 := hide hsk
              clear hkj hsk
              go_wp2_with fail
              have r1 := rule_of hc1
              have r2 := rule_of hc2
              have r3 := rule_of hc3
              have r7 := hB1.rule (i := 2) rfl
              have r8 := hB1.rule (i := 0) rfl
              have hun := under_le 1 j
              refine wp_region_firstY (fun w' => Below wr.heap.size wr w') [0, 1, 2, 3, 4, 5, 6, 7, 8, 9, 10, 11] [] [12, 13] [_, _, _, _, _, _, _, _, _, _, _, _] [] [_, _] (by kernel_rfl) (by kernel_rfl) rfl rfl rfl (fun _ _ d _ _ h => by cases d <;> exact h) (Below.refl _ _).drew ?_
              repeat (first | ((refine takeY_skip (a' := ?_) ?_ ?_ ?_); (rotate_left); (· (simp [Region.wanted, yielded]; done)); (· (simp only [List.getElem_toArray, List.getElem_cons_zero, List.getElem_cons_succ, Act.put, List.setIfInBounds_toArray, List.set_cons_zero, List.set_cons_succ]; exact rfl))) | ((refine takeY_step (v := ?_) (a' := ?_) ?_ ?_ ?_ ?_); (rotate_left 2); (· (simp [Region.wanted, yielded]; done)); (· (intro w' hS'; go_simp; try (with_reducible rfl))); (· (simp only [List.getElem_toArray, List.getElem_cons_zero, List.getElem_cons_succ, Act.put, List.setIfInBounds_toArray, List.set_cons_zero, List.set_cons_succ]; exact rfl))) | ((refine takeY_call (v := ?_) (a' := ?_) 109 ?_ ?_ ?_ ?_ ?_ ?_); (rotate_left 3); (· (simp [Region.wanted, yielded]; done)); (· (intro w' hS'; go_simp; try (with_reducible rfl))); (· (intro w' hS'; exact sUnder_any _ _ _)); (· (simp only [List.getElem_toArray, List.getElem_cons_zero, List.getElem_cons_succ, Act.put, List.setIfInBounds_toArray, List.set_cons_zero, List.set_cons_succ]; exact rfl))))
              refine takeY_nil (then_nil ?_)
              clear r1 r2 r3 r7 r8
              cases hte : kpS by_ (cut + under 1 j) (.mk k1 n1 ks1) with
              | false =>
                have hte' := hide hte
                clear hte
                go_wp2_with (go_at_call 147; refine (ih k1 n1 ks1 A1 c1 (cut + under 1 j) by_ q _ (by omega) (by omega) H4.out hby (by omega) (by omega) hr1.drew).mono ?_; rw [hte'.out]; rintro e w1 ⟨rfl, hb1⟩)
                go_ret
                exact ⟨ret_bool (kpSL_no by_ 1 cut hlt (by rw [H3.out]; exact hte'.out)).symm, hb.drew.trans (hb1.mono (by simpa using hb.size))⟩
              | true =>
                have hte' := hide hte
                clear hte
                go_wp2_with (go_at_call 147; refine (ih k1 n1 ks1 A1 c1 (cut + under 1 j) by_ q _ (by omega) (by omega) H4.out hby (by omega) (by omega) hr1.drew).mono ?_; rw [hte'.out]; rintro e w1 ⟨rfl, hb1⟩)
                replace hb1 : Below wr.heap.size wr w1 := (Below.refl _ _).drew.trans hb1
                go_roundw
                case rel => exact ⟨j + 1, by omega, by go_num, hide (by rw [kpSL_take by_ 1 cut hlt, hall.out, H3.out, hte'.out]; rfl), hB1.keep hb1, hb.trans (hb1.mono hb.size)⟩
                case measure => simp [intOf]; omega
            · go_wp2_with fail
              go_ret
              have hjl : j = ks.length := by omega
              have h5 := hall.out
              rw [hjl, List.take_length] at h5
              exact ⟨ret_bool h5.symm, hb⟩
      · have q0 : (k == 1) = false := by simpa using h1
        clear h1
        go_enter Try.func147, Try.ntmps147
        go_wp2_with fail
        go_loopw [7] (fun i wr => ∃ (j : Nat), j ≤ ks.length ∧ i = .int .i64 j ∧ Hid (kpSL by_ k cut 0 (ks.take j) = true) ∧ Blk wr w.heap.size #[.int .i64 k, .int .i64 n, .slice A ks.length c] ∧ Below w.heap.size w wr) (fun i _ => ks.length - (intOf i).toNat)
        case atStart => exact ⟨0, Nat.zero_le _, rfl, hide rfl, Blk.new_ _ _ _ rfl, (Below.refl _ _).alloc (Nat.le_refl _) _⟩
        case round =>
          obtain ⟨j, hj, rfl, hall, hB1, hb⟩ := hrel
          have b2 := hB1.at_ (i := 2) rfl
          by_cases hlt : j < ks.length
          · obtain ⟨b, off, k1, n1, ks1, A1, c1, rfl, hkj, hc1, hc2, hc3, hl1, hr1⟩ := (hr.below hb).at_ hlt
            have hsz := sizes_le (List.getElem_mem hlt)
            have hsk := hkids'.out _ (List.getElem_mem hlt)
            rw [hkj] at hsz hsk
            simp only [Tm.size] at hsz
            have H3 := hide hkj
            have H4 := hide hsk
            clear hkj hsk
            go_wp2_with fail
            have r1 := rule_of hc1
            have r2 := rule_of hc2
            have r3 := rule_of hc3
            have r7 := hB1.rule (i := 2) rfl
            have r8 := hB1.rule (i := 0) rfl
            have hun := under_le k j
            refine wp_region_firstY (fun w' => Below wr.heap.size wr w') [0, 1, 2, 3, 4, 5, 6, 7, 8, 9, 10, 11] [] [12, 13] [_, _, _, _, _, _, _, _, _, _, _, _] [] [_, _] (by kernel_rfl) (by kernel_rfl) rfl rfl rfl (fun _ _ d _ _ h => by cases d <;> exact h) (Below.refl _ _).drew ?_
            repeat (first | ((refine takeY_skip (a' := ?_) ?_ ?_ ?_); (rotate_left); (· (simp [Region.wanted, yielded]; done)); (· (simp only [List.getElem_toArray, List.getElem_cons_zero, List.getElem_cons_succ, Act.put, List.setIfInBounds_toArray, List.set_cons_zero, List.set_cons_succ]; exact rfl))) | ((refine takeY_step (v := ?_) (a' := ?_) ?_ ?_ ?_ ?_); (rotate_left 2); (· (simp [Region.wanted, yielded]; done)); (· (intro w' hS'; go_simp; try (with_reducible rfl))); (· (simp only [List.getElem_toArray, List.getElem_cons_zero, List.getElem_cons_succ, Act.put, List.setIfInBounds_toArray, List.set_cons_zero, List.set_cons_succ]; exact rfl))) | ((refine takeY_call (v := ?_) (a' := ?_) 109 ?_ ?_ ?_ ?_ ?_ ?_); (rotate_left 3); (· (simp [Region.wanted, yielded]; done)); (· (intro w' hS'; go_simp; try (with_reducible rfl))); (· (intro w' hS'; exact sUnder_any _ _ _)); (· (simp only [List.getElem_toArray, List.getElem_cons_zero, List.getElem_cons_succ, Act.put, List.setIfInBounds_toArray, List.set_cons_zero, List.set_cons_succ]; exact rfl))))
            refine takeY_nil (then_nil ?_)
            clear r1 r2 r3 r7 r8
            cases hte : kpS by_ (cut + under k j) (.mk k1 n1 ks1) with
            | false =>
              have hte' := hide hte
              clear hte
              go_wp2_with (go_at_call 147; refine (ih k1 n1 ks1 A1 c1 (cut + under k j) by_ q _ (by omega) (by omega) H4.out hby (by omega) (by omega) hr1.drew).mono ?_; rw [hte'.out]; rintro e w1 ⟨rfl, hb1⟩)
              go_ret
              exact ⟨ret_bool (kpSL_no by_ k cut hlt (by rw [H3.out]; exact hte'.out)).symm, hb.drew.trans (hb1.mono (by simpa using hb.size))⟩
            | true =>
              have hte' := hide hte
              clear hte
              go_wp2_with (go_at_call 147; refine (ih k1 n1 ks1 A1 c1 (cut + under k j) by_ q _ (by omega) (by omega) H4.out hby (by omega) (by omega) hr1.drew).mono ?_; rw [hte'.out]; rintro e w1 ⟨rfl, hb1⟩)
              replace hb1 : Below wr.heap.size wr w1 := (Below.refl _ _).drew.trans hb1
              go_roundw
              case rel => exact ⟨j + 1, by omega, by go_num, hide (by rw [kpSL_take by_ k cut hlt, hall.out, H3.out, hte'.out]; rfl), hB1.keep hb1, hb.trans (hb1.mono hb.size)⟩
              case measure => simp [intOf]; omega
          · go_wp2_with fail
            go_ret
            have hjl : j = ks.length := by omega
            have h5 := hall.out
            rw [hjl, List.take_length] at h5
            exact ⟨ret_bool h5.symm, hb⟩
    exact hgo
/-- the two tests of a shift down are one -/
theorem kp_ok {dp : Int} (h0 : 0 ≤ dp) (t : Tm) : ∀ (q : Nat) (d : Int), 0 ≤ d → shape q t = true → chgOk (shOk (-dp) 0) d t = kpS dp d t := by
  refine Tm.rec (motive_1 := fun t => ∀ (q : Nat) (d : Int), 0 ≤ d → shape q t = true → chgOk (shOk (-dp) 0) d t = kpS dp d t)
    (motive_2 := fun ts => ∀ (q : Nat) (k d : Int) (i : Nat), 0 ≤ d → (∀ t, t ∈ ts → shape q t = true) → chgsOk (shOk (-dp) 0) k d i ts = kpSL dp k d i ts) ?_ ?_ ?_ t
  · intro k n ks ih q d hd h
    obtain ⟨q', rfl, ha, h0, h1, hk⟩ := shape_pos h
    rw [chgOk, kpS]
    by_cases h1 : k = 1
    · subst h1
      have h20 : n ≤ 20 := by simpa [mostN] using h1
      have := var_nil ha
      subst this
      rw [if_pos rfl, shOk, kpSL]
      by_cases h2 : d ≤ n
      · rw [if_pos (by omega), decide_eq_true (show n + -dp ≤ 20 by omega), Bool.and_true]
        by_cases h3 : n < d + dp
        · rw [if_pos ⟨rfl, h2, h3⟩, decide_eq_false (by omega)]
        · rw [if_neg (by rintro ⟨-, -, h⟩; exact h3 h), decide_eq_true (by omega)]
      · rw [if_neg (by omega), if_neg (by rintro ⟨-, h, -⟩; exact h2 h)]
    · rw [if_neg h1, if_neg (by rintro ⟨h, -⟩; exact h1 h), ih q' k d 0 hd hk]
  · intro q k d i _ _; rfl
  · intro t ts h1 h2 q k d i hd hk
    rw [chgsOk, kpSL, h1 q _ (by have := under_le k i; omega) (hk t List.mem_cons_self), h2 q k d (i + 1) hd (fun t ht => hk t (List.mem_cons_of_mem _ ht))]
theorem shS_shape {dp : Int} (h0 : 0 ≤ dp) (t : Tm) : ∀ (q : Nat) (d : Int), 0 ≤ d → shape q t = true → kpS dp d t = true → shape q (shS (-dp) d t) = true := by
  refine Tm.rec (motive_1 := fun t => ∀ (q : Nat) (d : Int), 0 ≤ d → shape q t = true → kpS dp d t = true → shape q (shS (-dp) d t) = true)
    (motive_2 := fun ts => ∀ (q : Nat) (k d : Int) (i : Nat), 0 ≤ d → (∀ t, t ∈ ts → shape q t = true) → kpSL dp k d i ts = true → ∀ t, t ∈ shSL (-dp) k d i ts → shape q t = true) ?_ ?_ ?_ t
  · intro k n ks ih q d hd h hkp
    obtain ⟨q', rfl, ha, hn0, hn1, hk⟩ := shape_pos h
    rw [kpS] at hkp
    rw [shS]
    by_cases h1 : k = 1 ∧ d ≤ n ∧ n < d + dp
    · rw [if_pos h1] at hkp; cases hkp
    · rw [if_neg h1] at hkp
      refine (shape_split _ _ _ _).2 ⟨by rw [shSL_length]; exact ha, ?_, ?_, ih q' k d 0 hd hk hkp⟩
      · split
        · rename_i h2
          have : ¬ n < d + dp := fun h => h1 ⟨h2.1, h2.2, h⟩
          omega
        · exact hn0
      · split
        · omega
        · exact hn1
  · intro q k d i _ _ _ t ht; rw [shSL] at ht; cases ht
  · intro t ts h1 h2 q k d i hd hk hkp u hu
    rw [kpSL, Bool.and_eq_true] at hkp
    rw [shSL] at hu
    rcases List.mem_cons.1 hu with rfl | hu
    · exact h1 q _ (by have := under_le k i; omega) (hk t List.mem_cons_self) hkp.1
    · exact h2 q k d (i + 1) hd (fun t ht => hk t (List.mem_cons_of_mem _ ht)) hkp.2 u hu
/-- a shift down of a valid term goes well just where no variable is lost, and is the reference's -/
theorem shiftI_down {dp : Int} (h0 : 0 ≤ dp) {u : Tm} (hv : validT u = true) : shiftI (-dp) 0 u = if kpS dp 0 u = true then some (shS (-dp) 0 u) else none := by
  have hs : shape 30 u = true := by simp only [validT, Bool.and_eq_true] at hv; exact hv.1
  unfold shiftI
  rw [kp_ok h0 u 30 0 (Int.le_refl 0) hs]
  split
  · rename_i hk
    rw [shS_chg (-dp) 0 u 30 0 hs, Int.zero_add, if_pos]
    rw [validT, shS_shape h0 u 30 0 (Int.le_refl 0) hs hk, shS_size, decide_eq_true (validT_size hv)]; rfl
  · rfl
open Go.RowKit
open Go.RowKit
end Go.Proofs.Ytodkenpmhhbppaa
