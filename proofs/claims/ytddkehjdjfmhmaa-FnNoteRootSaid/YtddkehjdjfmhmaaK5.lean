/-
 Contracts of the functions that the law reaches, and plain lemmas. No condition.
-/
import Derived.Test.YtddkehjdjfmhmaaK1
import Derived.Test.YtddkehjdjfmhmaaK2
import Derived.Test.YtddkehjdjfmhmaaK3
import Derived.Test.YtddkehjdjfmhmaaK4
import Derived.WalkSpells
import Derived.WalkLawsBesides
namespace Go.Proofs.Ytddkehjdjfmhmaa
set_option linter.unusedSimpArgs false
set_option linter.unusedVariables false
open Go.RowKit
mutual
def shS (by_ : Int) : Int → Tm → Tm | cut, .mk k n ks => .mk k (if k = 1 ∧ cut ≤ n then n + by_ else n) (shSL by_ k cut 0 ks)
def shSL (by_ : Int) : Int → Int → Nat → List Tm → List Tm | _, _, _, [] => [] | k, cut, i, t :: ts => shS by_ (cut + under k i) t :: shSL by_ k cut (i + 1) ts
end
theorem shSL_append (by_ k d : Int) (us : List Tm) : ∀ (ts : List Tm) (i : Nat), shSL by_ k d i (ts ++ us) = shSL by_ k d i ts ++ shSL by_ k d (i + ts.length) us
 | [], i => by simp [shSL]
 | t :: ts, i => by rw [List.cons_append, shSL, shSL, shSL_append by_ k d us ts (i + 1), List.cons_append, List.length_cons, show i + 1 + ts.length = i + (ts.length + 1) from by omega]
theorem shSL_length (by_ k d : Int) : ∀ (ts : List Tm) (i : Nat), (shSL by_ k d i ts).length = ts.length
 | [], i => by simp [shSL]
 | t :: ts, i => by rw [shSL, List.length_cons, List.length_cons, shSL_length by_ k d ts (i + 1)]
theorem shSL_take (by_ k d : Int) {ks : List Tm} {j : Nat} (hj : j < ks.length) : shSL by_ k d 0 (ks.take (j + 1)) = shSL by_ k d 0 (ks.take j) ++ [shS by_ (d + under k j) ks[j]] := by
 rw [List.take_succ_eq_append_getElem hj, shSL_append, List.length_take, Nat.min_eq_left (Nat.le_of_lt hj), Nat.zero_add, shSL, shSL]
set_option maxHeartbeats 2000000 in
set_option maxRecDepth 100000 in
theorem sShift_any (N : Nat) : ∀ (k n : Int) (ks : List Tm) (A : Option Addr) (c : Nat) (by_ cut : Int) (q : Nat) (w : World), sizes ks < N → sizes ks ≤ 1000000000 → shape q (.mk k n ks) = true → -1000 ≤ by_ ∧ by_ ≤ 1000 → 0 ≤ cut → cut + q ≤ 1000 → Rd w A 0 ks →
  Calls Try.prog 90 #[.agg #[.int .i64 k, .int .i64 n, .slice A ks.length c], .int .i64 by_, .int .i64 cut] w (GotT w k (if k = 1 ∧ cut ≤ n then n + by_ else n) (shSL by_ k cut 0 ks)) := by
 induction N with
 | zero => intro k n ks A c by_ cut q w hN; exact absurd hN (Nat.not_lt_zero _)
 | succ N ih =>
 intro k n ks A c by_ cut q w hN hM hsh hby hc0 hcq hr
 have hlen := length_le_sizes ks
 obtain ⟨q, rfl⟩ : ∃ q', q = q' + 1 := by cases q with | zero => simp [shape] at hsh | succ q => exact ⟨q, rfl⟩
 obtain ⟨ha, hm1, hm2, hkids⟩ := (shape_split q k n ks).1 hsh
 by_cases hk : k = 1
 ·subst hk
  have hks : ks = [] := by
   have h0 : arity 1 = 0 := rfl
   rw [h0] at ha
   exact List.eq_nil_of_length_eq_zero (by omega)
  subst hks
  have h20 : mostN 1 = 20 := rfl
  rw [h20] at hm2
  clear hkids hsh ha h20
  by_cases hcn : cut ≤ n
  ·rw [if_pos ⟨rfl, hcn⟩]
   have q0 : decide (cut ≤ n) = true := by simpa using hcn
   go_enter Try.func90, Try.ntmps90
   go_wp2_with fail
   go_loopw [8] (fun i wr => i = .int .i64 0 ∧ Blk wr (w.heap.size + 1 + 1) #[.int .i64 1, .int .i64 (n + by_), .slice none 0 0] ∧ Blk wr (w.heap.size + 1) #[.int .i64 0, .int .i64 0, .slice none 0 0] ∧ Blk wr w.heap.size #[.int .i64 1, .int .i64 n, .slice A 0 c] ∧ Below w.heap.size w wr)
    (fun _ _ => 0)
   case atStart => exact ⟨rfl, Blk.new_ _ _ _ (by simp), (Blk.new_ _ _ _ (by simp)).alloc _, ((Blk.new_ _ _ _ rfl).alloc _).alloc _, (((Below.refl _ _).alloc (by simp) _).alloc (by simp) _).alloc (by simp; omega) _⟩
   case round =>
    obtain ⟨rfl, hB3, hB2, hB1, hb⟩ := hrel
    have b2 := hB1.at_ (i := 2) rfl
    have c0 : wr.cell? ⟨w.heap.size + 1 + 1, 0, none⟩ = some (.int .i64 1) := hB3.at_ rfl
    have c1 : wr.cell? ⟨w.heap.size + 1 + 1, 1, none⟩ = some (.int .i64 (n + by_)) := hB3.at_ rfl
    have c2 : wr.cell? ⟨w.heap.size + 1 + 1, 2, none⟩ = some (.slice none 0 0) := hB3.at_ rfl
    have d0 : wr.cell? ⟨w.heap.size + 1, 0, none⟩ = some (.int .i64 0) := hB2.at_ rfl
    have d1 : wr.cell? ⟨w.heap.size + 1, 1, none⟩ = some (.int .i64 0) := hB2.at_ rfl
    have d2 : wr.cell? ⟨w.heap.size + 1, 2, none⟩ = some (.slice none 0 0) := hB2.at_ rfl
    have e0 := hB2.frozen 0
    have e1 := hB2.frozen 1
    have e2 := hB2.frozen 2
    go_wp2_with fail
    refine bodyPost_ret (v := .agg #[.int .i64 1, .int .i64 (n + by_), .slice none 0 0]) (by simp [results, Try.results90, go_sem, d0, d1, d2]) rfl ⟨none, 0, by simp [shSL], by simp [shSL], ?_, ?_⟩
    ·simpa [shSL] using (Fresh.nil : Fresh w.heap.size _ none [])
    ·exact ((hb.setCell (by simp) _).setCell (by simp) _).setCell (by simp) _
  ·rw [if_neg (by rintro ⟨-, h⟩; exact hcn h)]
   have q0 : decide (cut ≤ n) = false := by simpa using hcn
   go_enter Try.func90, Try.ntmps90
   go_wp2_with fail
   go_loopw [8] (fun i wr => i = .int .i64 0 ∧ Blk wr (w.heap.size + 1 + 1) #[.int .i64 1, .int .i64 (n), .slice none 0 0] ∧ Blk wr (w.heap.size + 1) #[.int .i64 0, .int .i64 0, .slice none 0 0] ∧ Blk wr w.heap.size #[.int .i64 1, .int .i64 n, .slice A 0 c] ∧ Below w.heap.size w wr)
    (fun _ _ => 0)
   case atStart => exact ⟨rfl, Blk.new_ _ _ _ (by simp), (Blk.new_ _ _ _ (by simp)).alloc _, ((Blk.new_ _ _ _ rfl).alloc _).alloc _, (((Below.refl _ _).alloc (by simp) _).alloc (by simp) _).alloc (by simp; omega) _⟩
   case round =>
    obtain ⟨rfl, hB3, hB2, hB1, hb⟩ := hrel
    have b2 := hB1.at_ (i := 2) rfl
    have c0 : wr.cell? ⟨w.heap.size + 1 + 1, 0, none⟩ = some (.int .i64 1) := hB3.at_ rfl
    have c1 : wr.cell? ⟨w.heap.size + 1 + 1, 1, none⟩ = some (.int .i64 (n)) := hB3.at_ rfl
    have c2 : wr.cell? ⟨w.heap.size + 1 + 1, 2, none⟩ = some (.slice none 0 0) := hB3.at_ rfl
    have d0 : wr.cell? ⟨w.heap.size + 1, 0, none⟩ = some (.int .i64 0) := hB2.at_ rfl
    have d1 : wr.cell? ⟨w.heap.size + 1, 1, none⟩ = some (.int .i64 0) := hB2.at_ rfl
    have d2 : wr.cell? ⟨w.heap.size + 1, 2, none⟩ = some (.slice none 0 0) := hB2.at_ rfl
    have e0 := hB2.frozen 0
    have e1 := hB2.frozen 1
    have e2 := hB2.frozen 2
    go_wp2_with fail
    refine bodyPost_ret (v := .agg #[.int .i64 1, .int .i64 (n), .slice none 0 0]) (by simp [results, Try.results90, go_sem, d0, d1, d2]) rfl ⟨none, 0, by simp [shSL], by simp [shSL], ?_, ?_⟩
    ·simpa [shSL] using (Fresh.nil : Fresh w.heap.size _ none [])
    ·exact ((hb.setCell (by simp) _).setCell (by simp) _).setCell (by simp) _
 have hkids' := hide hkids
 have hm2' := hide hm2
 clear hkids ha hsh hm2
 have hk' := hk
 by_cases hk : k = 1
 ·exact absurd hk hk'
 ·have hn : (if k = 1 ∧ cut ≤ n then n + by_ else n) = n := by rw [if_neg]; rintro ⟨h, -⟩; exact hk h
  have q1 : (k == 1) = false := by simpa using hk
  rw [hn]
  clear hn hk
  go_enter Try.func90, Try.ntmps90
  go_wp2_with fail
  go_loopw [8] (fun i wr => ∃ (j : Nat) (v : Value), j ≤ ks.length ∧ i = .int .i64 j ∧ Part (w.heap.size + 3) wr v (shSL by_ k cut 0 (ks.take j)) ∧ Blk wr (w.heap.size + 1 + 1) #[.int .i64 k, .int .i64 (n), v] ∧ Blk wr (w.heap.size + 1) #[.int .i64 0, .int .i64 0, .slice none 0 0] ∧ Blk wr w.heap.size #[.int .i64 k, .int .i64 n, .slice A ks.length c] ∧ Below w.heap.size w wr)
   (fun i _ => ks.length - (intOf i).toNat)
  case atStart => exact ⟨0, _, Nat.zero_le _, rfl, Part.nil, Blk.new_ _ _ _ (by simp), (Blk.new_ _ _ _ (by simp)).alloc _, ((Blk.new_ _ _ _ rfl).alloc _).alloc _, (((Below.refl _ _).alloc (by simp) _).alloc (by simp) _).alloc (by simp; omega) _⟩
  case round =>
   obtain ⟨j, v, hj, rfl, hp, hB3, hB2, hB1, hb⟩ := hrel
   have c12 := hB1.at_ (i := 2) rfl
   by_cases hlt : j < ks.length
   ·obtain ⟨b, off, k', n', ks', A', c', rfl, hkj, hc1, hc2, hc3, hl', hr'⟩ := (hr.below hb).at_ hlt
    have hsz := sizes_le (List.getElem_mem hlt)
    have hsk := hkids'.out _ (List.getElem_mem hlt)
    rw [hkj] at hsz hsk
    simp only [Tm.size] at hsz
    have H3 := hide hkj
    have H4 := hide hsk
    clear hkj hsk
    have hz := hB3.lt
    go_wp2_with fail
    have x2 := hB3.rule (i := 2) rfl
    have b0 := hB1.rule (i := 0) rfl
    have b2 := hB1.rule (i := 2) rfl
    have y0 := rule_of hc1
    have y1 := rule_of hc2
    have y2 := rule_of hc3
    have hun := under_le k j
    refine wp_region_firstY (fun w' => Below wr.heap.size wr w') [0, 1, 2, 3, 4, 5, 6, 7, 8, 9, 10, 11, 12, 13] [14, 15] [16, 17, 18] [_, _, _, _, _, _, _, _, _, _, _, _, _, _] [_, _] [_, _, _] (by kernel_rfl) (by kernel_rfl) rfl rfl rfl (fun _ _ d _ _ h => by cases d <;> exact h) (Below.refl _ _).drew ?_
    repeat (first | ((refine takeY_skip (a' := ?_) ?_ ?_ ?_); (rotate_left); (· (simp [Region.wanted, yielded]; done)); (· (simp only [List.getElem_toArray, List.getElem_cons_zero, List.getElem_cons_succ, Act.put, List.setIfInBounds_toArray, List.set_cons_zero, List.set_cons_succ]; exact rfl))) | ((refine takeY_step (v := ?_) (a' := ?_) ?_ ?_ ?_ ?_); (rotate_left 2); (· (simp [Region.wanted, yielded]; done)); (· (intro w' hS'; go_simp; try (with_reducible rfl))); (· (simp only [List.getElem_toArray, List.getElem_cons_zero, List.getElem_cons_succ, Act.put, List.setIfInBounds_toArray, List.set_cons_zero, List.set_cons_succ]; exact rfl))) | ((refine takeY_call (v := ?_) (a' := ?_) 94 ?_ ?_ ?_ ?_ ?_ ?_); (rotate_left 3); (· (simp [Region.wanted, yielded]; done)); (· (intro w' hS'; go_simp; try (with_reducible rfl))); (· (intro w' hS'; exact sUnder_any _ _ _)); (· (simp only [List.getElem_toArray, List.getElem_cons_zero, List.getElem_cons_succ, Act.put, List.setIfInBounds_toArray, List.set_cons_zero, List.set_cons_succ]; exact rfl))))
    refine takeY_nil (then_cons ?_)
    obtain ⟨n2, hn2⟩ : ∃ n2, (if k' = 1 ∧ cut + under k j ≤ n' then n' + by_ else n') = n2 := ⟨_, rfl⟩
    have hn2' := hide hn2
    clear hn2
    go_wp2_with (go_at_call 90; refine (ih k' n' ks' A' c' by_ (cut + under k j) q _ (by omega) (by omega) H4.out hby (by omega) (by omega) hr'.drew).mono ?_; rw [hn2'.out]; rintro e w1 ⟨A1, c1, rfl, hl1, hf1, hb1⟩)
    have hx1 : Below wr.heap.size wr w1 := (Below.refl _ _).drew.trans hb1
    refine mid_intro hx1 (then_cons ?_)
    go_wp2_with fail
    refine mid_intro (hx1.alloc hx1.size _) (then_nil ?_)
    refine wpList_append_built (B := w.heap.size + 3) (m := j) hp.drew hb1 (by simp; omega) hf1 hl1 (by rw [shSL_length]; simp; omega) (by omega) rfl (.tmp 36) (.tmp 50) rfl rfl rfl ?_
    intro A2 c2 w2 hp2 hb2 hg2
    have q3 : Blk w2 (w.heap.size + 1 + 1) #[.int .i64 k, .int .i64 (n), v] := (hB3.below hx1 (by omega)).below hb2 (by omega)
    have q2 : Blk w2 (w.heap.size + 1) #[.int .i64 0, .int .i64 0, .slice none 0 0] := (hB2.below hx1 (by omega)).below hb2 (by omega)
    have q1' : Blk w2 w.heap.size #[.int .i64 k, .int .i64 n, .slice (some ⟨b, off, none⟩) ks.length c] := (hB1.below hx1 (by omega)).below hb2 (by omega)
    have c3 : w2.cell? ⟨w.heap.size + 1 + 1, 2, none⟩ = some v := q3.at_ rfl
    have z3 := q3.frozen 2
    have hbf : Below w.heap.size w w2 := (hb.trans (hx1.mono (by omega))).trans (hb2.mono (by omega))
    clear x2 y0 y1 y2 b0 b2
    go_wp2_with fail
    go_roundw
    case rel => exact ⟨j + 1, _, by omega, by go_num, by rw [shSL_take by_ k cut hlt, H3.out, shS, hn2'.out]; exact hp2.setCell (by simp) _, q3.set_ 2 _, q2.far (by simp) _, q1'.far (by simp; omega) _, hbf.setCell (by simp; omega) _⟩
    case measure => simp [intOf]; omega
   ·have hjl : j = ks.length := by omega
    subst hjl
    rw [List.take_length] at hp
    obtain ⟨Ar, cr, rfl, hfr⟩ := hp.fresh
    have c0 : wr.cell? ⟨w.heap.size + 1 + 1, 0, none⟩ = some (.int .i64 k) := hB3.at_ rfl
    have c1 : wr.cell? ⟨w.heap.size + 1 + 1, 1, none⟩ = some (.int .i64 (n)) := hB3.at_ rfl
    have c2 : wr.cell? ⟨w.heap.size + 1 + 1, 2, none⟩ = some (.slice Ar (shSL by_ k cut 0 ks).length cr) := hB3.at_ rfl
    have d0 : wr.cell? ⟨w.heap.size + 1, 0, none⟩ = some (.int .i64 0) := hB2.at_ rfl
    have d1 : wr.cell? ⟨w.heap.size + 1, 1, none⟩ = some (.int .i64 0) := hB2.at_ rfl
    have d2 : wr.cell? ⟨w.heap.size + 1, 2, none⟩ = some (.slice none 0 0) := hB2.at_ rfl
    have e0 := hB2.frozen 0
    have e1 := hB2.frozen 1
    have e2 := hB2.frozen 2
    go_wp2_with fail
    refine bodyPost_ret (v := .agg #[.int .i64 k, .int .i64 (n), .slice Ar (shSL by_ k cut 0 ks).length cr]) (by simp [results, Try.results90, go_sem, d0, d1, d2]) rfl ⟨Ar, cr, rfl, by rw [shSL_length]; omega, ?_, ?_⟩
    ·exact (((hfr.setCell (by simp) _).setCell (by simp) _).setCell (by simp) _).mono (by omega)
    ·exact ((hb.setCell (by simp) _).setCell (by simp) _).setCell (by simp) _
open Go.RowKit
set_option maxHeartbeats 1000000 in
theorem sLeaf_any (k n : Int) (w : World) : Calls Try.prog 28 #[.int .i64 k, .int .i64 n] w fun e w' => e = .returned (.agg #[.int .i64 k, .int .i64 n, .slice none 0 0]) ∧ Below w.heap.size w w' := by
 go_enter Try.func28, Try.ntmps28
 go_wp2_with fail
 refine bodyPost_ret (v := .agg #[.int .i64 k, .int .i64 n, .slice none 0 0]) (by simp [results, Try.results28, go_sem]) rfl ⟨rfl, ?_⟩
 exact (Below.refl _ _).alloc (Nat.le_refl _) _
mutual
def flS (args : List Tm) : Int → Tm → Tm
 | d, .mk k n ks => if k = 1 ∧ d ≤ n then (if n < d + args.length then shS d 0 (args.getD (n - d).toNat default) else .mk 1 (n - args.length) []) else .mk k n (flSL args k d 0 ks)
def flSL (args : List Tm) : Int → Int → Nat → List Tm → List Tm | _, _, _, [] => [] | k, d, i, t :: ts => flS args (d + under k i) t :: flSL args k d (i + 1) ts
end
open Go.RowKit
def filF (args : List Tm) (n d : Int) : Tm :=
 if n - d < 0 then .mk 1 n [] else if (args.length : Int) ≤ n - d then .mk 1 (n - args.length) [] else (shiftI d 0 (args.getD (n - d).toNat default)).getD (.mk 0 0 [])
def filOk (args : List Tm) (n d : Int) : Bool :=
 if n - d < 0 then true else if (args.length : Int) ≤ n - d then true else (shiftI d 0 (args.getD (n - d).toNat default)).isSome
theorem gotO_some {w : World} {k n : Int} {ks : List Tm} {e : Ending} {w' : World} (h : GotO w (some (.mk k n ks)) e w') :
  ∃ A c, e = .returned (.tuple #[.agg #[.int .i64 k, .int .i64 n, .slice A ks.length c], .bool true]) ∧ ks.length ≤ 9223372036854775807 ∧ Fresh w.heap.size w' A ks ∧ Below w.heap.size w w' := h
theorem gotO_none {w : World} {e : Ending} {w' : World} (h : GotO w none e w') : e = .returned (.tuple #[.agg #[.int .i64 0, .int .i64 0, .slice none 0 0], .bool false]) ∧ Below w.heap.size w w' := h
open Go.RowKit
theorem validT_size {t : Tm} (h : validT t = true) : t.size ≤ 400 := by simp only [validT, Bool.and_eq_true, decide_eq_true_eq] at h; exact h.2
open Go.RowKit
def TestOk (F : Nat) (p : Tm → Bool) : Prop := ∀ (k n : Int) (ks : List Tm) (A : Option Addr) (c : Nat) (w : World), sizes ks ≤ 1099511627775 → Rd w A 0 ks →
 Calls Try.prog F #[.agg #[.int .i64 k, .int .i64 n, .slice A ks.length c]] w fun e w' => e = .returned (.bool (p (.mk k n ks))) ∧ Below w.heap.size w w'
open Go.RowKit
set_option maxHeartbeats 2000000 in
set_option maxRecDepth 100000 in
theorem made_yes (k n : Int) (ks : List Tm) (A : Option Addr) (c : Nat) (w : World) (hM : sizes ks ≤ 1099511627775) (hr : Rd w A 0 ks) (hv : validT (.mk k n ks) = true) :
  Calls Try.prog 23 #[(.agg #[.int .i64 k, .int .i64 n, .slice A ks.length c])] w fun e w' => e = .returned (.tuple #[(.agg #[.int .i64 k, .int .i64 n, .slice A ks.length c]), .bool true]) ∧ Below w.heap.size w w' := by
 go_enter Try.func23, Try.ntmps23
 go_wp2_with (go_at_call 30; refine (sTermValid_any k n ks A c _ hM ((hr.alloc _).alloc _)).mono ?_; rw [hv]; rintro e w1 ⟨rfl, hb1⟩; have hB : Blk w1 w.heap.size #[.int .i64 k, .int .i64 n, .slice A ks.length c] := ((Blk.new_ w 25 #[.int .i64 k, .int .i64 n, .slice A ks.length c] rfl).alloc _).keep hb1; have hT : Blk w1 (w.heap.size + 1) #[.int .i64 0, .int .i64 0, .slice none 0 0] := (Blk.new_ _ 25 _ (by simp)).keep hb1; obtain ⟨p0, p1, p2⟩ := hB.three; obtain ⟨d0, d1, d2⟩ := hT.three; have e0 := hT.frozen 0; have e1 := hT.frozen 1; have e2 := hT.frozen 2; replace hb1 : Below w.heap.size w w1 := (((Below.refl _ _).alloc (Nat.le_refl _) _).alloc (by simp) _).trans (hb1.mono (by simp; omega)))
 refine bodyPost_ret (v := .tuple #[(.agg #[.int .i64 k, .int .i64 n, .slice A ks.length c]), .bool true]) (by simp [results, Try.results23, go_sem, d0, d1, d2]) rfl ⟨rfl, ?_⟩
 exact ((hb1.setCell (by simp) _).setCell (by simp) _).setCell (by simp) _
set_option maxHeartbeats 2000000 in
set_option maxRecDepth 100000 in
theorem made_no (k n : Int) (ks : List Tm) (A : Option Addr) (c : Nat) (w : World) (hM : sizes ks ≤ 1099511627775) (hr : Rd w A 0 ks) (hv : validT (.mk k n ks) = false) :
  Calls Try.prog 23 #[(.agg #[.int .i64 k, .int .i64 n, .slice A ks.length c])] w fun e w' => e = .returned (.tuple #[.agg #[.int .i64 0, .int .i64 0, .slice none 0 0], .bool false]) ∧ Below w.heap.size w w' := by
 go_enter Try.func23, Try.ntmps23
 go_wp2_with (go_at_call 30; refine (sTermValid_any k n ks A c _ hM ((hr.alloc _).alloc _)).mono ?_; rw [hv]; rintro e w1 ⟨rfl, hb1⟩; have hT : Blk w1 (w.heap.size + 1) #[.int .i64 0, .int .i64 0, .slice none 0 0] := (Blk.new_ _ 25 _ (by simp)).keep hb1; obtain ⟨d0, d1, d2⟩ := hT.three; have e0 := hT.frozen 0; have e1 := hT.frozen 1; have e2 := hT.frozen 2; replace hb1 : Below w.heap.size w w1 := (((Below.refl _ _).alloc (Nat.le_refl _) _).alloc (by simp) _).trans (hb1.mono (by simp; omega)))
 refine bodyPost_ret (v := .tuple #[.agg #[.int .i64 0, .int .i64 0, .slice none 0 0], .bool false]) (by simp [results, Try.results23, go_sem, d0, d1, d2]) rfl ⟨rfl, ?_⟩
 exact ((hb1.setCell (by simp) _).setCell (by simp) _).setCell (by simp) _
theorem shS_size (by_ : Int) (t : Tm) : ∀ d, (shS by_ d t).size = t.size := by
 refine Tm.rec (motive_1 := fun t => ∀ d, (shS by_ d t).size = t.size) (motive_2 := fun ts => ∀ k d i, sizes (shSL by_ k d i ts) = sizes ts) ?_ ?_ ?_ t
 ·intro k n ks ih d; rw [shS, Tm.size, Tm.size, ih]
 ·intro k d i; rfl
 ·intro t ts h1 h2 k d i; rw [shSL, sizes, sizes, h1, h2]
open Go.RowKit
theorem shape_pos {q : Nat} {k n : Int} {ks : List Tm} (h : shape q (.mk k n ks) = true) : ∃ q', q = q' + 1 ∧ arity k = (ks.length : Int) ∧ 0 ≤ n ∧ n ≤ mostN k ∧ ∀ t, t ∈ ks → shape q' t = true := by
 cases q with
 | zero => simp [shape] at h
 | succ q => exact ⟨q, rfl, (shape_split q k n ks).1 h⟩
theorem var_nil {ks : List Tm} (h : arity 1 = (ks.length : Int)) : ks = [] := by
 have h0 : arity 1 = 0 := rfl
 rw [h0] at h
 exact List.eq_nil_of_length_eq_zero (by omega)
theorem shS_chg (by_ cut : Int) (t : Tm) : ∀ (q : Nat) (e : Int), shape q t = true → chg (shF by_ cut) e t = shS by_ (cut + e) t := by
 refine Tm.rec (motive_1 := fun t => ∀ (q : Nat) (e : Int), shape q t = true → chg (shF by_ cut) e t = shS by_ (cut + e) t)
  (motive_2 := fun ts => ∀ (q : Nat) (k e : Int) (i : Nat), (∀ t, t ∈ ts → shape q t = true) → chgs (shF by_ cut) k e i ts = shSL by_ k (cut + e) i ts) ?_ ?_ ?_ t
 ·intro k n ks ih q e h
  obtain ⟨q', rfl, ha, h0, h1, hk⟩ := shape_pos h
  rw [chg, shS]
  by_cases h1 : k = 1
  ·subst h1
   have := var_nil ha
   subst this
   rw [if_pos rfl, shF, shSL]
   congr 1
   by_cases hc : cut ≤ n - e
   ·rw [if_pos hc, if_pos ⟨rfl, by omega⟩]
   ·rw [if_neg hc, if_neg (by rintro ⟨-, h⟩; omega)]
  ·rw [if_neg h1, if_neg (by rintro ⟨h, -⟩; exact h1 h), ih q' k e 0 hk]
 ·intro q k e i _; rfl
 ·intro t ts h1 h2 q k e i hk
  rw [chgs, shSL, h1 q _ (hk t List.mem_cons_self), h2 q k e (i + 1) (fun t ht => hk t (List.mem_cons_of_mem _ ht)), show cut + (e + under k i) = cut + e + under k i by omega]
theorem shOk_of_shape (by_ cut : Int) (hb : 0 ≤ by_) (t : Tm) : ∀ (q p : Nat) (e : Int), shape q t = true → shape p (shS by_ (cut + e) t) = true → chgOk (shOk by_ cut) e t = true := by
 refine Tm.rec (motive_1 := fun t => ∀ (q p : Nat) (e : Int), shape q t = true → shape p (shS by_ (cut + e) t) = true → chgOk (shOk by_ cut) e t = true)
  (motive_2 := fun ts => ∀ (q p : Nat) (k e : Int) (i : Nat), (∀ t, t ∈ ts → shape q t = true) → (∀ t, t ∈ shSL by_ k (cut + e) i ts → shape p t = true) → chgsOk (shOk by_ cut) k e i ts = true) ?_ ?_ ?_ t
 ·intro k n ks ih q p e h hp
  obtain ⟨q', rfl, ha, h0, h1, hk⟩ := shape_pos h
  rw [shS] at hp
  obtain ⟨p', rfl, hpa, hp0, hp1, hpk⟩ := shape_pos hp
  rw [chgOk]
  by_cases h1 : k = 1
  ·subst h1
   have h20 : mostN 1 = 20 := rfl
   rw [if_pos rfl, shOk]
   by_cases hc : cut ≤ n - e
   ·rw [if_pos ⟨rfl, by omega⟩] at hp1
    rw [if_pos hc, decide_eq_true (by omega), decide_eq_true (by omega)]; rfl
   ·rw [if_neg hc]
  ·rw [if_neg h1]; exact ih q' p' k e 0 hk hpk
 ·intro q p k e i _ _; rfl
 ·intro t ts h1 h2 q p k e i hk hp
  rw [shSL] at hp
  rw [chgsOk, h1 q p _ (hk t List.mem_cons_self) (by rw [show cut + (e + under k i) = cut + e + under k i by omega]; exact hp _ List.mem_cons_self), h2 q p k e (i + 1) (fun t ht => hk t (List.mem_cons_of_mem _ ht)) (fun t ht => hp t (List.mem_cons_of_mem _ ht))]; rfl
theorem shape_up {p q : Nat} (h : p ≤ q) (t : Tm) : shape p t = true → shape q t = true := by
 induction p generalizing q t with
 | zero => intro hp; simp [shape] at hp
 | succ p ih =>
  intro hp
  obtain ⟨k, n, ks⟩ := t
  obtain ⟨q', rfl⟩ : ∃ q', q = q' + 1 := ⟨q - 1, by omega⟩
  obtain ⟨a, b, c, d⟩ := (shape_split p k n ks).1 hp
  exact (shape_split q' k n ks).2 ⟨a, b, c, fun t ht => ih (by omega) t (d t ht)⟩
theorem shiftI_some {d : Int} {a : Tm} (hs : shape 30 a = true) (h : (shiftI d 0 a).isSome = true) : (shiftI d 0 a).getD (.mk 0 0 []) = shS d 0 a := by
 unfold shiftI at h ⊢
 split
 ·rename_i h1
  rw [if_pos h1] at h
  split
  ·rw [Option.getD_some, shS_chg d 0 a 30 0 hs, Int.zero_add]
  ·rename_i h2; rw [if_neg h2] at h; cases h
 ·rename_i h1; rw [if_neg h1] at h; cases h
theorem shiftI_ok {d : Int} {a : Tm} (hd : 0 ≤ d) (hs : shape 30 a = true) (h : validT (shS d 0 a) = true) : (shiftI d 0 a).isSome = true := by
 have hsh : shape 30 (shS d 0 a) = true := by simp only [validT, Bool.and_eq_true] at h; exact h.1
 have h1 : chgOk (shOk d 0) 0 a = true := shOk_of_shape d 0 hd a 30 30 0 hs (by rw [Int.zero_add]; exact hsh)
 unfold shiftI
 rw [if_pos h1, shS_chg d 0 a 30 0 hs, Int.zero_add, if_pos h]; rfl
section
variable {args : List Tm} (hsa : ∀ t, t ∈ args → shape 30 t = true)
include hsa
theorem filled (t : Tm) : ∀ (q : Nat) (d : Int), 0 ≤ d → shape q t = true → chgOk (filOk args) d t = true → chg (filF args) d t = flS args d t := by
 refine Tm.rec (motive_1 := fun t => ∀ (q : Nat) (d : Int), 0 ≤ d → shape q t = true → chgOk (filOk args) d t = true → chg (filF args) d t = flS args d t)
  (motive_2 := fun ts => ∀ (q : Nat) (k d : Int) (i : Nat), 0 ≤ d → (∀ t, t ∈ ts → shape q t = true) → chgsOk (filOk args) k d i ts = true → chgs (filF args) k d i ts = flSL args k d i ts) ?_ ?_ ?_ t
 ·intro k n ks ih q d hd h hok
  obtain ⟨q', rfl, ha, h0, h1, hk⟩ := shape_pos h
  rw [chgOk] at hok
  rw [chg, flS]
  by_cases h1 : k = 1
  ·subst h1
   have := var_nil ha
   subst this
   rw [if_pos rfl] at hok ⊢
   unfold filOk at hok
   unfold filF
   by_cases h2 : n - d < 0
   ·rw [if_pos h2, if_neg (by rintro ⟨-, h⟩; omega), flSL]
   ·rw [if_neg h2] at hok ⊢
    rw [if_pos (show (1 : Int) = 1 ∧ d ≤ n from ⟨rfl, by omega⟩)]
    by_cases h3 : (args.length : Int) ≤ n - d
    ·rw [if_pos h3, if_neg (show ¬ n < d + (args.length : Int) by omega)]
    ·rw [if_neg h3] at hok ⊢
     rw [if_pos (show n < d + (args.length : Int) by omega)]
     have hlt : (n - d).toNat < args.length := by omega
     have hsx : shape 30 (args.getD (n - d).toNat default) = true := by
      rw [List.getD_eq_getElem?_getD, List.getElem?_eq_getElem hlt, Option.getD_some]; exact hsa _ (List.getElem_mem hlt)
     exact shiftI_some hsx hok
  ·rw [if_neg h1] at hok ⊢
   rw [if_neg (by rintro ⟨h, -⟩; exact h1 h), ih q' k d 0 hd hk hok]
 ·intro q k d i _ _ _; rfl
 ·intro t ts h1 h2 q k d i hd hk hok
  rw [chgsOk, Bool.and_eq_true] at hok
  rw [chgs, flSL, h1 q _ (by have := under_le k i; omega) (hk t List.mem_cons_self) hok.1, h2 q k d (i + 1) hd (fun t ht => hk t (List.mem_cons_of_mem _ ht)) hok.2]
end
open Go.RowKit
open Go.RowKit
mutual
def tmEq : Tm → Tm → Bool
 | .mk k n ks, .mk k' n' ks' => k == k' && n == n' && tmsEq ks ks'
def tmsEq : List Tm → List Tm → Bool
 | [], [] => true
 | t :: ts, u :: us => tmEq t u && tmsEq ts us
 | _, _ => false
end
theorem tmEq_both : (∀ t u, tmEq t u = true ↔ t = u) ∧ (∀ ts us, tmsEq ts us = true ↔ ts = us) := by
 refine Tm.ind2 (fun k n ks ih u => ?_) (fun us => ?_) (fun t ts h1 h2 us => ?_)
 ·obtain ⟨k', n', ks'⟩ := u
  simp only [tmEq, Bool.and_eq_true, beq_iff_eq, ih, Tm.mk.injEq, and_assoc]
 ·cases us <;> simp [tmsEq]
 ·cases us with
  | nil => simp [tmsEq]
  | cons u us => simp only [tmsEq, Bool.and_eq_true, h1, h2, List.cons.injEq]
theorem tmEq_iff {t u : Tm} : tmEq t u = true ↔ t = u := tmEq_both.1 t u
theorem tmsEq_iff {ts us : List Tm} : tmsEq ts us = true ↔ ts = us := tmEq_both.2 ts us
theorem tmEq_self (t : Tm) : tmEq t t = true := tmEq_iff.2 rfl
theorem tmsEq_self (ts : List Tm) : tmsEq ts ts = true := tmsEq_iff.2 rfl
theorem tmsEq_false {ts us : List Tm} (h : ts ≠ us) : tmsEq ts us = false := by
 cases e : tmsEq ts us with
 | false => rfl
 | true => exact absurd (tmsEq_iff.1 e) h
open Go.RowKit
theorem tmEq_head {k n k' n' : Int} {ks ls : List Tm} (h : ¬ (k = k' ∧ n = n' ∧ ks.length = ls.length)) : tmEq (.mk k n ks) (.mk k' n' ls) = false := by
 cases e : tmEq (.mk k n ks) (.mk k' n' ls) with
 | false => rfl
 | true => have := tmEq_iff.1 e; injection this with h1 h2 h3; exact absurd ⟨h1, h2, by rw [h3]⟩ h
theorem tmEq_kids {k n : Int} {ks ls : List Tm} : tmEq (.mk k n ks) (.mk k n ls) = tmsEq ks ls := by
 by_cases h : ks = ls
 ·subst h; rw [tmEq_self, tmsEq_self]
 ·rw [tmsEq_false h]
  cases e : tmEq (.mk k n ks) (.mk k n ls) with
  | false => rfl
  | true => have := tmEq_iff.1 e; injection this with h1 h2 h3; exact absurd h3 h
set_option maxHeartbeats 2000000 in
set_option maxRecDepth 100000 in
theorem sSame_any (N : Nat) : ∀ (k n : Int) (ks : List Tm) (A : Option Addr) (c : Nat) (k' n' : Int) (ls : List Tm) (B : Option Addr) (d : Nat) (w : World), sizes ks < N → ks.length ≤ 9223372036854775807 → ls.length ≤ 9223372036854775807 → Rd w A 0 ks → Rd w B 0 ls →
      Calls Try.prog 99 #[.agg #[.int .i64 k, .int .i64 n, .slice A ks.length c], .agg #[.int .i64 k', .int .i64 n', .slice B ls.length d]] w fun e w' => e = .returned (.bool (tmEq (.mk k n ks) (.mk k' n' ls))) ∧ Below w.heap.size w w' := by
  induction N with
  | zero => intro k n ks A c k' n' ls B d w hN; exact absurd hN (Nat.not_lt_zero _)
  | succ N ih =>
  intro k n ks A c k' n' ls B d w hN hl hl' hr hr'
  have hb2 : ∀ o o', Below w.heap.size w ((w.alloc o).alloc o') := fun o o' => ((Below.refl _ _).alloc (Nat.le_refl _) _).alloc (by simp) _
  by_cases hk : k = k'
  · subst hk
    by_cases hn : n = n'
    · subst hn
      by_cases hlen : ks.length = ls.length
      · rw [tmEq_kids]
        have q1 : (k != k) = false := by simp
        have q2 : (n != n) = false := by simp
        have q3 : ((ks.length : Int) != (ls.length : Int)) = false := by simp [hlen]
        have hH := hide hlen
        have hle : ls.length ≤ ks.length := by omega
        have hge : ks.length ≤ ls.length := by omega
        clear hlen
        go_enter Try.func99, Try.ntmps99
        go_wp2_with fail
        go_loopw [5] (fun i wr => ∃ j : Nat, j ≤ ks.length ∧ i = .int .i64 j ∧ Hid (ks.take j = ls.take j) ∧ Blk wr w.heap.size #[.int .i64 k, .int .i64 n, .slice A ks.length c] ∧ Blk wr (w.heap.size + 1) #[.int .i64 k, .int .i64 n, .slice B ls.length d] ∧ Below w.heap.size w wr) (fun i _ => ks.length - (intOf i).toNat)
        case atStart => exact ⟨0, Nat.zero_le _, rfl, hide (by simp), (Blk.new_ _ _ _ rfl).alloc _, Blk.new_ _ _ _ (by simp), hb2 _ _⟩
        case round =>
          obtain ⟨j, hj, rfl, heq, hB1, hB2, hb⟩ := hrel
          have b2 := hB1.at_ (i := 2) rfl
          by_cases hlt : j < ks.length
          · have hlt' : j < ls.length := by omega
            obtain ⟨b, off, k1, n1, ks1, A1, c1, rfl, hkj, hc1, hc2, hc3, hl1, hr1⟩ := (hr.below hb).at_ hlt
            obtain ⟨b2, off2, k2, n2, ks2, A2, c2, rfl, hkj2, hd1, hd2, hd3, hl2, hr2⟩ := (hr'.below hb).at_ hlt'
            have hsz := sizes_le (List.getElem_mem hlt)
            rw [hkj] at hsz
            simp only [Tm.size] at hsz
            have H3 := hide hkj
            have H4 := hide hkj2
            clear hkj hkj2
            go_wp2_with fail
            have r1 := rule_of hc1
            have r2 := rule_of hc2
            have r3 := rule_of hc3
            have r4 := rule_of hd1
            have r5 := rule_of hd2
            have r6 := rule_of hd3
            have r7 := hB1.rule (i := 2) rfl
            have r8 := hB2.rule (i := 2) rfl
            refine wp_region_firstY (fun w' => Below wr.heap.size wr w') [0, 1, 2, 3, 4, 5, 6, 7, 8, 9] [] [10, 11] [_, _, _, _, _, _, _, _, _, _] [] [_, _] (by kernel_rfl) (by kernel_rfl) rfl rfl rfl (fun _ _ d _ _ h => by cases d <;> exact h) (Below.refl _ _).drew ?_
            repeat ((first | ((refine takeY_skip (a' := ?_) ?_ ?_ ?_); (rotate_left); (· (simp [Region.wanted, yielded]; done))) | ((refine takeY_step (v := ?_) (a' := ?_) ?_ ?_ ?_ ?_); (rotate_left 2); (· (simp [Region.wanted, yielded]; done)); (· (intro w' hS'; go_simp; try (with_reducible rfl))))); (· (simp only [List.getElem_toArray, List.getElem_cons_zero, List.getElem_cons_succ, Act.put, List.setIfInBounds_toArray, List.set_cons_zero, List.set_cons_succ]; exact rfl)))
            refine takeY_nil (then_nil ?_)
            clear r1 r2 r3 r4 r5 r6 r7 r8
            cases hte : tmEq (.mk k1 n1 ks1) (.mk k2 n2 ks2) with
            | false =>
              have hte' := hide hte
              clear hte
              go_wp2_with (go_at_call 99; refine (ih k1 n1 ks1 A1 c1 k2 n2 ks2 A2 c2 _ (by omega) hl1 hl2 hr1.drew hr2.drew).mono ?_; rw [hte'.out]; rintro e w1 ⟨rfl, hb1⟩)
              go_ret
              refine ⟨ret_bool (tmsEq_false fun e => ?_).symm, hb.drew.trans (hb1.mono (by simpa using hb.size))⟩
              have := hte'.out
              subst e
              rw [← H3.out, ← H4.out, tmEq_self] at this
              cases this
            | true =>
              have hte' := hide hte
              clear hte
              go_wp2_with (go_at_call 99; refine (ih k1 n1 ks1 A1 c1 k2 n2 ks2 A2 c2 _ (by omega) hl1 hl2 hr1.drew hr2.drew).mono ?_; rw [hte'.out]; rintro e w1 ⟨rfl, hb1⟩)
              replace hb1 : Below wr.heap.size wr w1 := (Below.refl _ _).drew.trans hb1
              go_roundw
              case rel => exact ⟨j + 1, by omega, by go_num, hide (by rw [List.take_succ_eq_append_getElem hlt, List.take_succ_eq_append_getElem hlt', heq.out, H3.out, H4.out, tmEq_iff.1 hte'.out]), hB1.keep hb1, hB2.keep hb1, hb.trans (hb1.mono hb.size)⟩
              case measure => simp [intOf]; omega
          · go_wp2_with fail
            go_ret
            have hjl : j = ks.length := by omega
            have h5 := heq.out
            rw [hjl, List.take_length, hH.out, List.take_length] at h5
            exact ⟨ret_bool (tmsEq_iff.2 h5).symm, hb⟩
      · have q1 : (k != k) = false := by simp
        have q2 : (n != n) = false := by simp
        have q3 : ((ks.length : Int) != (ls.length : Int)) = true := by simp; omega
        rw [tmEq_head (by rintro ⟨-, -, h⟩; exact hlen h)]
        clear hlen
        go_enter Try.func99, Try.ntmps99
        go_wp2_with fail
        go_ret
        exact ⟨rfl, hb2 _ _⟩
    · have q1 : (k != k) = false := by simp
      have q2 : (n != n') = true := by simpa using hn
      rw [tmEq_head (by rintro ⟨-, h, -⟩; exact hn h)]
      clear hn
      go_enter Try.func99, Try.ntmps99
      go_wp2_with fail
      go_ret
      exact ⟨rfl, hb2 _ _⟩
  · have q1 : (k != k') = true := by simpa using hk
    rw [tmEq_head (by rintro ⟨h, -⟩; exact hk h)]
    clear hk
    go_enter Try.func99, Try.ntmps99
    go_wp2_with fail
    go_ret
    exact ⟨rfl, hb2 _ _⟩
set_option maxHeartbeats 2000000 in
set_option maxRecDepth 100000 in
theorem iSame_of {N : Nat} (ih : ∀ (ks : List Tm) (A : Option Addr) (c : Nat) (ls : List Tm) (B : Option Addr) (d : Nat) (w : World), sizes ks < N → ks.length ≤ 9223372036854775807 → ls.length ≤ 9223372036854775807 → Rd w A 0 ks → Rd w B 0 ls →
      Calls Try.prog 25 #[.slice A ks.length c, .slice B ls.length d, .func (.func 7) #[] #[]] w fun e w' => e = .returned (.bool (tmsEq ks ls)) ∧ Below w.heap.size w w')
    (k n : Int) (ks : List Tm) (A : Option Addr) (c : Nat) (k' n' : Int) (ls : List Tm) (B : Option Addr) (d : Nat) (w : World) (hN : sizes ks < N) (hl : ks.length ≤ 9223372036854775807) (hl' : ls.length ≤ 9223372036854775807) (hr : Rd w A 0 ks) (hr' : Rd w B 0 ls) :
    Calls Try.prog 7 #[.agg #[.int .i64 k, .int .i64 n, .slice A ks.length c], .agg #[.int .i64 k', .int .i64 n', .slice B ls.length d]] w fun e w' => e = .returned (.bool (tmEq (.mk k n ks) (.mk k' n' ls))) ∧ Below w.heap.size w w' := by
  have hb2 : ∀ o o', Below w.heap.size w ((w.alloc o).alloc o') := fun o o' => ((Below.refl _ _).alloc (Nat.le_refl _) _).alloc (by simp) _
  by_cases hk : k = k'
  · subst hk
    by_cases hn : n = n'
    · subst hn
      rw [tmEq_kids]
      generalize ht : tmsEq ks ls = b
      have ht' := hide ht
      clear ht
      go_enter Try.func7, Try.ntmps7
      go_wp2_with (go_at_call 25; refine (ih ks A c ls B d _ hN hl hl' ((hr.alloc _).alloc _) ((hr'.alloc _).alloc _)).mono ?_; rw [ht'.out]; rintro e w1 ⟨rfl, hb1⟩; replace hb1 : Below w.heap.size w w1 := (hb2 _ _).trans (hb1.mono (by simp; omega)))
      go_ret
      exact ⟨rfl, hb1⟩
    · have q2 : (n == n') = false := by simpa using hn
      rw [tmEq_head (by rintro ⟨-, h, -⟩; exact hn h)]
      clear hn
      go_enter Try.func7, Try.ntmps7
      go_wp2_with fail
      go_ret
      exact ⟨rfl, hb2 _ _⟩
  · have q1 : (k == k') = false := by simpa using hk
    rw [tmEq_head (by rintro ⟨h, -⟩; exact hk h)]
    clear hk
    go_enter Try.func7, Try.ntmps7
    go_wp2_with fail
    go_ret
    exact ⟨rfl, hb2 _ _⟩
set_option maxHeartbeats 2000000 in
set_option maxRecDepth 100000 in
theorem iSames_any (N : Nat) : ∀ (ks : List Tm) (A : Option Addr) (c : Nat) (ls : List Tm) (B : Option Addr) (d : Nat) (w : World), sizes ks < N → ks.length ≤ 9223372036854775807 → ls.length ≤ 9223372036854775807 → Rd w A 0 ks → Rd w B 0 ls →
      Calls Try.prog 25 #[.slice A ks.length c, .slice B ls.length d, .func (.func 7) #[] #[]] w fun e w' => e = .returned (.bool (tmsEq ks ls)) ∧ Below w.heap.size w w' := by
  induction N with
  | zero => intro ks A c ls B d w hN; exact absurd hN (Nat.not_lt_zero _)
  | succ N ih =>
  intro ks A c ls B d w hN hl hl' hr hr'
  have hrun := run_enter Try.func7 (by kernel_rfl) (by kernel_rfl)
  by_cases hlen : ks.length = ls.length
  · have hq : ((ks.length : Int) != (ls.length : Int)) = false := by simp [hlen]
    have hH := hide hlen
    have hle : ls.length ≤ ks.length := by omega
    have hge : ks.length ≤ ls.length := by omega
    clear hlen
    go_enter Try.func25, Try.ntmps25
    go_wp2_with fail
    go_loopw [17] (fun i wr => ∃ j : Nat, j ≤ ks.length ∧ i = .int .i64 j ∧ Hid (ks.take j = ls.take j) ∧ Below w.heap.size w wr) (fun i _ => ks.length - (intOf i).toNat)
    case atStart => exact ⟨0, Nat.zero_le _, rfl, hide (by simp), Below.refl _ _⟩
    case round =>
      obtain ⟨j, hj, rfl, heq, hb⟩ := hrel
      by_cases hlt : j < ks.length
      · have hlt' : j < ls.length := by omega
        obtain ⟨b, off, k1, n1, ks1, A1, c1, rfl, hkj, hc1, hc2, hc3, hl1, hr1⟩ := (hr.below hb).at_ hlt
        obtain ⟨b2, off2, k2, n2, ks2, A2, c2, rfl, hkj2, hd1, hd2, hd3, hl2, hr2⟩ := (hr'.below hb).at_ hlt'
        have hbl := World.block_lt_of_cell? _ _ hc1
        have hbl2 := World.block_lt_of_cell? _ _ hd1
        have hsz := sizes_le (List.getElem_mem hlt)
        rw [hkj] at hsz
        simp only [Tm.size] at hsz
        have H3 := hide hkj
        have H4 := hide hkj2
        clear hkj hkj2
        have hx : ∀ o o', Below wr.heap.size wr ((wr.alloc o).alloc o') := fun o o' => ((Below.refl _ _).alloc (Nat.le_refl _) _).alloc (by simp) _
        cases hte : tmEq (.mk k1 n1 ks1) (.mk k2 n2 ks2) with
        | false =>
          have hte' := hide hte
          clear hte
          go_wp2_with (go_at_call 7; refine (iSame_of ih k1 n1 ks1 A1 c1 k2 n2 ks2 A2 c2 _ (by omega) hl1 hl2 ((hr1.alloc _).alloc _) ((hr2.alloc _).alloc _)).mono ?_; rw [hte'.out]; rintro e w1 ⟨rfl, hb1⟩; replace hb1 : Below wr.heap.size wr w1 := (hx _ _).trans (hb1.mono (by simp; omega)))
          go_ret
          refine ⟨ret_bool (tmsEq_false fun e => ?_).symm, hb.trans (hb1.mono hb.size)⟩
          have := hte'.out
          subst e
          rw [← H3.out, ← H4.out, tmEq_self] at this
          cases this
        | true =>
          have hte' := hide hte
          clear hte
          go_wp2_with (go_at_call 7; refine (iSame_of ih k1 n1 ks1 A1 c1 k2 n2 ks2 A2 c2 _ (by omega) hl1 hl2 ((hr1.alloc _).alloc _) ((hr2.alloc _).alloc _)).mono ?_; rw [hte'.out]; rintro e w1 ⟨rfl, hb1⟩; replace hb1 : Below wr.heap.size wr w1 := (hx _ _).trans (hb1.mono (by simp; omega)))
          go_roundw
          case rel => exact ⟨j + 1, by omega, by go_num, hide (by rw [List.take_succ_eq_append_getElem hlt, List.take_succ_eq_append_getElem hlt', heq.out, H3.out, H4.out, tmEq_iff.1 hte'.out]), hb.trans (hb1.mono hb.size)⟩
          case measure => simp [intOf]; omega
      · go_wp2_with fail
        go_ret
        have hjl : j = ks.length := by omega
        have h5 := heq.out
        rw [hjl, List.take_length, hH.out, List.take_length] at h5
        exact ⟨ret_bool (tmsEq_iff.2 h5).symm, hb⟩
  · have hq : ((ks.length : Int) != (ls.length : Int)) = true := by simp; omega
    rw [tmsEq_false (fun e => hlen (by rw [e]))]
    clear hlen
    go_enter Try.func25, Try.ntmps25
    go_wp2_with fail
    go_ret
    exact ⟨rfl, Below.refl _ _⟩
theorem iSame_any (k n : Int) (ks : List Tm) (A : Option Addr) (c : Nat) (k' n' : Int) (ls : List Tm) (B : Option Addr) (d : Nat) (w : World) (hl : ks.length ≤ 9223372036854775807) (hl' : ls.length ≤ 9223372036854775807) (hr : Rd w A 0 ks) (hr' : Rd w B 0 ls) :
  Calls Try.prog 7 #[.agg #[.int .i64 k, .int .i64 n, .slice A ks.length c], .agg #[.int .i64 k', .int .i64 n', .slice B ls.length d]] w fun e w' => e = .returned (.bool (tmEq (.mk k n ks) (.mk k' n' ls))) ∧ Below w.heap.size w w' :=
 iSame_of (N := sizes ks + 1) (iSames_any _) k n ks A c k' n' ls B d w (Nat.lt_succ_self _) hl hl' hr hr'
end Go.Proofs.Ytddkehjdjfmhmaa
