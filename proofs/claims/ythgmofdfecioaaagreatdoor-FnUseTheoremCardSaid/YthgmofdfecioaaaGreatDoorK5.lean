/-
  Contracts of the functions that the law reaches, and plain lemmas. No condition.
-/
import Derived.Test.YthgmofdfecioaaaGreatDoorK2
import Derived.Test.YthgmofdfecioaaaGreatDoorK3
import Derived.Test.YthgmofdfecioaaaGreatDoorK4
import Derived.WalkSpells
import Derived.WalkLawsBesides
namespace Go.Proofs.YthgmofdfecioaaaGreatDoor
set_option linter.unusedSimpArgs false
set_option linter.unusedVariables false
open Go.RowKit
mutual
/-- every variable replaced by what f says of it and of how many variables stand between -/
def chg (f : Int → Int → Tm) : Int → Tm → Tm
  | d, .mk k n ks => if k = 1 then f n d else .mk k n (chgs f k d 0 ks)
def chgs (f : Int → Int → Tm) : Int → Int → Nat → List Tm → List Tm
  | _, _, _, [] => []
  | k, d, i, t :: ts => chg f (d + under k i) t :: chgs f k d (i + 1) ts
end
mutual
/-- whether each replacement went well -/
def chgOk (ok : Int → Int → Bool) : Int → Tm → Bool
  | d, .mk k n ks => if k = 1 then ok n d else chgsOk ok k d 0 ks
def chgsOk (ok : Int → Int → Bool) : Int → Int → Nat → List Tm → Bool
  | _, _, _, [] => true
  | k, d, i, t :: ts => chgOk ok (d + under k i) t && chgsOk ok k d (i + 1) ts
end
theorem chgs_append (f : Int → Int → Tm) (k d : Int) (us : List Tm) : ∀ (ts : List Tm) (i : Nat), chgs f k d i (ts ++ us) = chgs f k d i ts ++ chgs f k d (i + ts.length) us
  | [], i => by simp [chgs]
  | t :: ts, i => by rw [List.cons_append, chgs, chgs, chgs_append f k d us ts (i + 1), List.cons_append, List.length_cons, show i + 1 + ts.length = i + (ts.length + 1) from by omega]
theorem chgs_length (f : Int → Int → Tm) (k d : Int) : ∀ (ts : List Tm) (i : Nat), (chgs f k d i ts).length = ts.length
  | [], i => by simp [chgs]
  | t :: ts, i => by rw [chgs, List.length_cons, List.length_cons, chgs_length f k d ts (i + 1)]
theorem chgsOk_append (ok : Int → Int → Bool) (k d : Int) (us : List Tm) : ∀ (ts : List Tm) (i : Nat), chgsOk ok k d i (ts ++ us) = (chgsOk ok k d i ts && chgsOk ok k d (i + ts.length) us)
  | [], i => by simp [chgsOk]
  | t :: ts, i => by rw [List.cons_append, chgsOk, chgsOk, chgsOk_append ok k d us ts (i + 1), List.length_cons, show i + 1 + ts.length = i + (ts.length + 1) from by omega, Bool.and_assoc]
theorem chgs_take (f : Int → Int → Tm) (k d : Int) {ks : List Tm} {j : Nat} (hj : j < ks.length) : chgs f k d 0 (ks.take (j + 1)) = chgs f k d 0 (ks.take j) ++ [chg f (d + under k j) ks[j]] := by
  rw [List.take_succ_eq_append_getElem hj, chgs_append, List.length_take, Nat.min_eq_left (Nat.le_of_lt hj), Nat.zero_add, chgs, chgs]
theorem chgsOk_take (ok : Int → Int → Bool) (k d : Int) {ks : List Tm} {j : Nat} (hj : j < ks.length) : chgsOk ok k d 0 (ks.take (j + 1)) = (chgsOk ok k d 0 (ks.take j) && chgOk ok (d + under k j) ks[j]) := by
  rw [List.take_succ_eq_append_getElem hj, chgsOk_append, List.length_take, Nat.min_eq_left (Nat.le_of_lt hj), Nat.zero_add, chgsOk, chgsOk, Bool.and_true]
theorem tm_eta (t : Tm) : ∃ k n ks, t = .mk k n ks := by cases t; exact ⟨_, _, _, rfl⟩
/-- a term handed back in new memory, a flag's block turned -/
def GotG (g : Nat) (w : World) (t : Tm) (b : Bool) (e : Ending) (w' : World) : Prop :=
  ∃ A c, e = .returned (.agg #[.int .i64 t.k, .int .i64 t.n, .slice A t.ks.length c]) ∧ t.ks.length ≤ 9223372036854775807 ∧ Fresh w.heap.size w' A t.ks ∧ Blk w' g #[.bool b] ∧ w.grownBy w' (some g)
theorem gotG_mk {g : Nat} {w : World} {k n : Int} {ks : List Tm} {b : Bool} {e : Ending} {w' : World} (h : GotG g w (.mk k n ks) b e w') :
    ∃ A c, e = .returned (.agg #[.int .i64 k, .int .i64 n, .slice A ks.length c]) ∧ ks.length ≤ 9223372036854775807 ∧ Fresh w.heap.size w' A ks ∧ Blk w' g #[.bool b] ∧ w.grownBy w' (some g) := h
theorem only_belowB {a w w' : World} {row : Option Nat} {B : Nat} (h : a.grownBy w row) (k : Below B w w') (hB : a.heap.size ≤ B) : a.grownBy w' row :=
  ⟨k.os.trans h.os, k.tape.trans h.tape, k.output.trans h.output, Nat.le_trans h.size k.size, fun i hi hne => (k.block i (by omega)).trans (h.block i hi hne)⟩
/-- what is asked of the function that is handed over -/
def FunOk (F : Nat) (caps : List Value) (W0 : World) (g : Nat) (f : Int → Int → Tm) (ok : Int → Int → Bool) : Prop :=
  ∀ (n d : Int) (w : World) (b : Bool), 0 ≤ n → n ≤ 20 → 0 ≤ d → d ≤ 60 → W0.grownBy w (some g) → Blk w g #[.bool b] → Calls Tryz.prog F (.int .i64 n :: .int .i64 d :: caps).toArray w (GotG g w (f n d) (b && ok n d))
theorem grown_trans {a w w' : World} {row : Option Nat} (h : a.grownBy w row) (k : w.grownBy w' row) : a.grownBy w' row := only_trans h k
theorem Blk.ruleG {wx : World} {g b : Nat} {cs : Array Value} (h : Blk wx b cs) (hb : b ≠ g) {i : Nat} {v : Value} (hi : cs[i]? = some v) : ∀ w' : World, wx.grownBy w' (some g) → w'.cell? ⟨b, i, none⟩ = some v :=
  fun _ hw => (h.grown hw (by simpa using hb)).at_ hi
theorem run_enter {F : Nat} {fn : Func} (hf : Tryz.prog.funcs[F]? = some fn) (h1 : (fn.name == "runtime.NumGoroutine") = false) (h2 : fn.body.isNone = false) (args : Array Value) (w : World) : (callFunc F args).run Tryz.prog w = .ok (.enter F args) w := by
  have h1' : fn.name ≠ "runtime.NumGoroutine" := by simpa using h1
  have h2' : fn.body ≠ none := by intro e; rw [e] at h2; cases h2
  simp [callFunc, go_sem, hf, h1', h2']
set_option maxHeartbeats 2000000 in
set_option maxRecDepth 100000 in
theorem changed_any {F : Nat} {caps : List Value} {W0 : World} {g : Nat} {f : Int → Int → Tm} {ok : Int → Int → Bool} (hF : FunOk F caps W0 g f ok) (hrun : ∀ (args : Array Value) (w : World), (callFunc F args).run Tryz.prog w = .ok (.enter F args) w) (N : Nat) :
    ∀ (k n : Int) (ks : List Tm) (A : Option Addr) (c : Nat) (d : Int) (q : Nat) (w : World) (b : Bool), sizes ks < N → shape q (.mk k n ks) = true → 0 ≤ d → d + q ≤ 60 → sizes ks ≤ 1099511627776 →
      W0.grownBy w (some g) → Blk w g #[.bool b] → RdP (· ≠ g) w A 0 ks →
      Calls Tryz.prog 50 #[.agg #[.int .i64 k, .int .i64 n, .slice A ks.length c], .int .i64 d, .func (.func F) #[] caps.toArray] w (GotG g w (chg f d (.mk k n ks)) (b && chgOk ok d (.mk k n ks))) := by
  induction N with
  | zero => intro k n ks A c d q w b hN; exact absurd hN (Nat.not_lt_zero _)
  | succ N ih =>
  intro k n ks A c d q w b hN hsh hd0 hdq hM hW hg hr
  have hlen := length_le_sizes ks
  obtain ⟨q, rfl⟩ : ∃ q', q = q' + 1 := by cases q with | zero => simp [shape] at hsh | succ q => exact ⟨q, rfl⟩
  obtain ⟨ha, hm1, hm2, hkids⟩ := (shape_split q k n ks).1 hsh
  have hgl := hg.lt
  by_cases hk : k = 1
  · subst hk
    have hz : chg f d (.mk 1 n ks) = f n d := by rw [chg, if_pos rfl]
    have hzo : chgOk ok d (.mk 1 n ks) = ok n d := by rw [chgOk, if_pos rfl]
    have hn2 : n ≤ 20 := by simpa [mostN] using hm2
    rw [hz, hzo]
    generalize hft : f n d = ft
    go_enter Tryz.func50, Tryz.ntmps50
    go_wp2_with (refine (hF n d _ b hm1 hn2 hd0 (by omega) ((grown_trans hW (only_alloc (only_alloc (World.grownBy.refl _ _) _) _))) ((hg.alloc _).alloc _)).mono ?_; rw [hft]; rintro e w3 ⟨A3, c3, rfl, hl3, hf3, hg3, hgr3⟩; have hT : Blk w3 (w.heap.size + 1) #[.int .i64 0, .int .i64 0, .slice none 0 0] := (Blk.new_ (n := w.heap.size + 1) (w.alloc (.cells #[.int .i64 1, .int .i64 n, .slice A ks.length c] 27)) 27 #[.int .i64 0, .int .i64 0, .slice none 0 0] (by simp)).grown hgr3 (by simp; omega); have d0 := hT.at_ (i := 0) rfl; have d1 := hT.at_ (i := 1) rfl; have d2 := hT.at_ (i := 2) rfl; have e0 := hT.frozen 0; have e1 := hT.frozen 1; have e2 := hT.frozen 2)
    have hgr : w.grownBy w3 (some g) := grown_trans (only_alloc (only_alloc (World.grownBy.refl _ _) _) _) hgr3
    have hsz : w.heap.size + 1 < w3.heap.size := by have := hT.lt; simpa using this
    have hgne : g ≠ w.heap.size + 1 := by omega
    refine bodyPost_ret (v := .agg #[.int .i64 ft.k, .int .i64 ft.n, .slice A3 ft.ks.length c3]) (by simp [results, Tryz.results50, go_sem, d0, d1, d2]) rfl ⟨A3, c3, rfl, hl3, ?_, ?_, ?_⟩
    · exact (((hf3.setCell (by simp) _).setCell (by simp) _).setCell (by simp) _).mono (by simp; omega)
    · exact ((hg3.far (by simpa using hgne) _).far (by simpa using hgne) _).far (by simpa using hgne) _
    · exact only_setCell (only_setCell (only_setCell hgr (.inr (by simp)) _) (.inr (by simp)) _) (.inr (by simp)) _
  · have hz : chg f d (.mk k n ks) = .mk k n (chgs f k d 0 ks) := by rw [chg, if_neg hk]
    have hzo : chgOk ok d (.mk k n ks) = chgsOk ok k d 0 ks := by rw [chgOk, if_neg hk]
    have q1 : (k == 1) = false := by simpa using hk
    rw [hz, hzo]
    have hkids' := hide hkids
    clear hz hzo hk hkids ha hm1 hm2 hsh
    go_enter Tryz.func50, Tryz.ntmps50
    go_wp2_with fail
    go_loopw [26] (fun i wr => ∃ (j : Nat) (v : Value), j ≤ ks.length ∧ i = .int .i64 j ∧ Part (w.heap.size + 3) wr v (chgs f k d 0 (ks.take j)) ∧ Blk wr (w.heap.size + 1 + 1) #[.int .i64 k, .int .i64 n, v] ∧ Blk wr (w.heap.size + 1) #[.int .i64 0, .int .i64 0, .slice none 0 0] ∧ Blk wr w.heap.size #[.int .i64 k, .int .i64 n, .slice A ks.length c] ∧ Blk wr g #[.bool (b && chgsOk ok k d 0 (ks.take j))] ∧ w.grownBy wr (some g))
      (fun i _ => ks.length - (intOf i).toNat)
    case atStart => exact ⟨0, _, Nat.zero_le _, rfl, Part.nil, Blk.new_ _ _ _ (by simp), (Blk.new_ _ _ _ (by simp)).alloc _, ((Blk.new_ _ _ _ rfl).alloc _).alloc _, by simpa [chgsOk] using ((hg.alloc _).alloc _).alloc _, only_alloc (only_alloc (only_alloc (World.grownBy.refl _ _) _) _) _⟩
    case round =>
      obtain ⟨j, v, hj, rfl, hp, hB3, hB2, hB1, hGr, hgr⟩ := hrel
      by_cases hlt : j < ks.length
      · obtain ⟨b1, off, k', n', ks', A', c', rfl, hkj, hc1, hc2, hc3, hl', hr'⟩ := (hr.grown hgr (fun b hb e => hb (by injection e))).at_ hlt
        have hbl := World.block_lt_of_cell? _ _ hc1
        have hsz := sizes_le (List.getElem_mem hlt)
        have hsk := hkids'.out _ (List.getElem_mem hlt)
        rw [hkj] at hsz hsk
        simp only [Tm.size] at hsz
        have H3 := hide hkj
        have H4 := hide hsk
        clear hkj hsk
        have hz3 := hB3.lt
        have c2 : wr.cell? ⟨w.heap.size + 1 + 1, 2, none⟩ = some v := hB3.at_ rfl
        go_wp2_with fail
        refine name_world ?_
        intro wx hwx
        have hXB : Blk wx wr.heap.size #[.int .i64 k', .int .i64 n', .slice A' ks'.length c'] := by rw [hwx]; exact Blk.new_ _ _ _ rfl
        have hpx : Part (w.heap.size + 3) wx v (chgs f k d 0 (ks.take j)) := by rw [hwx]; exact hp.alloc _
        have hrx : RdP (· ≠ g) wx A' 0 ks' := by rw [hwx]; exact hr'.alloc _
        have hB3x : Blk wx (w.heap.size + 1 + 1) #[.int .i64 k, .int .i64 n, v] := by rw [hwx]; exact hB3.alloc _
        have hB2x : Blk wx (w.heap.size + 1) #[.int .i64 0, .int .i64 0, .slice none 0 0] := by rw [hwx]; exact hB2.alloc _
        have hB1x : Blk wx w.heap.size #[.int .i64 k, .int .i64 n, .slice (some ⟨b1, off, none⟩) ks.length c] := by rw [hwx]; exact hB1.alloc _
        have hGx : Blk wx g #[.bool (b && chgsOk ok k d 0 (ks.take j))] := by rw [hwx]; exact hGr.alloc _
        have hgx : w.grownBy wx (some g) := by rw [hwx]; exact only_alloc hgr _
        have hs1 : wr.heap.size < wx.heap.size := by rw [hwx]; simp
        have hs2 : w.heap.size + 1 + 1 < wx.heap.size := by omega
        have x2 := hB3x.ruleG (g := g) (by omega) (i := 2) rfl
        have x0 := hB1x.ruleG (g := g) (by omega) (i := 0) rfl
        have y0 := hXB.ruleG (g := g) (by omega) (i := 0) rfl
        have y1 := hXB.ruleG (g := g) (by omega) (i := 1) rfl
        have y2 := hXB.ruleG (g := g) (by omega) (i := 2) rfl
        have hun := under_le k j
        clear hwx
        refine wp_region_firstY (fun w' => wx.grownBy w' (some g)) [0, 1, 2, 3, 4, 5, 6, 7, 8, 9] [10, 11] [12, 13, 14] [_, _, _, _, _, _, _, _, _, _] [_, _] [_, _, _] (by kernel_rfl) (by kernel_rfl) rfl rfl rfl (fun _ _ d _ _ h => by cases d <;> exact h) (only_drew (World.grownBy.refl _ _)) ?_
        repeat (first | ((refine takeY_skip (a' := ?_) ?_ ?_ ?_); (rotate_left); (· (simp [Region.wanted, yielded]; done)); (· (simp only [Act.put, List.setIfInBounds_toArray, List.set_cons_zero, List.set_cons_succ]; exact rfl))) | ((refine takeY_step (v := ?_) (a' := ?_) ?_ ?_ ?_ ?_); (rotate_left 2); (· (simp [Region.wanted, yielded]; done)); (· (intro w' hS'; go_simp; try (with_reducible rfl))); (· (simp only [Act.put, List.setIfInBounds_toArray, List.set_cons_zero, List.set_cons_succ]; exact rfl))) | ((refine takeY_call (v := ?_) (a' := ?_) 76 ?_ ?_ ?_ ?_ ?_ ?_); (rotate_left 3); (· (simp [Region.wanted, yielded]; done)); (· (intro w' hS'; go_simp; try (with_reducible rfl))); (· (intro w' hS'; exact iUnder_any _ _ _)); (· (simp only [Act.put, List.setIfInBounds_toArray, List.set_cons_zero, List.set_cons_succ]; exact rfl))))
        obtain ⟨k2, n2, ks2, hct⟩ : ∃ k2 n2 ks2, chg f (d + under k j) (.mk k' n' ks') = .mk k2 n2 ks2 := tm_eta _
        have hct' := hide hct
        clear hct
        refine takeY_nil (then_cons ?_)
        go_wp2_with (go_at_call 50; refine (ih k' n' ks' A' c' (d + under k j) q _ (b && chgsOk ok k d 0 (ks.take j)) (by omega) H4.out (by omega) (by omega) (by omega) (grown_trans hW (grown_trans hgx (only_drew (World.grownBy.refl _ _)))) hGx.drew hrx.drew).mono ?_; rw [hct'.out]; intro e w1 hpost; obtain ⟨A1, c1, rfl, hl1, hf1, hG1, hg1⟩ := gotG_mk hpost; clear hpost)
        have hx1 : wx.grownBy w1 (some g) := grown_trans (only_drew (World.grownBy.refl _ _)) hg1
        have hw1 : wx.heap.size ≤ w1.heap.size := hx1.size
        refine mid_intro hx1 (then_cons ?_)
        go_wp2_with fail
        refine mid_intro (only_alloc hx1 _) (then_nil ?_)
        refine wpList_append_builtG (B := w.heap.size + 3) (m := j) hpx.drew (fun b h1 h2 => hg1.block b h2 (by simp; omega)) hw1 (by simp; omega) hf1 hl1 (by rw [chgs_length]; simp; omega) (by omega) rfl (.tmp 32) (.tmp 42) rfl rfl rfl ?_
        intro A2 c2 w2 hp2 hb2 hg2
        have q3 : Blk w2 (w.heap.size + 1 + 1) #[.int .i64 k, .int .i64 n, v] := (hB3x.grown hx1 (by simp; omega)).below hb2 (by omega)
        have q2 : Blk w2 (w.heap.size + 1) #[.int .i64 0, .int .i64 0, .slice none 0 0] := (hB2x.grown hx1 (by simp; omega)).below hb2 (by omega)
        have q1 : Blk w2 w.heap.size #[.int .i64 k, .int .i64 n, .slice (some ⟨b1, off, none⟩) ks.length c] := (hB1x.grown hx1 (by simp; omega)).below hb2 (by omega)
        have qg := hG1.below hb2 (by omega)
        have c3 : w2.cell? ⟨w.heap.size + 1 + 1, 2, none⟩ = some v := q3.at_ rfl
        have z3 := q3.frozen 2
        have hgf : w.grownBy w2 (some g) := only_belowB (grown_trans hgx hx1) hb2 (by omega)
        clear x2 y0 y1 y2 x0 hpx hrx hB3x hB2x hB1x hGx
        go_wp2_with fail
        go_roundw
        case rel =>
          refine ⟨j + 1, _, by omega, by go_num, ?_, q3.set_ 2 _, q2.far (by simp) _, q1.far (by simp; omega) _, ?_, only_setCell hgf (.inr (by simp; omega)) _⟩
          · rw [chgs_take f k d hlt, H3.out, hct'.out]
            exact hp2.setCell (by simp) _
          · rw [chgsOk_take ok k d hlt, H3.out, ← Bool.and_assoc]
            exact qg.far (by simp; omega) _
        case measure => simp [intOf]; omega
      · have hjl : j = ks.length := by omega
        subst hjl
        rw [List.take_length] at hp hGr
        obtain ⟨Ar, cr, rfl, hfr⟩ := hp.fresh
        have c0 : wr.cell? ⟨w.heap.size + 1 + 1, 0, none⟩ = some (.int .i64 k) := hB3.at_ rfl
        have c1 : wr.cell? ⟨w.heap.size + 1 + 1, 1, none⟩ = some (.int .i64 n) := hB3.at_ rfl
        have c2 : wr.cell? ⟨w.heap.size + 1 + 1, 2, none⟩ = some (.slice Ar (chgs f k d 0 ks).length cr) := hB3.at_ rfl
        have d0 : wr.cell? ⟨w.heap.size + 1, 0, none⟩ = some (.int .i64 0) := hB2.at_ rfl
        have d1 : wr.cell? ⟨w.heap.size + 1, 1, none⟩ = some (.int .i64 0) := hB2.at_ rfl
        have d2 : wr.cell? ⟨w.heap.size + 1, 2, none⟩ = some (.slice none 0 0) := hB2.at_ rfl
        have e0 := hB2.frozen 0
        have e1 := hB2.frozen 1
        have e2 := hB2.frozen 2
        have hgne : g ≠ w.heap.size + 1 := by omega
        go_wp2_with fail
        refine bodyPost_ret (v := .agg #[.int .i64 k, .int .i64 n, .slice Ar (chgs f k d 0 ks).length cr]) (by simp [results, Tryz.results50, go_sem, d0, d1, d2]) rfl ⟨Ar, cr, rfl, by rw [show (Tm.mk k n (chgs f k d 0 ks)).ks = chgs f k d 0 ks from rfl, chgs_length]; omega, ?_, ?_, ?_⟩
        · exact (((hfr.setCell (by simp) _).setCell (by simp) _).setCell (by simp) _).mono (by omega)
        · exact ((hGr.far (by simpa using hgne) _).far (by simpa using hgne) _).far (by simpa using hgne) _
        · exact only_setCell (only_setCell (only_setCell hgr (.inr (by simp)) _) (.inr (by simp)) _) (.inr (by simp)) _
open Go.RowKit
set_option maxHeartbeats 2000000 in
set_option maxRecDepth 100000 in
theorem variable_any (n : Int) (w : World) : Calls Tryz.prog 53 #[.int .i64 n] w fun e w' => e = .returned (.agg #[.int .i64 1, .int .i64 n, .slice none 0 0]) ∧ Below w.heap.size w w' := by
  go_enter Tryz.func53, Tryz.ntmps53
  go_wp2_with fail
  exact bodyPost_ret (v := .agg #[.int .i64 1, .int .i64 n, .slice none 0 0]) (by simp [results, Tryz.results53, go_sem]) rfl ⟨rfl, (Below.refl _ _).alloc (Nat.le_refl _) _⟩
/-- the empty term that stands for a failure -/
def zeroV : Value := .agg #[.int .i64 0, .int .i64 0, .slice none 0 0]
set_option maxHeartbeats 2000000 in
set_option maxRecDepth 100000 in
theorem valid_yes (k n : Int) (ks : List Tm) (A : Option Addr) (c : Nat) (w : World) (hM : sizes ks ≤ 1099511627775) (hr : Rd w A 0 ks) (hv : validT (.mk k n ks) = true) :
    Calls Tryz.prog 25 #[(.agg #[.int .i64 k, .int .i64 n, .slice A ks.length c])] w fun e w' => e = .returned (.tuple #[(.agg #[.int .i64 k, .int .i64 n, .slice A ks.length c]), .bool true]) ∧ Below w.heap.size w w' := by
  go_enter Tryz.func25, Tryz.ntmps25
  go_wp2_with (go_at_call 35; refine (iTermValid_any k n ks A c _ hM ((hr.alloc _).alloc _)).mono ?_; rw [hv]; rintro e w1 ⟨rfl, hb1⟩; have hB : Blk w1 w.heap.size #[.int .i64 k, .int .i64 n, .slice A ks.length c] := ((Blk.new_ w 27 #[.int .i64 k, .int .i64 n, .slice A ks.length c] rfl).alloc _).keep hb1; have hT : Blk w1 (w.heap.size + 1) #[.int .i64 0, .int .i64 0, .slice none 0 0] := (Blk.new_ _ 27 _ (by simp)).keep hb1; obtain ⟨p0, p1, p2⟩ := hB.three; obtain ⟨d0, d1, d2⟩ := hT.three; have e0 := hT.frozen 0; have e1 := hT.frozen 1; have e2 := hT.frozen 2; replace hb1 : Below w.heap.size w w1 := (((Below.refl _ _).alloc (Nat.le_refl _) _).alloc (by simp) _).trans (hb1.mono (by simp; omega)))
  refine bodyPost_ret (v := .tuple #[(.agg #[.int .i64 k, .int .i64 n, .slice A ks.length c]), .bool true]) (by simp [results, Tryz.results25, go_sem, d0, d1, d2]) rfl ⟨rfl, ?_⟩
  exact ((hb1.setCell (by simp) _).setCell (by simp) _).setCell (by simp) _
set_option maxHeartbeats 2000000 in
set_option maxRecDepth 100000 in
theorem valid_no (k n : Int) (ks : List Tm) (A : Option Addr) (c : Nat) (w : World) (hM : sizes ks ≤ 1099511627775) (hr : Rd w A 0 ks) (hv : validT (.mk k n ks) = false) :
    Calls Tryz.prog 25 #[(.agg #[.int .i64 k, .int .i64 n, .slice A ks.length c])] w fun e w' => e = .returned (.tuple #[zeroV, .bool false]) ∧ Below w.heap.size w w' := by
  go_enter Tryz.func25, Tryz.ntmps25
  go_wp2_with (go_at_call 35; refine (iTermValid_any k n ks A c _ hM ((hr.alloc _).alloc _)).mono ?_; rw [hv]; rintro e w1 ⟨rfl, hb1⟩; have hT : Blk w1 (w.heap.size + 1) #[.int .i64 0, .int .i64 0, .slice none 0 0] := (Blk.new_ _ 27 _ (by simp)).keep hb1; obtain ⟨d0, d1, d2⟩ := hT.three; have e0 := hT.frozen 0; have e1 := hT.frozen 1; have e2 := hT.frozen 2; replace hb1 : Below w.heap.size w w1 := (((Below.refl _ _).alloc (Nat.le_refl _) _).alloc (by simp) _).trans (hb1.mono (by simp; omega)))
  refine bodyPost_ret (v := .tuple #[zeroV, .bool false]) (by simp [results, Tryz.results25, go_sem, d0, d1, d2, zeroV]) rfl ⟨rfl, ?_⟩
  exact ((hb1.setCell (by simp) _).setCell (by simp) _).setCell (by simp) _
/-- a variable shifted -/
def shF (by_ cut : Int) (n d : Int) : Tm := .mk 1 (if cut ≤ n - d then n + by_ else n) []
def shOk (by_ cut : Int) (n d : Int) : Bool := if cut ≤ n - d then decide (cut ≤ n + by_ - d) && decide (n + by_ ≤ 20) else true
set_option maxHeartbeats 2000000 in
set_option maxRecDepth 100000 in
theorem shift1_ok {by_ cut : Int} {bc bb g : Nat} {W0 : World} (hb1 : -1000 ≤ by_ ∧ by_ ≤ 1000) (hc : -1000 ≤ cut ∧ cut ≤ 1000) (hC : Blk W0 bc #[.int .i64 cut]) (hB : Blk W0 bb #[.int .i64 by_]) (hcg : bc ≠ g) (hbg : bb ≠ g) :
    FunOk 77 [.pointer (some ⟨bc, 0, none⟩), .pointer (some ⟨bb, 0, none⟩), .pointer (some ⟨g, 0, none⟩)] W0 g (shF by_ cut) (shOk by_ cut) := by
  intro n d w b hn0 hn1 hd0 hd1 hW hg
  have hCw := hC.grown hW (by simpa using hcg)
  have hBw := hB.grown hW (by simpa using hbg)
  have x0 := hCw.at_ (i := 0) rfl
  have x1 := hBw.at_ (i := 0) rfl
  have x2 := hg.at_ (i := 0) rfl
  have z2 := hg.frozen 0
  have l0 := hCw.lt
  have l1 := hBw.lt
  have l2 := hg.lt
  by_cases h1 : cut ≤ n - d
  · have hz : shF by_ cut n d = .mk 1 (n + by_) [] := by rw [shF, if_pos h1]
    have hzo : shOk by_ cut n d = (decide (cut ≤ n + by_ - d) && decide (n + by_ ≤ 20)) := by rw [shOk, if_pos h1]
    rw [hz, hzo]
    have q1 : decide (cut ≤ n - d) = true := decide_eq_true h1
    have H := hide h1
    clear h1 hz hzo
    cases b with
    | false =>
      rw [Bool.false_and]
      go_enter Tryz.func77, Tryz.ntmps77
      go_wp2_with (go_at_call 53; refine (variable_any _ _).mono ?_; rintro e w1 ⟨rfl, hv1⟩; have hT : Blk w1 w.heap.size #[.int .i64 0, .int .i64 0, .slice none 0 0] := (Blk.new_ _ 27 _ (by simp)).keep hv1; obtain ⟨d0, d1, d2⟩ := hT.three; have e0 := hT.frozen 0; have e1 := hT.frozen 1; have e2 := hT.frozen 2; have hG1 : Blk w1 g #[.bool (false)] := ((hg.set_ 0 (.bool (false))).alloc (.cells #[.int .i64 0, .int .i64 0, .slice none 0 0] 27)).keep hv1; replace hv1 : w.grownBy w1 (some g) := only_below (only_alloc (only_setCell (World.grownBy.refl _ _) (.inl rfl) _) _) hv1)
      refine bodyPost_ret (v := .agg #[.int .i64 1, .int .i64 (n + by_), .slice none 0 0]) (by simp [results, Tryz.results77, go_sem, d0, d1, d2]) rfl ⟨none, 0, rfl, by simp [Tm.ks], Fresh.nil, ?_, ?_⟩
      · exact ((hG1.far (by simp; omega) _).far (by simp; omega) _).far (by simp; omega) _
      · exact only_setCell (only_setCell (only_setCell hv1 (.inr (by simp)) _) (.inr (by simp)) _) (.inr (by simp)) _
    | true =>
      by_cases h2 : cut ≤ n + by_ - d
      · have q2 : decide (cut ≤ n + by_ - d) = true := decide_eq_true h2
        rw [q2, Bool.true_and, Bool.true_and]
        have H2 := hide h2
        clear h2
        cases q3 : decide (n + by_ ≤ 20) with
        | false =>
          go_enter Tryz.func77, Tryz.ntmps77
          go_wp2_with (go_at_call 53; refine (variable_any _ _).mono ?_; rintro e w1 ⟨rfl, hv1⟩; have hT : Blk w1 w.heap.size #[.int .i64 0, .int .i64 0, .slice none 0 0] := (Blk.new_ _ 27 _ (by simp)).keep hv1; obtain ⟨d0, d1, d2⟩ := hT.three; have e0 := hT.frozen 0; have e1 := hT.frozen 1; have e2 := hT.frozen 2; have hG1 : Blk w1 g #[.bool (false)] := ((hg.set_ 0 (.bool (false))).alloc (.cells #[.int .i64 0, .int .i64 0, .slice none 0 0] 27)).keep hv1; replace hv1 : w.grownBy w1 (some g) := only_below (only_alloc (only_setCell (World.grownBy.refl _ _) (.inl rfl) _) _) hv1)
          refine bodyPost_ret (v := .agg #[.int .i64 1, .int .i64 (n + by_), .slice none 0 0]) (by simp [results, Tryz.results77, go_sem, d0, d1, d2]) rfl ⟨none, 0, rfl, by simp [Tm.ks], Fresh.nil, ?_, ?_⟩
          · exact ((hG1.far (by simp; omega) _).far (by simp; omega) _).far (by simp; omega) _
          · exact only_setCell (only_setCell (only_setCell hv1 (.inr (by simp)) _) (.inr (by simp)) _) (.inr (by simp)) _
        | true =>
          go_enter Tryz.func77, Tryz.ntmps77
          go_wp2_with (go_at_call 53; refine (variable_any _ _).mono ?_; rintro e w1 ⟨rfl, hv1⟩; have hT : Blk w1 w.heap.size #[.int .i64 0, .int .i64 0, .slice none 0 0] := (Blk.new_ _ 27 _ (by simp)).keep hv1; obtain ⟨d0, d1, d2⟩ := hT.three; have e0 := hT.frozen 0; have e1 := hT.frozen 1; have e2 := hT.frozen 2; have hG1 : Blk w1 g #[.bool (true)] := ((hg.set_ 0 (.bool (true))).alloc (.cells #[.int .i64 0, .int .i64 0, .slice none 0 0] 27)).keep hv1; replace hv1 : w.grownBy w1 (some g) := only_below (only_alloc (only_setCell (World.grownBy.refl _ _) (.inl rfl) _) _) hv1)
          refine bodyPost_ret (v := .agg #[.int .i64 1, .int .i64 (n + by_), .slice none 0 0]) (by simp [results, Tryz.results77, go_sem, d0, d1, d2]) rfl ⟨none, 0, rfl, by simp [Tm.ks], Fresh.nil, ?_, ?_⟩
          · exact ((hG1.far (by simp; omega) _).far (by simp; omega) _).far (by simp; omega) _
          · exact only_setCell (only_setCell (only_setCell hv1 (.inr (by simp)) _) (.inr (by simp)) _) (.inr (by simp)) _
      · have q2 : decide (cut ≤ n + by_ - d) = false := decide_eq_false h2
        rw [q2, Bool.false_and, Bool.true_and]
        have H2 := hide h2
        clear h2
        go_enter Tryz.func77, Tryz.ntmps77
        go_wp2_with (go_at_call 53; refine (variable_any _ _).mono ?_; rintro e w1 ⟨rfl, hv1⟩; have hT : Blk w1 w.heap.size #[.int .i64 0, .int .i64 0, .slice none 0 0] := (Blk.new_ _ 27 _ (by simp)).keep hv1; obtain ⟨d0, d1, d2⟩ := hT.three; have e0 := hT.frozen 0; have e1 := hT.frozen 1; have e2 := hT.frozen 2; have hG1 : Blk w1 g #[.bool (false)] := ((hg.set_ 0 (.bool (false))).alloc (.cells #[.int .i64 0, .int .i64 0, .slice none 0 0] 27)).keep hv1; replace hv1 : w.grownBy w1 (some g) := only_below (only_alloc (only_setCell (World.grownBy.refl _ _) (.inl rfl) _) _) hv1)
        refine bodyPost_ret (v := .agg #[.int .i64 1, .int .i64 (n + by_), .slice none 0 0]) (by simp [results, Tryz.results77, go_sem, d0, d1, d2]) rfl ⟨none, 0, rfl, by simp [Tm.ks], Fresh.nil, ?_, ?_⟩
        · exact ((hG1.far (by simp; omega) _).far (by simp; omega) _).far (by simp; omega) _
        · exact only_setCell (only_setCell (only_setCell hv1 (.inr (by simp)) _) (.inr (by simp)) _) (.inr (by simp)) _
  · have hz : shF by_ cut n d = .mk 1 n [] := by rw [shF, if_neg h1]
    have hzo : shOk by_ cut n d = true := by rw [shOk, if_neg h1]
    rw [hz, hzo, Bool.and_true]
    have q1 : decide (cut ≤ n - d) = false := decide_eq_false h1
    have H := hide h1
    clear h1 hz hzo
    go_enter Tryz.func77, Tryz.ntmps77
    go_wp2_with (go_at_call 53; refine (variable_any _ _).mono ?_; rintro e w1 ⟨rfl, hv1⟩; have hT : Blk w1 w.heap.size #[.int .i64 0, .int .i64 0, .slice none 0 0] := (Blk.new_ _ 27 _ rfl).keep hv1; obtain ⟨d0, d1, d2⟩ := hT.three; have e0 := hT.frozen 0; have e1 := hT.frozen 1; have e2 := hT.frozen 2; have hG1 := (hg.alloc (.cells #[.int .i64 0, .int .i64 0, .slice none 0 0] 27)).keep hv1; replace hv1 : w.grownBy w1 (some g) := only_below (only_alloc (World.grownBy.refl _ _) _) hv1)
    refine bodyPost_ret (v := .agg #[.int .i64 1, .int .i64 n, .slice none 0 0]) (by simp [results, Tryz.results77, go_sem, d0, d1, d2]) rfl ⟨none, 0, rfl, by simp [Tm.ks], Fresh.nil, ?_, ?_⟩
    · exact ((hG1.far (by simp; omega) _).far (by simp; omega) _).far (by simp; omega) _
    · exact only_setCell (only_setCell (only_setCell hv1 (.inr (by simp)) _) (.inr (by simp)) _) (.inr (by simp)) _
open Go.RowKit
theorem chg_size {f : Int → Int → Tm} {M : Nat} (hM : 1 ≤ M) (hf : ∀ n d, (f n d).size ≤ M) : (∀ t d, (chg f d t).size ≤ t.size * M) ∧ (∀ ts k d i, sizes (chgs f k d i ts) ≤ sizes ts * M) := by
  refine Tm.ind2 (fun k n ks ih d => ?_) (fun k d i => by simp [chgs, sizes]) (fun t ts h1 h2 k d i => ?_)
  · rw [chg, Tm.size, Nat.add_mul, Nat.one_mul]
    split
    · have := hf n d; omega
    · rw [Tm.size]; have := ih k d 0; omega
  · rw [chgs, sizes, sizes, Nat.add_mul]
    have := h1 (d + under k i); have := h2 k d (i + 1); omega
theorem shF_size (by_ cut n d : Int) : (shF by_ cut n d).size ≤ 1 := by simp [shF, Tm.size, sizes]
/-- a term handed back in new memory, or a failure -/
def GotO (w : World) (o : Option Tm) (e : Ending) (w' : World) : Prop :=
  match o with
  | none => e = .returned (.tuple #[zeroV, .bool false]) ∧ Below w.heap.size w w'
  | some t => ∃ A c, e = .returned (.tuple #[.agg #[.int .i64 t.k, .int .i64 t.n, .slice A t.ks.length c], .bool true]) ∧ t.ks.length ≤ 9223372036854775807 ∧ Fresh w.heap.size w' A t.ks ∧ Below w.heap.size w w'
/-- what shift answers -/
def shiftI (by_ cut : Int) (t : Tm) : Option Tm := if chgOk (shOk by_ cut) 0 t = true then (if validT (chg (shF by_ cut) 0 t) = true then some (chg (shF by_ cut) 0 t) else none) else none
set_option maxHeartbeats 2000000 in
set_option maxRecDepth 100000 in
theorem shift_any (k n : Int) (ks : List Tm) (A : Option Addr) (c : Nat) (by_ cut : Int) (w : World) (hby : -1000 ≤ by_ ∧ by_ ≤ 1000) (hcut : -1000 ≤ cut ∧ cut ≤ 1000) (hM : sizes ks ≤ 1000000000) (hs : shape 30 (.mk k n ks) = true) (hr : Rd w A 0 ks) :
    Calls Tryz.prog 52 #[(.agg #[.int .i64 k, .int .i64 n, .slice A ks.length c]), .int .i64 by_, .int .i64 cut] w (GotO w (shiftI by_ cut (.mk k n ks))) := by
  have hrp : RdP (· ≠ w.heap.size + 4) w A 0 ks := hr.rdp.mono (fun b hb => by have hb : b < w.heap.size := hb; show b ≠ _; omega)
  obtain ⟨k2, n2, ks2, hct⟩ := tm_eta (chg (shF by_ cut) 0 (.mk k n ks))
  have hsz2 : sizes ks2 ≤ 1000000001 := by
    have := (chg_size (Nat.le_refl 1) (shF_size by_ cut)).1 (.mk k n ks) 0
    rw [hct, Tm.size, Tm.size] at this
    omega
  cases hok : chgOk (shOk by_ cut) 0 (.mk k n ks) with
  | false =>
    have hz : shiftI by_ cut (.mk k n ks) = none := by rw [shiftI, hok]; rfl
    rw [hz]
    clear hz
    go_enter Tryz.func52, Tryz.ntmps52
    go_wp2_with (go_at_call 50; refine (changed_any (shift1_ok (bc := w.heap.size + 2) (bb := w.heap.size + 1) (g := w.heap.size + 4) hby hcut (((Blk.new_ _ 3 _ (by simp)).alloc _).alloc _) ((((Blk.new_ _ 3 _ (by simp)).alloc _).alloc _).alloc _) (by omega) (by omega)) (run_enter Tryz.func77 (by kernel_rfl) (by kernel_rfl)) (sizes ks + 1) k n ks A c 0 30 _ true (by omega) hs (by omega) (by omega) (by omega) (World.grownBy.refl _ _) (Blk.new_ _ 4 _ (by simp)) (((((hrp.alloc _).alloc _).alloc _).alloc _).alloc _)).mono ?_; rw [hct, hok]; intro e w6 hpost; obtain ⟨A6, c6, rfl, hl6, hf6, hG6, hg6⟩ := gotG_mk hpost; clear hpost; have hT6 : Blk w6 (w.heap.size + 1 + 1 + 1) #[.int .i64 0, .int .i64 0, .slice none 0 0] := ((Blk.new_ _ 27 _ (by simp)).alloc _).grown hg6 (by simp); have f0 := hG6.at_ (i := 0) rfl; obtain ⟨d0, d1, d2⟩ := hT6.three; have e0 := hT6.frozen 0; have e1 := hT6.frozen 1; have e2 := hT6.frozen 2; have lT := hT6.lt; have lG := hG6.lt; have hb6 : Below w.heap.size w w6 := ((((((Below.refl _ _).alloc (Nat.le_refl _) _).alloc (by simp) _).alloc (by simp; omega) _).alloc (by simp; omega) _).alloc (by simp; omega) _).grown hg6 (by simp; omega) (fun k e => by cases e; omega); replace hf6 := hf6.mono (B' := w.heap.size + 5) (by simp))
    have y := fun o => (((((hT6.set_ 0 (.int .i64 0)).set_ 1 (.int .i64 0)).set_ 2 (.slice none 0 0)).alloc o : Blk _ _ #[.int .i64 0, .int .i64 0, .slice none 0 0])).three
    refine bodyPost_ret (v := .tuple #[zeroV, .bool false]) (by simp [results, Tryz.results52, go_sem, y, zeroV]) rfl ⟨rfl, ?_⟩
    exact (((hb6.setCell (by simp; omega) _).setCell (by simp; omega) _).setCell (by simp; omega) _).alloc (by simp [World.setCell]; omega) _
  | true =>
    cases hv : validT (.mk k2 n2 ks2) with
    | false =>
      have hz : shiftI by_ cut (.mk k n ks) = none := by rw [shiftI, hok, if_pos rfl, hct, hv]; rfl
      rw [hz]
      clear hz
      go_enter Tryz.func52, Tryz.ntmps52
      go_wp2_with (first | (go_at_call 50; refine (changed_any (shift1_ok (bc := w.heap.size + 2) (bb := w.heap.size + 1) (g := w.heap.size + 4) hby hcut (((Blk.new_ _ 3 _ (by simp)).alloc _).alloc _) ((((Blk.new_ _ 3 _ (by simp)).alloc _).alloc _).alloc _) (by omega) (by omega)) (run_enter Tryz.func77 (by kernel_rfl) (by kernel_rfl)) (sizes ks + 1) k n ks A c 0 30 _ true (by omega) hs (by omega) (by omega) (by omega) (World.grownBy.refl _ _) (Blk.new_ _ 4 _ (by simp)) (((((hrp.alloc _).alloc _).alloc _).alloc _).alloc _)).mono ?_; rw [hct, hok]; intro e w6 hpost; obtain ⟨A6, c6, rfl, hl6, hf6, hG6, hg6⟩ := gotG_mk hpost; clear hpost; have hT6 : Blk w6 (w.heap.size + 1 + 1 + 1) #[.int .i64 0, .int .i64 0, .slice none 0 0] := ((Blk.new_ _ 27 _ (by simp)).alloc _).grown hg6 (by simp); have f0 := hG6.at_ (i := 0) rfl; obtain ⟨d0, d1, d2⟩ := hT6.three; have e0 := hT6.frozen 0; have e1 := hT6.frozen 1; have e2 := hT6.frozen 2; have lT := hT6.lt; have lG := hG6.lt; have hb6 : Below w.heap.size w w6 := ((((((Below.refl _ _).alloc (Nat.le_refl _) _).alloc (by simp) _).alloc (by simp; omega) _).alloc (by simp; omega) _).alloc (by simp; omega) _).grown hg6 (by simp; omega) (fun k e => by cases e; omega); replace hf6 := hf6.mono (B' := w.heap.size + 5) (by simp)) | (go_at_call 25; refine (valid_no k2 n2 ks2 A6 c6 _ (by omega) (hf6.rd.alloc _) hv).mono ?_; rintro e w8 ⟨rfl, hb8⟩; have hT8 : Blk w8 (w.heap.size + 1 + 1 + 1) #[.int .i64 0, .int .i64 0, .slice none 0 0] := (hT6.alloc _).keep hb8; obtain ⟨x0, x1, x2⟩ := hT8.three; have e80 := hT8.frozen 0; have e81 := hT8.frozen 1; have e82 := hT8.frozen 2; replace hb8 : Below w.heap.size w w8 := (hb6.alloc hb6.size _).trans (hb8.mono (by have := hb6.size; simp; omega)); have hzz : zeroV = .agg #[.int .i64 0, .int .i64 0, .slice none 0 0] := rfl))
      refine bodyPost_ret (v := .tuple #[zeroV, .bool false]) (by simp [results, Tryz.results52, go_sem, x0, x1, x2, zeroV]) rfl ⟨rfl, ?_⟩
      exact ((hb8.setCell (by simp; omega) _).setCell (by simp; omega) _).setCell (by simp; omega) _
    | true =>
      have hz : shiftI by_ cut (.mk k n ks) = some (.mk k2 n2 ks2) := by rw [shiftI, hok, if_pos rfl, hct, hv]; rfl
      rw [hz]
      clear hz
      go_enter Tryz.func52, Tryz.ntmps52
      go_wp2_with (first | (go_at_call 50; refine (changed_any (shift1_ok (bc := w.heap.size + 2) (bb := w.heap.size + 1) (g := w.heap.size + 4) hby hcut (((Blk.new_ _ 3 _ (by simp)).alloc _).alloc _) ((((Blk.new_ _ 3 _ (by simp)).alloc _).alloc _).alloc _) (by omega) (by omega)) (run_enter Tryz.func77 (by kernel_rfl) (by kernel_rfl)) (sizes ks + 1) k n ks A c 0 30 _ true (by omega) hs (by omega) (by omega) (by omega) (World.grownBy.refl _ _) (Blk.new_ _ 4 _ (by simp)) (((((hrp.alloc _).alloc _).alloc _).alloc _).alloc _)).mono ?_; rw [hct, hok]; intro e w6 hpost; obtain ⟨A6, c6, rfl, hl6, hf6, hG6, hg6⟩ := gotG_mk hpost; clear hpost; have hT6 : Blk w6 (w.heap.size + 1 + 1 + 1) #[.int .i64 0, .int .i64 0, .slice none 0 0] := ((Blk.new_ _ 27 _ (by simp)).alloc _).grown hg6 (by simp); have f0 := hG6.at_ (i := 0) rfl; obtain ⟨d0, d1, d2⟩ := hT6.three; have e0 := hT6.frozen 0; have e1 := hT6.frozen 1; have e2 := hT6.frozen 2; have lT := hT6.lt; have lG := hG6.lt; have hb6 : Below w.heap.size w w6 := ((((((Below.refl _ _).alloc (Nat.le_refl _) _).alloc (by simp) _).alloc (by simp; omega) _).alloc (by simp; omega) _).alloc (by simp; omega) _).grown hg6 (by simp; omega) (fun k e => by cases e; omega); replace hf6 := hf6.mono (B' := w.heap.size + 5) (by simp)) | (go_at_call 25; refine (valid_yes k2 n2 ks2 A6 c6 _ (by omega) (hf6.rd.alloc _) hv).mono ?_; rintro e w8 ⟨rfl, hb8⟩; have hf8 := (hf6.alloc (.cells #[.int .i64 k2, .int .i64 n2, .slice A6 ks2.length c6] 27)).below hb8; have hT8 : Blk w8 (w.heap.size + 1 + 1 + 1) #[.int .i64 0, .int .i64 0, .slice none 0 0] := (hT6.alloc _).keep hb8; obtain ⟨x0, x1, x2⟩ := hT8.three; have e80 := hT8.frozen 0; have e81 := hT8.frozen 1; have e82 := hT8.frozen 2; replace hb8 : Below w.heap.size w w8 := (hb6.alloc hb6.size _).trans (hb8.mono (by have := hb6.size; simp; omega))))
      refine bodyPost_ret (v := .tuple #[.agg #[.int .i64 k2, .int .i64 n2, .slice A6 ks2.length c6], .bool true]) (by simp [results, Tryz.results52, go_sem, x0, x1, x2]) rfl ⟨A6, c6, rfl, hl6, ?_, ?_⟩
      · exact (((hf8.setCell (by simp) _).setCell (by simp) _).setCell (by simp) _).mono (by omega)
      · exact ((hb8.setCell (by simp; omega) _).setCell (by simp; omega) _).setCell (by simp; omega) _
end Go.Proofs.YthgmofdfecioaaaGreatDoor
