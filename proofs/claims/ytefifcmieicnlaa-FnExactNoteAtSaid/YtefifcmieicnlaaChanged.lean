/-
  changed of the implementation: every variable replaced by what a function says. No condition.
-/
import Derived.Test.YtefifcmieicnlaaApp2
import Derived.Test.YtefifcmieicnlaaReg2
import Derived.Test.YtefifcmieicnlaaUnder
import Derived.Test.YtefifcmieicnlaaShape
import Derived.WalkSpells
import Derived.WalkLawsBesides
namespace Go.Proofs.Ytefifcmieicnlaa
open Go.RowKit
set_option linter.unusedSimpArgs false
set_option linter.unusedVariables false

mutual
/-- every variable replaced by what f says of it and of how many variables stand between -/
def chg (f : Int → Int → Tm) : Int → Tm → Tm
  | d, .mk k n ks => if k = 1 then f n d else .mk k n (chgs f k d 0 ks)
def chgs (f : Int → Int → Tm) : Int → Int → Nat → List Tm → List Tm
  | _, _, _, [] => []
  | k, d, i, t :: ts => chg f (d + under k i) t :: chgs f k d (i + 1) ts
end
mutual
/-- whether each replacement went well -/
def chgOk (ok : Int → Int → Bool) : Int → Tm → Bool
  | d, .mk k n ks => if k = 1 then ok n d else chgsOk ok k d 0 ks
def chgsOk (ok : Int → Int → Bool) : Int → Int → Nat → List Tm → Bool
  | _, _, _, [] => true
  | k, d, i, t :: ts => chgOk ok (d + under k i) t && chgsOk ok k d (i + 1) ts
end
theorem chgs_append (f : Int → Int → Tm) (k d : Int) (us : List Tm) : ∀ (ts : List Tm) (i : Nat), chgs f k d i (ts ++ us) = chgs f k d i ts ++ chgs f k d (i + ts.length) us
  | [], i => by simp [chgs]
  | t :: ts, i => by rw [List.cons_append, chgs, chgs, chgs_append f k d us ts (i + 1), List.cons_append, List.length_cons, show i + 1 + ts.length = i + (ts.length + 1) from by omega]
theorem chgs_length (f : Int → Int → Tm) (k d : Int) : ∀ (ts : List Tm) (i : Nat), (chgs f k d i ts).length = ts.length
  | [], i => by simp [chgs]
  | t :: ts, i => by rw [chgs, List.length_cons, List.length_cons, chgs_length f k d ts (i + 1)]
theorem chgsOk_append (ok : Int → Int → Bool) (k d : Int) (us : List Tm) : ∀ (ts : List Tm) (i : Nat), chgsOk ok k d i (ts ++ us) = (chgsOk ok k d i ts && chgsOk ok k d (i + ts.length) us)
  | [], i => by simp [chgsOk]
  | t :: ts, i => by rw [List.cons_append, chgsOk, chgsOk, chgsOk_append ok k d us ts (i + 1), List.length_cons, show i + 1 + ts.length = i + (ts.length + 1) from by omega, Bool.and_assoc]
theorem chgs_take (f : Int → Int → Tm) (k d : Int) {ks : List Tm} {j : Nat} (hj : j < ks.length) : chgs f k d 0 (ks.take (j + 1)) = chgs f k d 0 (ks.take j) ++ [chg f (d + under k j) ks[j]] := by
  rw [List.take_succ_eq_append_getElem hj, chgs_append, List.length_take, Nat.min_eq_left (Nat.le_of_lt hj), Nat.zero_add, chgs, chgs]
theorem chgsOk_take (ok : Int → Int → Bool) (k d : Int) {ks : List Tm} {j : Nat} (hj : j < ks.length) : chgsOk ok k d 0 (ks.take (j + 1)) = (chgsOk ok k d 0 (ks.take j) && chgOk ok (d + under k j) ks[j]) := by
  rw [List.take_succ_eq_append_getElem hj, chgsOk_append, List.length_take, Nat.min_eq_left (Nat.le_of_lt hj), Nat.zero_add, chgsOk, chgsOk, Bool.and_true]

theorem tm_eta (t : Tm) : ∃ k n ks, t = .mk k n ks := by cases t; exact ⟨_, _, _, rfl⟩
/-- a term handed back in new memory, a flag's block turned -/
def GotG (g : Nat) (w : World) (t : Tm) (b : Bool) (e : Ending) (w' : World) : Prop :=
  ∃ A c, e = .returned (.agg #[.int .i64 t.k, .int .i64 t.n, .slice A t.ks.length c]) ∧ t.ks.length ≤ 9223372036854775807 ∧ Fresh w.heap.size w' A t.ks ∧ Blk w' g #[.bool b] ∧ w.grownBy w' (some g)
theorem gotG_mk {g : Nat} {w : World} {k n : Int} {ks : List Tm} {b : Bool} {e : Ending} {w' : World} (h : GotG g w (.mk k n ks) b e w') :
    ∃ A c, e = .returned (.agg #[.int .i64 k, .int .i64 n, .slice A ks.length c]) ∧ ks.length ≤ 9223372036854775807 ∧ Fresh w.heap.size w' A ks ∧ Blk w' g #[.bool b] ∧ w.grownBy w' (some g) := h
theorem only_belowB {a w w' : World} {row : Option Nat} {B : Nat} (h : a.grownBy w row) (k : Below B w w') (hB : a.heap.size ≤ B) : a.grownBy w' row :=
  ⟨k.os.trans h.os, k.tape.trans h.tape, k.output.trans h.output, Nat.le_trans h.size k.size, fun i hi hne => (k.block i (by omega)).trans (h.block i hi hne)⟩
/-- what is asked of the function that is handed over -/
def FunOk (F : Nat) (caps : List Value) (W0 : World) (g : Nat) (f : Int → Int → Tm) (ok : Int → Int → Bool) : Prop :=
  ∀ (n d : Int) (w : World) (b : Bool), 0 ≤ n → n ≤ 20 → 0 ≤ d → d ≤ 60 → W0.grownBy w (some g) → Blk w g #[.bool b] → Calls Try.prog F (.int .i64 n :: .int .i64 d :: caps).toArray w (GotG g w (f n d) (b && ok n d))
theorem grown_trans {a w w' : World} {row : Option Nat} (h : a.grownBy w row) (k : w.grownBy w' row) : a.grownBy w' row := only_trans h k
theorem Blk.ruleG {wx : World} {g b : Nat} {cs : Array Value} (h : Blk wx b cs) (hb : b ≠ g) {i : Nat} {v : Value} (hi : cs[i]? = some v) : ∀ w' : World, wx.grownBy w' (some g) → w'.cell? ⟨b, i, none⟩ = some v :=
  fun _ hw => (h.grown hw (by simpa using hb)).at_ hi

theorem run_enter {F : Nat} {fn : Func} (hf : Try.prog.funcs[F]? = some fn) (h1 : (fn.name == "runtime.NumGoroutine") = false) (h2 : fn.body.isNone = false) (args : Array Value) (w : World) : (callFunc F args).run Try.prog w = .ok (.enter F args) w := by
  have h1' : fn.name ≠ "runtime.NumGoroutine" := by simpa using h1
  have h2' : fn.body ≠ none := by intro e; rw [e] at h2; cases h2
  simp [callFunc, go_sem, hf, h1', h2']

set_option maxHeartbeats 2000000 in
set_option maxRecDepth 100000 in
theorem changed_any {F : Nat} {caps : List Value} {W0 : World} {g : Nat} {f : Int → Int → Tm} {ok : Int → Int → Bool} (hF : FunOk F caps W0 g f ok) (hrun : ∀ (args : Array Value) (w : World), (callFunc F args).run Try.prog w = .ok (.enter F args) w) (N : Nat) :
    ∀ (k n : Int) (ks : List Tm) (A : Option Addr) (c : Nat) (d : Int) (q : Nat) (w : World) (b : Bool), sizes ks < N → shape q (.mk k n ks) = true → 0 ≤ d → d + q ≤ 60 → sizes ks ≤ 1099511627776 →
      W0.grownBy w (some g) → Blk w g #[.bool b] → RdP (· ≠ g) w A 0 ks →
      Calls Try.prog 108 #[.agg #[.int .i64 k, .int .i64 n, .slice A ks.length c], .int .i64 d, .func (.func F) #[] caps.toArray] w (GotG g w (chg f d (.mk k n ks)) (b && chgOk ok d (.mk k n ks))) := by
  induction N with
  | zero => intro k n ks A c d q w b hN; exact absurd hN (Nat.not_lt_zero _)
  | succ N ih =>
  intro k n ks A c d q w b hN hsh hd0 hdq hM hW hg hr
  have hlen := length_le_sizes ks
  obtain ⟨q, rfl⟩ : ∃ q', q = q' + 1 := by cases q with | zero => simp [shape] at hsh | succ q => exact ⟨q, rfl⟩
  obtain ⟨ha, hm1, hm2, hkids⟩ := (shape_split q k n ks).1 hsh
  have hgl := hg.lt
  by_cases hk : k = 1
  · subst hk
    have hz : chg f d (.mk 1 n ks) = f n d := by rw [chg, if_pos rfl]
    have hzo : chgOk ok d (.mk 1 n ks) = ok n d := by rw [chgOk, if_pos rfl]
    have hn2 : n ≤ 20 := by simpa [mostN] using hm2
    rw [hz, hzo]
    generalize hft : f n d = ft
    go_enter Try.func108, Try.ntmps108
    go_wp2_with (refine (hF n d _ b hm1 hn2 hd0 (by omega) ((grown_trans hW (only_alloc (only_alloc (World.grownBy.refl _ _) _) _))) ((hg.alloc _).alloc _)).mono ?_; rw [hft]; rintro e w3 ⟨A3, c3, rfl, hl3, hf3, hg3, hgr3⟩; have hT : Blk w3 (w.heap.size + 1) #[.int .i64 0, .int .i64 0, .slice none 0 0] := (Blk.new_ (n := w.heap.size + 1) (w.alloc (.cells #[.int .i64 1, .int .i64 n, .slice A ks.length c] 29)) 29 #[.int .i64 0, .int .i64 0, .slice none 0 0] (by simp)).grown hgr3 (by simp; omega); have d0 := hT.at_ (i := 0) rfl; have d1 := hT.at_ (i := 1) rfl; have d2 := hT.at_ (i := 2) rfl; have e0 := hT.frozen 0; have e1 := hT.frozen 1; have e2 := hT.frozen 2)
    have hgr : w.grownBy w3 (some g) := grown_trans (only_alloc (only_alloc (World.grownBy.refl _ _) _) _) hgr3
    have hsz : w.heap.size + 1 < w3.heap.size := by have := hT.lt; simpa using this
    have hgne : g ≠ w.heap.size + 1 := by omega
    refine bodyPost_ret (v := .agg #[.int .i64 ft.k, .int .i64 ft.n, .slice A3 ft.ks.length c3]) (by simp [results, Try.results108, go_sem, d0, d1, d2]) rfl ⟨A3, c3, rfl, hl3, ?_, ?_, ?_⟩
    · exact (((hf3.setCell (by simp) _).setCell (by simp) _).setCell (by simp) _).mono (by simp; omega)
    · exact ((hg3.far (by simpa using hgne) _).far (by simpa using hgne) _).far (by simpa using hgne) _
    · exact only_setCell (only_setCell (only_setCell hgr (.inr (by simp)) _) (.inr (by simp)) _) (.inr (by simp)) _
  · have hz : chg f d (.mk k n ks) = .mk k n (chgs f k d 0 ks) := by rw [chg, if_neg hk]
    have hzo : chgOk ok d (.mk k n ks) = chgsOk ok k d 0 ks := by rw [chgOk, if_neg hk]
    have q1 : (k == 1) = false := by simpa using hk
    rw [hz, hzo]
    have hkids' := hide hkids
    clear hz hzo hk hkids ha hm1 hm2 hsh
    go_enter Try.func108, Try.ntmps108
    go_wp2_with fail
    go_loopw [26] (fun i wr => ∃ (j : Nat) (v : Value), j ≤ ks.length ∧ i = .int .i64 j ∧ Part (w.heap.size + 3) wr v (chgs f k d 0 (ks.take j)) ∧ Blk wr (w.heap.size + 1 + 1) #[.int .i64 k, .int .i64 n, v] ∧ Blk wr (w.heap.size + 1) #[.int .i64 0, .int .i64 0, .slice none 0 0] ∧ Blk wr w.heap.size #[.int .i64 k, .int .i64 n, .slice A ks.length c] ∧ Blk wr g #[.bool (b && chgsOk ok k d 0 (ks.take j))] ∧ w.grownBy wr (some g))
      (fun i _ => ks.length - (intOf i).toNat)
    case atStart => exact ⟨0, _, Nat.zero_le _, rfl, Part.nil, Blk.new_ _ _ _ (by simp), (Blk.new_ _ _ _ (by simp)).alloc _, ((Blk.new_ _ _ _ rfl).alloc _).alloc _, by simpa [chgsOk] using ((hg.alloc _).alloc _).alloc _, only_alloc (only_alloc (only_alloc (World.grownBy.refl _ _) _) _) _⟩
    case round =>
      obtain ⟨j, v, hj, rfl, hp, hB3, hB2, hB1, hGr, hgr⟩ := hrel
      by_cases hlt : j < ks.length
      · obtain ⟨b1, off, k', n', ks', A', c', rfl, hkj, hc1, hc2, hc3, hl', hr'⟩ := (hr.grown hgr (fun b hb e => hb (by injection e))).at_ hlt
        have hbl := World.block_lt_of_cell? _ _ hc1
        have hsz := sizes_le (List.getElem_mem hlt)
        have hsk := hkids'.out _ (List.getElem_mem hlt)
        rw [hkj] at hsz hsk
        simp only [Tm.size] at hsz
        have H3 := hide hkj
        have H4 := hide hsk
        clear hkj hsk
        have hz3 := hB3.lt
        have c2 : wr.cell? ⟨w.heap.size + 1 + 1, 2, none⟩ = some v := hB3.at_ rfl
        go_wp2_with fail
        refine name_world ?_
        intro wx hwx
        have hXB : Blk wx wr.heap.size #[.int .i64 k', .int .i64 n', .slice A' ks'.length c'] := by rw [hwx]; exact Blk.new_ _ _ _ rfl
        have hpx : Part (w.heap.size + 3) wx v (chgs f k d 0 (ks.take j)) := by rw [hwx]; exact hp.alloc _
        have hrx : RdP (· ≠ g) wx A' 0 ks' := by rw [hwx]; exact hr'.alloc _
        have hB3x : Blk wx (w.heap.size + 1 + 1) #[.int .i64 k, .int .i64 n, v] := by rw [hwx]; exact hB3.alloc _
        have hB2x : Blk wx (w.heap.size + 1) #[.int .i64 0, .int .i64 0, .slice none 0 0] := by rw [hwx]; exact hB2.alloc _
        have hB1x : Blk wx w.heap.size #[.int .i64 k, .int .i64 n, .slice (some ⟨b1, off, none⟩) ks.length c] := by rw [hwx]; exact hB1.alloc _
        have hGx : Blk wx g #[.bool (b && chgsOk ok k d 0 (ks.take j))] := by rw [hwx]; exact hGr.alloc _
        have hgx : w.grownBy wx (some g) := by rw [hwx]; exact only_alloc hgr _
        have hs1 : wr.heap.size < wx.heap.size := by rw [hwx]; simp
        have hs2 : w.heap.size + 1 + 1 < wx.heap.size := by omega
        have x2 := hB3x.ruleG (g := g) (by omega) (i := 2) rfl
        have x0 := hB1x.ruleG (g := g) (by omega) (i := 0) rfl
        have y0 := hXB.ruleG (g := g) (by omega) (i := 0) rfl
        have y1 := hXB.ruleG (g := g) (by omega) (i := 1) rfl
        have y2 := hXB.ruleG (g := g) (by omega) (i := 2) rfl
        have hun := under_le k j
        clear hwx
        refine wp_region_firstY (fun w' => wx.grownBy w' (some g)) [0, 1, 2, 3, 4, 5, 6, 7, 8, 9] [10, 11] [12, 13, 14] [_, _, _, _, _, _, _, _, _, _] [_, _] [_, _, _] (by kernel_rfl) (by kernel_rfl) rfl rfl rfl (fun _ _ d _ _ h => by cases d <;> exact h) (only_drew (World.grownBy.refl _ _)) ?_
        repeat (first | ((refine takeY_skip (a' := ?_) ?_ ?_ ?_); (rotate_left); (· (simp [Region.wanted, yielded]; done)); (· (simp only [Act.put, List.setIfInBounds_toArray, List.set_cons_zero, List.set_cons_succ]; exact rfl))) | ((refine takeY_step (v := ?_) (a' := ?_) ?_ ?_ ?_ ?_); (rotate_left 2); (· (simp [Region.wanted, yielded]; done)); (· (intro w' hS'; go_simp; try (with_reducible rfl))); (· (simp only [Act.put, List.setIfInBounds_toArray, List.set_cons_zero, List.set_cons_succ]; exact rfl))) | ((refine takeY_call (v := ?_) (a' := ?_) 113 ?_ ?_ ?_ ?_ ?_ ?_); (rotate_left 3); (· (simp [Region.wanted, yielded]; done)); (· (intro w' hS'; go_simp; try (with_reducible rfl))); (· (intro w' hS'; exact iUnder_any _ _ _)); (· (simp only [Act.put, List.setIfInBounds_toArray, List.set_cons_zero, List.set_cons_succ]; exact rfl))))
        obtain ⟨k2, n2, ks2, hct⟩ : ∃ k2 n2 ks2, chg f (d + under k j) (.mk k' n' ks') = .mk k2 n2 ks2 := tm_eta _
        have hct' := hide hct
        clear hct
        refine takeY_nil (then_cons ?_)
        go_wp2_with (go_at_call 108; refine (ih k' n' ks' A' c' (d + under k j) q _ (b && chgsOk ok k d 0 (ks.take j)) (by omega) H4.out (by omega) (by omega) (by omega) (grown_trans hW (grown_trans hgx (only_drew (World.grownBy.refl _ _)))) hGx.drew hrx.drew).mono ?_; rw [hct'.out]; intro e w1 hpost; obtain ⟨A1, c1, rfl, hl1, hf1, hG1, hg1⟩ := gotG_mk hpost; clear hpost)
        have hx1 : wx.grownBy w1 (some g) := grown_trans (only_drew (World.grownBy.refl _ _)) hg1
        have hw1 : wx.heap.size ≤ w1.heap.size := hx1.size
        refine mid_intro hx1 (then_cons ?_)
        go_wp2_with fail
        refine mid_intro (only_alloc hx1 _) (then_nil ?_)
        refine wpList_append_builtG (B := w.heap.size + 3) (m := j) hpx.drew (fun b h1 h2 => hg1.block b h2 (by simp; omega)) hw1 (by simp; omega) hf1 hl1 (by rw [chgs_length]; simp; omega) (by omega) rfl (.tmp 32) (.tmp 42) rfl rfl rfl ?_
        intro A2 c2 w2 hp2 hb2 hg2
        have q3 : Blk w2 (w.heap.size + 1 + 1) #[.int .i64 k, .int .i64 n, v] := (hB3x.grown hx1 (by simp; omega)).below hb2 (by omega)
        have q2 : Blk w2 (w.heap.size + 1) #[.int .i64 0, .int .i64 0, .slice none 0 0] := (hB2x.grown hx1 (by simp; omega)).below hb2 (by omega)
        have q1 : Blk w2 w.heap.size #[.int .i64 k, .int .i64 n, .slice (some ⟨b1, off, none⟩) ks.length c] := (hB1x.grown hx1 (by simp; omega)).below hb2 (by omega)
        have qg := hG1.below hb2 (by omega)
        have c3 : w2.cell? ⟨w.heap.size + 1 + 1, 2, none⟩ = some v := q3.at_ rfl
        have z3 := q3.frozen 2
        have hgf : w.grownBy w2 (some g) := only_belowB (grown_trans hgx hx1) hb2 (by omega)
        clear x2 y0 y1 y2 x0 hpx hrx hB3x hB2x hB1x hGx
        go_wp2_with fail
        go_roundw
        case rel =>
          refine ⟨j + 1, _, by omega, by go_num, ?_, q3.set_ 2 _, q2.far (by simp) _, q1.far (by simp; omega) _, ?_, only_setCell hgf (.inr (by simp; omega)) _⟩
          · rw [chgs_take f k d hlt, H3.out, hct'.out]
            exact hp2.setCell (by simp) _
          · rw [chgsOk_take ok k d hlt, H3.out, ← Bool.and_assoc]
            exact qg.far (by simp; omega) _
        case measure => simp [intOf]; omega
      · have hjl : j = ks.length := by omega
        subst hjl
        rw [List.take_length] at hp hGr
        obtain ⟨Ar, cr, rfl, hfr⟩ := hp.fresh
        have c0 : wr.cell? ⟨w.heap.size + 1 + 1, 0, none⟩ = some (.int .i64 k) := hB3.at_ rfl
        have c1 : wr.cell? ⟨w.heap.size + 1 + 1, 1, none⟩ = some (.int .i64 n) := hB3.at_ rfl
        have c2 : wr.cell? ⟨w.heap.size + 1 + 1, 2, none⟩ = some (.slice Ar (chgs f k d 0 ks).length cr) := hB3.at_ rfl
        have d0 : wr.cell? ⟨w.heap.size + 1, 0, none⟩ = some (.int .i64 0) := hB2.at_ rfl
        have d1 : wr.cell? ⟨w.heap.size + 1, 1, none⟩ = some (.int .i64 0) := hB2.at_ rfl
        have d2 : wr.cell? ⟨w.heap.size + 1, 2, none⟩ = some (.slice none 0 0) := hB2.at_ rfl
        have e0 := hB2.frozen 0
        have e1 := hB2.frozen 1
        have e2 := hB2.frozen 2
        have hgne : g ≠ w.heap.size + 1 := by omega
        go_wp2_with fail
        refine bodyPost_ret (v := .agg #[.int .i64 k, .int .i64 n, .slice Ar (chgs f k d 0 ks).length cr]) (by simp [results, Try.results108, go_sem, d0, d1, d2]) rfl ⟨Ar, cr, rfl, by rw [show (Tm.mk k n (chgs f k d 0 ks)).ks = chgs f k d 0 ks from rfl, chgs_length]; omega, ?_, ?_, ?_⟩
        · exact (((hfr.setCell (by simp) _).setCell (by simp) _).setCell (by simp) _).mono (by omega)
        · exact ((hGr.far (by simpa using hgne) _).far (by simpa using hgne) _).far (by simpa using hgne) _
        · exact only_setCell (only_setCell (only_setCell hgr (.inr (by simp)) _) (.inr (by simp)) _) (.inr (by simp)) _
end Go.Proofs.Ytefifcmieicnlaa
