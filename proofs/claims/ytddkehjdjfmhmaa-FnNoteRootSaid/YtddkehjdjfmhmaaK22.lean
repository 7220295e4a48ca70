/-
 Contracts of the functions that the law reaches, and plain lemmas. No condition.
-/
import Derived.Test.YtddkehjdjfmhmaaK5
import Derived.Test.YtddkehjdjfmhmaaK21
namespace Go.Proofs.Ytddkehjdjfmhmaa
set_option linter.unusedSimpArgs false
set_option linter.unusedVariables false
open Go.RowKit
def GtZ (w : World) : Rs Tm → Ending → World → Prop
 | .ok (.mk k n ks) => GotI w k n ks
 | .no b => fun e w' => e = .returned (.tuple #[.agg #[.int .i64 0, .int .i64 0, .slice none 0 0], .int .i64 (cdB b)]) ∧ Below w.heap.size w w'
def InfC (N : Nat) : Prop := ∀ (ctx : List Tm) (k n : Int) (ks : List Tm) (r : Rs Tm), infR N ctx (.mk k n ks) = some r → validT (.mk k n ks) = true → (∀ u, u ∈ ctx → validT u = true) → ctx.length ≤ 21 →
 ∀ (C : Option Addr) (cc : Nat) (A : Option Addr) (c : Nat) (w : World), Rd w C 0 ctx → Rd w A 0 ks → Calls Try.prog 51 #[.slice C ctx.length cc, .agg #[.int .i64 k, .int .i64 n, .slice A ks.length c]] w (GtZ w r)
theorem gtz {f : FuncId} {args : Array Value} {w : World} {r : Rs Tm} (h : Calls Try.prog f args w (GtZ w r)) : Calls Try.prog f args w (GtT w r) := h.mono fun e w' h => by
 cases r with
 | ok t => cases t; exact h
 | no b => exact ⟨0, 0, none, 0, 0, h.1, h.2⟩
def GtS (w : World) : Rs Int → Ending → World → Prop
 | .ok l => fun e w' => e = .returned (.tuple #[.int .i64 l, .int .i64 0]) ∧ Below w.heap.size w w'
 | .no b => fun e w' => ∃ l, e = .returned (.tuple #[.int .i64 l, .int .i64 (cdB b)]) ∧ Below w.heap.size w w'
theorem cdB_q (b : Bool) : (cdB b != 0) = true := by cases b <;> rfl
theorem cdB_q2 (b : Bool) : (cdB b == 0) = false := by cases b <;> rfl
set_option maxRecDepth 100000 in
set_option maxHeartbeats 8000000 in
theorem sSort_any {N : Nat} (ih : InfC N) (ctx : List Tm) (C : Option Addr) (cc : Nat) (k n : Int) (ks : List Tm) (A : Option Addr) (c : Nat) (r : Rs Int) (w : World) (hs : srtR (infR N) ctx (.mk k n ks) = some r) (hv : validT (.mk k n ks) = true) (hvc : ∀ u, u ∈ ctx → validT u = true) (hm : ctx.length ≤ 21) (hrc : Rd w C 0 ctx) (hra : Rd w A 0 ks) :
  Calls Try.prog 62 #[.slice C ctx.length cc, .agg #[.int .i64 k, .int .i64 n, .slice A ks.length c]] w (GtS w r) := by
 rcases bd_inv hs with ⟨b, h1, rfl⟩ | ⟨⟨k1, n1, s1⟩, h1, hs⟩
 ·have hI := hide (fun (w : World) (hrc : Rd w C 0 ctx) (hra : Rd w A 0 ks) => gtz (ih ctx k n ks _ h1 hv hvc hm C cc A c w hrc hra))
  have qb := cdB_q b
  clear hs h1 hv hvc ih
  go_enter Try.func62, Try.ntmps62
  go_wp2_with (go_at_call 51; refine (hI.out _ (hrc.alloc _) (hra.alloc _)).mono ?_; rintro e w1 ⟨k1, n1, A1, l1, c1, rfl, hb1⟩; have hT : Blk w1 w.heap.size #[.int .i64 k, .int .i64 n, .slice A ks.length c] := (Blk.new_ w 25 #[.int .i64 k, .int .i64 n, .slice A ks.length c] rfl).keep hb1; have g1 : Below w.heap.size w w1 := ((Below.refl _ _).alloc (by simp <;> omega) _).trans (hb1.mono (by simp <;> omega)); have g2 := g1.alloc g1.size (.cells #[.int .i64 k1, .int .i64 n1, .slice A1 l1 c1] 25))
  go_ret2
  exact ⟨0, rfl, g2⟩
 ·have hI := hide (fun (w : World) (hrc : Rd w C 0 ctx) (hra : Rd w A 0 ks) => gtz (ih ctx k n ks _ h1 hv hvc hm C cc A c w hrc hra))
  have hH := hide (fun (w : World) (A : Option Addr) (c : Nat) (hr : Rd w A 0 s1) => sHd_any k1 n1 s1 A c w (infR_valid h1) hr)
  rcases bd_inv hs with ⟨b, h2, rfl⟩ | ⟨⟨k3, n3, s3⟩, h2, hs⟩
  ·injection h2 with h2
   rw [h2] at hH
   have qb := cdB_q b
   clear hs h1 h2 hv hvc ih
   go_enter Try.func62, Try.ntmps62
   go_wp2_with (first
    | (go_at_call 70; have _t := tok; refine (hH.out _ A1 c1 r2).mono ?_; rintro e w3 ⟨k3, n3, A3, l3, c3, rfl, hb3⟩; have g3 := (g2.trans (hb3.mono g2.size)).alloc (by have := g2.size; have := hb3.size; omega) (.cells #[.int .i64 k3, .int .i64 n3, .slice A3 l3 c3] 25))
    | (go_at_call 51; refine (hI.out _ (hrc.alloc _) (hra.alloc _)).mono ?_; rintro e w1 ⟨A1, c1, rfl, hl1, r1, hb1⟩; have hT : Blk w1 w.heap.size #[.int .i64 k, .int .i64 n, .slice A ks.length c] := (Blk.new_ w 25 #[.int .i64 k, .int .i64 n, .slice A ks.length c] rfl).keep hb1; have g1 : Below w.heap.size w w1 := ((Below.refl _ _).alloc (by simp <;> omega) _).trans (hb1.mono (by simp <;> omega)); have hK := Blk.new_ w1 25 #[.int .i64 k1, .int .i64 n1, .slice A1 s1.length c1] rfl; have g2 := g1.alloc g1.size (.cells #[.int .i64 k1, .int .i64 n1, .slice A1 s1.length c1] 25); have r2 := r1.alloc (.cells #[.int .i64 k1, .int .i64 n1, .slice A1 s1.length c1] 25); obtain ⟨y0, y1, y2⟩ := hK.three; have tok := trivial))
   go_ret2
   exact ⟨0, rfl, g3⟩
  ·injection h2 with h2
   rw [h2] at hH
   unfold srtH at hs
   by_cases hk : k3 = 2
   ·subst hk
    rw [if_pos (show (Tm.mk 2 n3 s3).k = 2 from rfl)] at hs
    injection hs with hs
    subst hs
    clear h1 h2 hv hvc ih
    go_enter Try.func62, Try.ntmps62
    go_wp2_with (first
     | (go_at_call 70; have _t := tok; refine (hH.out _ A1 c1 r2).mono ?_; rintro e w3 ⟨A3, c3, rfl, hl3, r3, hb3⟩; have hJ := Blk.new_ w3 25 #[.int .i64 2, .int .i64 n3, .slice A3 s3.length c3] rfl; have g3 := (g2.trans (hb3.mono g2.size)).alloc (by have := g2.size; have := hb3.size; omega) (.cells #[.int .i64 2, .int .i64 n3, .slice A3 s3.length c3] 25); have r4 := r3.alloc (.cells #[.int .i64 2, .int .i64 n3, .slice A3 s3.length c3] 25); obtain ⟨v0, v1, v2⟩ := hJ.three)
     | (go_at_call 51; refine (hI.out _ (hrc.alloc _) (hra.alloc _)).mono ?_; rintro e w1 ⟨A1, c1, rfl, hl1, r1, hb1⟩; have hT : Blk w1 w.heap.size #[.int .i64 k, .int .i64 n, .slice A ks.length c] := (Blk.new_ w 25 #[.int .i64 k, .int .i64 n, .slice A ks.length c] rfl).keep hb1; have g1 : Below w.heap.size w w1 := ((Below.refl _ _).alloc (by simp <;> omega) _).trans (hb1.mono (by simp <;> omega)); have hK := Blk.new_ w1 25 #[.int .i64 k1, .int .i64 n1, .slice A1 s1.length c1] rfl; have g2 := g1.alloc g1.size (.cells #[.int .i64 k1, .int .i64 n1, .slice A1 s1.length c1] 25); have r2 := r1.alloc (.cells #[.int .i64 k1, .int .i64 n1, .slice A1 s1.length c1] 25); obtain ⟨y0, y1, y2⟩ := hK.three; have tok := trivial))
    go_ret2
    exact ⟨rfl, g3⟩
   ·rw [if_neg (show ¬ (Tm.mk k3 n3 s3).k = 2 from hk)] at hs
    injection hs with hs
    subst hs
    have qk : (k3 != 2) = true := by simpa using hk
    clear h1 h2 hv hvc ih hk
    go_enter Try.func62, Try.ntmps62
    go_wp2_with (first
     | (go_at_call 70; have _t := tok; refine (hH.out _ A1 c1 r2).mono ?_; rintro e w3 ⟨A3, c3, rfl, hl3, r3, hb3⟩; have hJ := Blk.new_ w3 25 #[.int .i64 k3, .int .i64 n3, .slice A3 s3.length c3] rfl; have g3 := (g2.trans (hb3.mono g2.size)).alloc (by have := g2.size; have := hb3.size; omega) (.cells #[.int .i64 k3, .int .i64 n3, .slice A3 s3.length c3] 25); have r4 := r3.alloc (.cells #[.int .i64 k3, .int .i64 n3, .slice A3 s3.length c3] 25); obtain ⟨v0, v1, v2⟩ := hJ.three)
     | (go_at_call 51; refine (hI.out _ (hrc.alloc _) (hra.alloc _)).mono ?_; rintro e w1 ⟨A1, c1, rfl, hl1, r1, hb1⟩; have hT : Blk w1 w.heap.size #[.int .i64 k, .int .i64 n, .slice A ks.length c] := (Blk.new_ w 25 #[.int .i64 k, .int .i64 n, .slice A ks.length c] rfl).keep hb1; have g1 : Below w.heap.size w w1 := ((Below.refl _ _).alloc (by simp <;> omega) _).trans (hb1.mono (by simp <;> omega)); have hK := Blk.new_ w1 25 #[.int .i64 k1, .int .i64 n1, .slice A1 s1.length c1] rfl; have g2 := g1.alloc g1.size (.cells #[.int .i64 k1, .int .i64 n1, .slice A1 s1.length c1] 25); have r2 := r1.alloc (.cells #[.int .i64 k1, .int .i64 n1, .slice A1 s1.length c1] 25); obtain ⟨y0, y1, y2⟩ := hK.three; have tok := trivial))
    go_ret2
    exact ⟨0, rfl, g3⟩
set_option maxRecDepth 100000 in
set_option maxHeartbeats 8000000 in
theorem sCheck_any {N : Nat} (ih : InfC N) (ctx : List Tm) (C : Option Addr) (cc : Nat) (k n : Int) (ks : List Tm) (A : Option Addr) (c : Nat) (k2 n2 : Int) (s2 : List Tm) (A2 : Option Addr) (c2 : Nat) (r : Rs Unit) (w : World) (hs : chkR (infR N) ctx (.mk k n ks) (.mk k2 n2 s2) = some r) (hv : validT (.mk k n ks) = true) (hvc : ∀ u, u ∈ ctx → validT u = true) (hm : ctx.length ≤ 21) (hrc : Rd w C 0 ctx) (hra : Rd w A 0 ks) (hs2 : sizes s2 ≤ 1000000) (hr2 : Rd w A2 0 s2) :
  Calls Try.prog 86 #[.slice C ctx.length cc, .agg #[.int .i64 k, .int .i64 n, .slice A ks.length c], .agg #[.int .i64 k2, .int .i64 n2, .slice A2 s2.length c2]] w fun e w' => e = .returned (.int .i64 r.cd) ∧ Below w.heap.size w w' := by
 rcases bd_inv hs with ⟨b, h1, rfl⟩ | ⟨⟨k1, n1, s1⟩, h1, hs⟩
 ·have hI := hide (fun (w : World) (hrc : Rd w C 0 ctx) (hra : Rd w A 0 ks) => gtz (ih ctx k n ks _ h1 hv hvc hm C cc A c w hrc hra))
  have qb := cdB_q b
  clear hs h1 hv hvc ih
  go_enter Try.func86, Try.ntmps86
  go_wp2_with (go_at_call 51; refine (hI.out _ ((hrc.alloc _).alloc _) ((hra.alloc _).alloc _)).mono ?_; rintro e w1 ⟨k1, n1, A1, l1, c1, rfl, hb1⟩; have hT : Blk w1 w.heap.size #[.int .i64 k, .int .i64 n, .slice A ks.length c] := ((Blk.new_ w 25 #[.int .i64 k, .int .i64 n, .slice A ks.length c] rfl).alloc _).keep hb1; have hW : Blk w1 (w.heap.size + 1) #[.int .i64 k2, .int .i64 n2, .slice A2 s2.length c2] := (Blk.new_ _ 25 #[.int .i64 k2, .int .i64 n2, .slice A2 s2.length c2] (by simp)).keep hb1; have g1 : Below w.heap.size w w1 := (((Below.refl _ _).alloc (by simp <;> omega) _).alloc (by simp <;> omega) _).trans (hb1.mono (by simp <;> omega)); have g2 := g1.alloc g1.size (.cells #[.int .i64 k1, .int .i64 n1, .slice A1 l1 c1] 25))
  go_ret
  exact ⟨rfl, g2⟩
 ·have hI := hide (fun (w : World) (hrc : Rd w C 0 ctx) (hra : Rd w A 0 ks) => gtz (ih ctx k n ks _ h1 hv hvc hm C cc A c w hrc hra))
  injection hs with hs
  have hS := hide (fun (w : World) (A1 : Option Addr) (c1 : Nat) (hr : Rd w A1 0 s1) (hr2 : Rd w A2 0 s2) => sSameT_any k1 n1 s1 A1 c1 k2 n2 s2 A2 c2 w (infR_valid h1) hs2 hr hr2)
  rw [hs] at hS
  clear hs h1 hv hvc ih
  go_enter Try.func86, Try.ntmps86
  go_wp2_with (first
   | (go_at_call 93; have _t := tok; refine (hS.out _ A1 c1 r2 (hr2.below g2)).mono ?_; rintro e w3 ⟨rfl, hb3⟩; have g3 := g2.trans (hb3.mono g2.size))
   | (go_at_call 51; refine (hI.out _ ((hrc.alloc _).alloc _) ((hra.alloc _).alloc _)).mono ?_; rintro e w1 ⟨A1, c1, rfl, hl1, r1, hb1⟩; have hT : Blk w1 w.heap.size #[.int .i64 k, .int .i64 n, .slice A ks.length c] := ((Blk.new_ w 25 #[.int .i64 k, .int .i64 n, .slice A ks.length c] rfl).alloc _).keep hb1; have hW : Blk w1 (w.heap.size + 1) #[.int .i64 k2, .int .i64 n2, .slice A2 s2.length c2] := (Blk.new_ _ 25 #[.int .i64 k2, .int .i64 n2, .slice A2 s2.length c2] (by simp)).keep hb1; have g1 : Below w.heap.size w w1 := (((Below.refl _ _).alloc (by simp <;> omega) _).alloc (by simp <;> omega) _).trans (hb1.mono (by simp <;> omega)); have hK := Blk.new_ w1 25 #[.int .i64 k1, .int .i64 n1, .slice A1 s1.length c1] rfl; have g2 := g1.alloc g1.size (.cells #[.int .i64 k1, .int .i64 n1, .slice A1 s1.length c1] 25); have r2 := r1.alloc (.cells #[.int .i64 k1, .int .i64 n1, .slice A1 s1.length c1] 25); obtain ⟨y0, y1, y2⟩ := hK.three; have tok := trivial; have hW2 := hW.alloc (.cells #[.int .i64 k1, .int .i64 n1, .slice A1 s1.length c1] 25); obtain ⟨z0, z1, z2⟩ := hW2.three))
  go_ret
  exact ⟨rfl, g3⟩
set_option maxRecDepth 100000 in
set_option maxHeartbeats 8000000 in
theorem sShape_any {N : Nat} (ih : InfC N) (ctx : List Tm) (C : Option Addr) (cc : Nat) (k n : Int) (ks : List Tm) (A : Option Addr) (c : Nat) (kind : Int) (r : Rs Tm) (w : World) (hs : shpR (infR N) ctx (.mk k n ks) kind = some r) (hv : validT (.mk k n ks) = true) (hvc : ∀ u, u ∈ ctx → validT u = true) (hm : ctx.length ≤ 21) (hrc : Rd w C 0 ctx) (hra : Rd w A 0 ks) :
  Calls Try.prog 85 #[.slice C ctx.length cc, .agg #[.int .i64 k, .int .i64 n, .slice A ks.length c], .int .i64 kind] w (GtT w r) := by
 rcases bd_inv hs with ⟨b, h1, rfl⟩ | ⟨⟨k1, n1, s1⟩, h1, hs⟩
 ·have hI := hide (fun (w : World) (hrc : Rd w C 0 ctx) (hra : Rd w A 0 ks) => gtz (ih ctx k n ks _ h1 hv hvc hm C cc A c w hrc hra))
  have qb := cdB_q b
  clear hs h1 hv hvc ih
  go_enter Try.func85, Try.ntmps85
  go_wp2_with (go_at_call 51; refine (hI.out _ ((hrc.alloc _).alloc _) ((hra.alloc _).alloc _)).mono ?_; rintro e w1 ⟨k1, n1, A1, l1, c1, rfl, hb1⟩; have hT : Blk w1 w.heap.size #[.int .i64 k, .int .i64 n, .slice A ks.length c] := ((Blk.new_ w 25 #[.int .i64 k, .int .i64 n, .slice A ks.length c] rfl).alloc _).keep hb1; have hZ : Blk w1 (w.heap.size + 1) #[.int .i64 0, .int .i64 0, .slice none 0 0] := (Blk.new_ _ 25 #[.int .i64 0, .int .i64 0, .slice none 0 0] (by simp)).keep hb1; have g1 : Below w.heap.size w w1 := (((Below.refl _ _).alloc (by simp <;> omega) _).alloc (by simp <;> omega) _).trans (hb1.mono (by simp <;> omega)); have g2 := g1.alloc g1.size (.cells #[.int .i64 k1, .int .i64 n1, .slice A1 l1 c1] 25); have hZ2 := hZ.alloc (.cells #[.int .i64 k1, .int .i64 n1, .slice A1 l1 c1] 25); obtain ⟨d0, d1, d2⟩ := hZ2.three; have e0 := hZ2.frozen 0; have e1 := hZ2.frozen 1; have e2 := hZ2.frozen 2; have lz := hZ2.lt)
  refine bodyPost_ret (v := .tuple #[.agg #[.int .i64 0, .int .i64 0, .slice none 0 0], .int .i64 (cdB b)]) (by simp [results, Try.results85, go_sem, d0, d1, d2]) rfl ⟨0, 0, none, 0, 0, rfl, ?_⟩
  exact ((g2.setCell (by simp) _).setCell (by simp) _).setCell (by simp) _
 ·have hI := hide (fun (w : World) (hrc : Rd w C 0 ctx) (hra : Rd w A 0 ks) => gtz (ih ctx k n ks _ h1 hv hvc hm C cc A c w hrc hra))
  have hH := hide (fun (w : World) (A : Option Addr) (c : Nat) (hr : Rd w A 0 s1) => sHd_any k1 n1 s1 A c w (infR_valid h1) hr)
  rcases bd_inv hs with ⟨b, h2, rfl⟩ | ⟨⟨k3, n3, s3⟩, h2, hs⟩
  ·injection h2 with h2
   rw [h2] at hH
   have qb := cdB_q b
   clear hs h1 h2 hv hvc ih
   go_enter Try.func85, Try.ntmps85
   go_wp2_with (first
    | (go_at_call 70; have _t := tok; refine (hH.out _ A1 c1 r2).mono ?_; rintro e w3 ⟨k3, n3, A3, l3, c3, rfl, hb3⟩; have g3 := (g2.trans (hb3.mono g2.size)).alloc (by have := g2.size; have := hb3.size; omega) (.cells #[.int .i64 k3, .int .i64 n3, .slice A3 l3 c3] 25); have hZ2 := ((hZ.alloc (.cells #[.int .i64 k1, .int .i64 n1, .slice A1 s1.length c1] 25)).keep hb3).alloc (.cells #[.int .i64 k3, .int .i64 n3, .slice A3 l3 c3] 25); obtain ⟨d0, d1, d2⟩ := hZ2.three; have e0 := hZ2.frozen 0; have e1 := hZ2.frozen 1; have e2 := hZ2.frozen 2; have lz := hZ2.lt)
    | (go_at_call 51; refine (hI.out _ ((hrc.alloc _).alloc _) ((hra.alloc _).alloc _)).mono ?_; rintro e w1 ⟨A1, c1, rfl, hl1, r1, hb1⟩; have hT : Blk w1 w.heap.size #[.int .i64 k, .int .i64 n, .slice A ks.length c] := ((Blk.new_ w 25 #[.int .i64 k, .int .i64 n, .slice A ks.length c] rfl).alloc _).keep hb1; have hZ : Blk w1 (w.heap.size + 1) #[.int .i64 0, .int .i64 0, .slice none 0 0] := (Blk.new_ _ 25 #[.int .i64 0, .int .i64 0, .slice none 0 0] (by simp)).keep hb1; have g1 : Below w.heap.size w w1 := (((Below.refl _ _).alloc (by simp <;> omega) _).alloc (by simp <;> omega) _).trans (hb1.mono (by simp <;> omega)); have hK := Blk.new_ w1 25 #[.int .i64 k1, .int .i64 n1, .slice A1 s1.length c1] rfl; have g2 := g1.alloc g1.size (.cells #[.int .i64 k1, .int .i64 n1, .slice A1 s1.length c1] 25); have r2 := r1.alloc (.cells #[.int .i64 k1, .int .i64 n1, .slice A1 s1.length c1] 25); obtain ⟨y0, y1, y2⟩ := hK.three; have tok := trivial; have hZ2 := hZ.alloc (.cells #[.int .i64 k1, .int .i64 n1, .slice A1 s1.length c1] 25); obtain ⟨d0, d1, d2⟩ := hZ2.three; have e0 := hZ2.frozen 0; have e1 := hZ2.frozen 1; have e2 := hZ2.frozen 2; have lz := hZ2.lt))
   refine bodyPost_ret (v := .tuple #[.agg #[.int .i64 0, .int .i64 0, .slice none 0 0], .int .i64 (cdB b)]) (by simp [results, Try.results85, go_sem, d0, d1, d2]) rfl ⟨0, 0, none, 0, 0, rfl, ?_⟩
   exact ((g3.setCell (by simp) _).setCell (by simp) _).setCell (by simp) _
  ·injection h2 with h2
   have hv3 := hide (hdR_valid h2).2.1
   rw [h2] at hH
   unfold shpH at hs
   by_cases hk : k3 = kind
   ·subst hk
    rw [if_pos (show (Tm.mk k3 n3 s3).k = k3 from rfl)] at hs
    injection hs with hs
    subst hs
    clear h1 h2 hv hvc ih
    go_enter Try.func85, Try.ntmps85
    go_wp2_with (first
     | (go_at_call 70; have _t := tok; refine (hH.out _ A1 c1 r2).mono ?_; rintro e w3 ⟨A3, c3, rfl, hl3, r3, hb3⟩; have hJ := Blk.new_ w3 25 #[.int .i64 k3, .int .i64 n3, .slice A3 s3.length c3] rfl; have g3 := (g2.trans (hb3.mono g2.size)).alloc (by have := g2.size; have := hb3.size; omega) (.cells #[.int .i64 k3, .int .i64 n3, .slice A3 s3.length c3] 25); have r4 := r3.alloc (.cells #[.int .i64 k3, .int .i64 n3, .slice A3 s3.length c3] 25); obtain ⟨v0, v1, v2⟩ := hJ.three; have hZ2 := ((hZ.alloc (.cells #[.int .i64 k1, .int .i64 n1, .slice A1 s1.length c1] 25)).keep hb3).alloc (.cells #[.int .i64 k3, .int .i64 n3, .slice A3 s3.length c3] 25); obtain ⟨d0, d1, d2⟩ := hZ2.three; have e0 := hZ2.frozen 0; have e1 := hZ2.frozen 1; have e2 := hZ2.frozen 2; have lz := hZ2.lt)
     | (go_at_call 51; refine (hI.out _ ((hrc.alloc _).alloc _) ((hra.alloc _).alloc _)).mono ?_; rintro e w1 ⟨A1, c1, rfl, hl1, r1, hb1⟩; have hT : Blk w1 w.heap.size #[.int .i64 k, .int .i64 n, .slice A ks.length c] := ((Blk.new_ w 25 #[.int .i64 k, .int .i64 n, .slice A ks.length c] rfl).alloc _).keep hb1; have hZ : Blk w1 (w.heap.size + 1) #[.int .i64 0, .int .i64 0, .slice none 0 0] := (Blk.new_ _ 25 #[.int .i64 0, .int .i64 0, .slice none 0 0] (by simp)).keep hb1; have g1 : Below w.heap.size w w1 := (((Below.refl _ _).alloc (by simp <;> omega) _).alloc (by simp <;> omega) _).trans (hb1.mono (by simp <;> omega)); have hK := Blk.new_ w1 25 #[.int .i64 k1, .int .i64 n1, .slice A1 s1.length c1] rfl; have g2 := g1.alloc g1.size (.cells #[.int .i64 k1, .int .i64 n1, .slice A1 s1.length c1] 25); have r2 := r1.alloc (.cells #[.int .i64 k1, .int .i64 n1, .slice A1 s1.length c1] 25); obtain ⟨y0, y1, y2⟩ := hK.three; have tok := trivial; have hZ2 := hZ.alloc (.cells #[.int .i64 k1, .int .i64 n1, .slice A1 s1.length c1] 25); obtain ⟨d0, d1, d2⟩ := hZ2.three; have e0 := hZ2.frozen 0; have e1 := hZ2.frozen 1; have e2 := hZ2.frozen 2; have lz := hZ2.lt))
    refine bodyPost_ret (v := .tuple #[.agg #[.int .i64 k3, .int .i64 n3, .slice A3 s3.length c3], .int .i64 0]) (by simp [results, Try.results85, go_sem, d0, d1, d2]) rfl ⟨A3, c3, rfl, hl3, rd_set0 hZ2 hv3.out r4 _ _ _, ?_⟩
    exact ((g3.setCell (by simp) _).setCell (by simp) _).setCell (by simp) _
   ·rw [if_neg (show ¬ (Tm.mk k3 n3 s3).k = kind from hk)] at hs
    injection hs with hs
    subst hs
    have qk : (k3 != kind) = true := by simpa using hk
    clear h1 h2 hv hvc ih hk
    go_enter Try.func85, Try.ntmps85
    go_wp2_with (first
     | (go_at_call 70; have _t := tok; refine (hH.out _ A1 c1 r2).mono ?_; rintro e w3 ⟨A3, c3, rfl, hl3, r3, hb3⟩; have hJ := Blk.new_ w3 25 #[.int .i64 k3, .int .i64 n3, .slice A3 s3.length c3] rfl; have g3 := (g2.trans (hb3.mono g2.size)).alloc (by have := g2.size; have := hb3.size; omega) (.cells #[.int .i64 k3, .int .i64 n3, .slice A3 s3.length c3] 25); have r4 := r3.alloc (.cells #[.int .i64 k3, .int .i64 n3, .slice A3 s3.length c3] 25); obtain ⟨v0, v1, v2⟩ := hJ.three; have hZ2 := ((hZ.alloc (.cells #[.int .i64 k1, .int .i64 n1, .slice A1 s1.length c1] 25)).keep hb3).alloc (.cells #[.int .i64 k3, .int .i64 n3, .slice A3 s3.length c3] 25); obtain ⟨d0, d1, d2⟩ := hZ2.three; have e0 := hZ2.frozen 0; have e1 := hZ2.frozen 1; have e2 := hZ2.frozen 2; have lz := hZ2.lt)
     | (go_at_call 51; refine (hI.out _ ((hrc.alloc _).alloc _) ((hra.alloc _).alloc _)).mono ?_; rintro e w1 ⟨A1, c1, rfl, hl1, r1, hb1⟩; have hT : Blk w1 w.heap.size #[.int .i64 k, .int .i64 n, .slice A ks.length c] := ((Blk.new_ w 25 #[.int .i64 k, .int .i64 n, .slice A ks.length c] rfl).alloc _).keep hb1; have hZ : Blk w1 (w.heap.size + 1) #[.int .i64 0, .int .i64 0, .slice none 0 0] := (Blk.new_ _ 25 #[.int .i64 0, .int .i64 0, .slice none 0 0] (by simp)).keep hb1; have g1 : Below w.heap.size w w1 := (((Below.refl _ _).alloc (by simp <;> omega) _).alloc (by simp <;> omega) _).trans (hb1.mono (by simp <;> omega)); have hK := Blk.new_ w1 25 #[.int .i64 k1, .int .i64 n1, .slice A1 s1.length c1] rfl; have g2 := g1.alloc g1.size (.cells #[.int .i64 k1, .int .i64 n1, .slice A1 s1.length c1] 25); have r2 := r1.alloc (.cells #[.int .i64 k1, .int .i64 n1, .slice A1 s1.length c1] 25); obtain ⟨y0, y1, y2⟩ := hK.three; have tok := trivial; have hZ2 := hZ.alloc (.cells #[.int .i64 k1, .int .i64 n1, .slice A1 s1.length c1] 25); obtain ⟨d0, d1, d2⟩ := hZ2.three; have e0 := hZ2.frozen 0; have e1 := hZ2.frozen 1; have e2 := hZ2.frozen 2; have lz := hZ2.lt))
    refine bodyPost_ret (v := .tuple #[.agg #[.int .i64 0, .int .i64 0, .slice none 0 0], .int .i64 1]) (by simp [results, Try.results85, go_sem, d0, d1, d2]) rfl ⟨0, 0, none, 0, 0, rfl, ?_⟩
    exact ((g3.setCell (by simp) _).setCell (by simp) _).setCell (by simp) _
open Go.RowKit
set_option maxRecDepth 100000 in
set_option maxHeartbeats 8000000 in
theorem sBound_any {N : Nat} (ih : InfC N) (ctx : List Tm) (C : Option Addr) (cc : Nat) (k n : Int) (A : Option Addr) (c : Nat) (ka na : Int) (sa : List Tm) (kb nb : Int) (sb : List Tm) (r : Rs Tm) (w : World) (hs : bndR (infR N) ctx (.mk ka na sa) (.mk kb nb sb) = some r) (hva : validT (.mk ka na sa) = true) (hvb : validT (.mk kb nb sb) = true) (hvc : ∀ u, u ∈ ctx → validT u = true) (hm : ctx.length ≤ 20) (hrc : Rd w C 0 ctx) (hr : Rd w A 0 [.mk ka na sa, .mk kb nb sb]) :
  Calls Try.prog 71 #[.slice C ctx.length cc, .agg #[.int .i64 k, .int .i64 n, .slice A 2 c]] w (GtT w r) := by
 obtain ⟨bk, ok, x1, x2, x3, Aa, ca, rfl, hk1, a1, a2, a3, hla, ra⟩ := hr.at_ (j := 0) (by simp)
 injection hk1 with e1 e2 e3
 subst e1 e2 e3
 obtain ⟨bb, ob, x1, x2, x3, Ab, cb, hAb, hk1, b1, b2, b3, hlb, rb⟩ := hr.at_ (j := 1) (by simp)
 injection hk1 with e1 e2 e3
 injection hAb with hA
 injection hA with hA1 hA2
 subst e1 e2 e3 hA1 hA2
 simp only [Nat.zero_mul, Nat.add_zero, Nat.one_mul, Nat.reduceMul] at a1 a2 a3 b1 b2 b3
 have lbp := World.block_lt_of_cell? _ _ a1
 rcases bd_inv hs with ⟨b, h1, rfl⟩ | ⟨li, h1, hs⟩
 ·have hS1 := hide (fun (w : World) (hrc : Rd w C 0 ctx) (hra : Rd w Aa 0 sa) => sSort_any ih ctx C cc ka na sa Aa ca _ w h1 hva hvc (by omega) hrc hra)
  have qb := cdB_q b
  clear hs h1 hva hvb hvc ih
  go_enter Try.func71, Try.ntmps71
  go_wp2_with (go_at_call 62; refine (hS1.out _ ((hrc.alloc _).alloc _) ((ra.alloc _).alloc _)).mono ?_; rintro e w1 ⟨l1, rfl, hb1⟩; have hT1 : Blk w1 w.heap.size #[.int .i64 k, .int .i64 n, .slice (some ⟨bk, ok, none⟩) 2 c] := ((Blk.new_ w 25 #[.int .i64 k, .int .i64 n, .slice (some ⟨bk, ok, none⟩) 2 c] rfl).alloc _).keep hb1; have hZ1 : Blk w1 (w.heap.size + 1) #[.int .i64 0, .int .i64 0, .slice none 0 0] := (Blk.new_ _ 25 #[.int .i64 0, .int .i64 0, .slice none 0 0] (by simp)).keep hb1; have g1 : Below w.heap.size w w1 := (((Below.refl _ _).alloc (by simp <;> omega) _).alloc (by simp <;> omega) _).trans (hb1.mono (by simp <;> omega)); obtain ⟨d0, d1, d2⟩ := hZ1.three; have e0 := hZ1.frozen 0; have e1 := hZ1.frozen 1; have e2 := hZ1.frozen 2; have lz := hZ1.lt)
  refine bodyPost_ret (v := .tuple #[.agg #[.int .i64 0, .int .i64 0, .slice none 0 0], .int .i64 (cdB b)]) (by simp [results, Try.results71, go_sem, d0, d1, d2]) rfl ⟨0, 0, none, 0, 0, rfl, ?_⟩
  exact ((g1.setCell (by simp <;> omega) _).setCell (by simp <;> omega) _).setCell (by simp <;> omega) _
 ·have hS1 := hide (fun (w : World) (hrc : Rd w C 0 ctx) (hra : Rd w Aa 0 sa) => sSort_any ih ctx C cc ka na sa Aa ca _ w h1 hva hvc (by omega) hrc hra)
  rcases bd_inv hs with ⟨b, h2, rfl⟩ | ⟨lj, h2, hs⟩
  ·obtain ⟨cx, hcx⟩ : ∃ cx, ctx ++ [.mk ka na sa] = cx := ⟨_, rfl⟩; have hP := hide (show ∀ (w : World) (hrc : Rd w C 0 ctx) (hra : Rd w Aa 0 sa), Calls Try.prog 54 #[.slice C ctx.length cc, .agg #[.int .i64 ka, .int .i64 na, .slice Aa sa.length ca]] w (GotC5 w cx) from fun w hrc hra => by rw [← hcx]; exact sPush_any ctx C cc ka na sa Aa ca w (by omega) hla hrc hra); have hcl : cx.length ≤ 21 := (by rw [← hcx]; simp; omega); have hcv : ∀ u, u ∈ cx → validT u = true := (by rw [← hcx]; exact fun u hu => (List.mem_append.1 hu).elim (hvc u) (fun h => by rw [List.mem_singleton.1 h]; exact hva)); rw [hcx] at h2; clear hcx
   have hS2 := hide (fun (D : Option Addr) (d : Nat) (w : World) (hrD : Rd w D 0 cx) (hrb : Rd w Ab 0 sb) => sSort_any ih cx D d kb nb sb Ab cb _ w h2 hvb hcv hcl hrD hrb)
   have qb := cdB_q b
   clear hs h1 h2 hva hvb hvc ih hcv
   go_enter Try.func71, Try.ntmps71
   go_upto_region 4 with (go_at_call 62; refine (hS1.out _ ((hrc.alloc _).alloc _) ((ra.alloc _).alloc _)).mono ?_; rintro e w1 ⟨rfl, hb1⟩; have hT1 : Blk w1 w.heap.size #[.int .i64 k, .int .i64 n, .slice (some ⟨bk, ok, none⟩) 2 c] := ((Blk.new_ w 25 #[.int .i64 k, .int .i64 n, .slice (some ⟨bk, ok, none⟩) 2 c] rfl).alloc _).keep hb1; have hZ1 : Blk w1 (w.heap.size + 1) #[.int .i64 0, .int .i64 0, .slice none 0 0] := (Blk.new_ _ 25 #[.int .i64 0, .int .i64 0, .slice none 0 0] (by simp)).keep hb1; have g1 : Below w.heap.size w w1 := (((Below.refl _ _).alloc (by simp <;> omega) _).alloc (by simp <;> omega) _).trans (hb1.mono (by simp <;> omega)))
   refine name_world ?_
   intro wx hwx
   have hTx : Blk wx w.heap.size #[.int .i64 k, .int .i64 n, .slice (some ⟨bk, ok, none⟩) 2 c] := by rw [hwx]; exact hT1
   have hZx : Blk wx (w.heap.size + 1) #[.int .i64 0, .int .i64 0, .slice none 0 0] := by rw [hwx]; exact hZ1
   have gx : Below w.heap.size w wx := by rw [hwx]; exact g1
   clear hwx
   have v2 := rule_of hTx.three.2.2
   have ua1 := rule_of (Keeps.of_below gx _ _ a1)
   have ua2 := rule_of (Keeps.of_below gx _ _ a2)
   have ua3 := rule_of (Keeps.of_below gx _ _ a3)
   have ub1 := rule_of (Keeps.of_below gx _ _ b1)
   have ub2 := rule_of (Keeps.of_below gx _ _ b2)
   have ub3 := rule_of (Keeps.of_below gx _ _ b3)
   obtain ⟨q0, hq0⟩ : ∃ q0, q0 = wx.drew := ⟨_, rfl⟩
   have bq0 : Below wx.heap.size wx q0 := by rw [hq0]; exact (Below.refl _ _).drew
   refine gC_start (fun w' => Below wx.heap.size wx w') [11, 12, 13, 14, 15] 16 (by kernel_rfl) rfl ?_
   refine gC_take [0, 1, 2, 3, 4, 6, 7, 8, 9] (f := 7) (l' := #[true, true, true, true, true, false, true, true, true, true, false, false, false, false, false, false]) (lT := [_, _, _, _, _, _, _, _, _]) (by rw [← hq0]; exact bq0) rfl (by kernel_rfl) (by kernel_rfl) (by kernel_rfl) rfl (fun _ _ d _ _ h => by cases d <;> exact h) ?_
   repeat ((first | ((refine takeY_skip (a' := ?_) ?_ ?_ ?_); (rotate_left); (· (simp [Region.wanted, yielded, Go.undef]; done))) | ((refine takeY_step (v := ?_) (a' := ?_) ?_ ?_ ?_ ?_); (rotate_left 2); (· (simp [Region.wanted, yielded, Go.undef]; done)); (· (intro w' hS'; go_simp; try (with_reducible rfl))))); (· (simp only [List.getElem_toArray, List.getElem_cons_zero, List.getElem_cons_succ, Act.put, List.setIfInBounds_toArray, List.set_cons_zero, List.set_cons_succ]; exact rfl)))
   refine takeY_nil ?_
   rw [← hq0]
   clear hq0
   refine gC_one (i := 5) (by kernel_rfl) rfl ?_
   ·go_wp2_with (go_at_call 54; refine (hP.out _ ((hrc.below gx).below bq0) ((ra.below gx).below bq0)).mono ?_; rintro e q1 ⟨D, d, rfl, rDq1, hbq1⟩)
    have bq1 : Below wx.heap.size wx q1 := bq0.trans (hbq1.mono bq0.size)
    have lq1 := hbq1.size
    refine mid_intro bq1 ?_
    refine gC_one (i := 10) (by kernel_rfl) rfl ?_
    ·go_wp2_with (go_at_call 62; refine (hS2.out _ _ _ rDq1 ((rb.below gx).below bq1)).mono ?_; rintro e q2 ⟨l2, rfl, hbq2⟩)
     have rDq2 := rDq1.below hbq2
     have bq2 : Below wx.heap.size wx q2 := bq1.trans (hbq2.mono bq1.size)
     have lq2 := hbq2.size
     refine mid_intro bq2 ?_
     refine gC_takeT [11, 12, 13] (f := 2) (l' := #[true, true, true, true, true, true, true, true, true, true, true, true, true, true, false, false]) (lT := [_, _, _]) rfl (by kernel_rfl) (by kernel_rfl) (by kernel_rfl) rfl (fun _ _ d _ _ h => by cases d <;> exact h) ?_
     repeat ((first | ((refine takeY_skip (a' := ?_) ?_ ?_ ?_); (rotate_left); (· (simp [Region.wanted, yielded, Go.undef]; done))) | ((refine takeY_step (v := ?_) (a' := ?_) ?_ ?_ ?_ ?_); (rotate_left 2); (· (simp [Region.wanted, yielded, Go.undef]; done)); (· (intro w' hS'; go_simp; try (with_reducible rfl))))); (· (simp only [List.getElem_toArray, List.getElem_cons_zero, List.getElem_cons_succ, Act.put, List.setIfInBounds_toArray, List.set_cons_zero, List.set_cons_succ]; exact rfl)))
     refine takeY_nil ?_
     refine gC_end [14, 15] (lB := [_, _]) (by simp) (by kernel_rfl) (by kernel_rfl) rfl ?_
     simp only [List.getElem_toArray, List.getElem_cons_zero, List.getElem_cons_succ, Act.put, List.setIfInBounds_toArray, List.set_cons_zero, List.set_cons_succ]
     have hZ3 := hZx.keep bq2
     obtain ⟨d0, d1, d2⟩ := hZ3.three
     have e0 := hZ3.frozen 0
     have e1 := hZ3.frozen 1
     have e2 := hZ3.frozen 2
     have lz := hZ3.lt
     have g3 := gx.trans (bq2.mono gx.size)
     go_wp2_with fail
     refine bodyPost_ret (v := .tuple #[.agg #[.int .i64 0, .int .i64 0, .slice none 0 0], .int .i64 (cdB b)]) (by simp [results, Try.results71, go_sem, d0, d1, d2]) rfl ⟨0, 0, none, 0, 0, rfl, ?_⟩
     exact ((g3.setCell (by simp <;> omega) _).setCell (by simp <;> omega) _).setCell (by simp <;> omega) _
  ·obtain ⟨cx, hcx⟩ : ∃ cx, ctx ++ [.mk ka na sa] = cx := ⟨_, rfl⟩; have hP := hide (show ∀ (w : World) (hrc : Rd w C 0 ctx) (hra : Rd w Aa 0 sa), Calls Try.prog 54 #[.slice C ctx.length cc, .agg #[.int .i64 ka, .int .i64 na, .slice Aa sa.length ca]] w (GotC5 w cx) from fun w hrc hra => by rw [← hcx]; exact sPush_any ctx C cc ka na sa Aa ca w (by omega) hla hrc hra); have hcl : cx.length ≤ 21 := (by rw [← hcx]; simp; omega); have hcv : ∀ u, u ∈ cx → validT u = true := (by rw [← hcx]; exact fun u hu => (List.mem_append.1 hu).elim (hvc u) (fun h => by rw [List.mem_singleton.1 h]; exact hva)); rw [hcx] at h2; clear hcx
   have hS2 := hide (fun (D : Option Addr) (d : Nat) (w : World) (hrD : Rd w D 0 cx) (hrb : Rd w Ab 0 sb) => sSort_any ih cx D d kb nb sb Ab cb _ w h2 hvb hcv hcl hrD hrb)
   injection hs with hs
   subst hs
   obtain ⟨lm, hlm⟩ : ∃ lm, (if lj < li then li else lj) = lm := ⟨_, rfl⟩
   rw [hlm]
   have hij := hide hlm
   clear h1 h2 hva hvb hvc ih hlm hcv
   go_enter Try.func71, Try.ntmps71
   go_upto_region 4 with (go_at_call 62; refine (hS1.out _ ((hrc.alloc _).alloc _) ((ra.alloc _).alloc _)).mono ?_; rintro e w1 ⟨rfl, hb1⟩; have hT1 : Blk w1 w.heap.size #[.int .i64 k, .int .i64 n, .slice (some ⟨bk, ok, none⟩) 2 c] := ((Blk.new_ w 25 #[.int .i64 k, .int .i64 n, .slice (some ⟨bk, ok, none⟩) 2 c] rfl).alloc _).keep hb1; have hZ1 : Blk w1 (w.heap.size + 1) #[.int .i64 0, .int .i64 0, .slice none 0 0] := (Blk.new_ _ 25 #[.int .i64 0, .int .i64 0, .slice none 0 0] (by simp)).keep hb1; have g1 : Below w.heap.size w w1 := (((Below.refl _ _).alloc (by simp <;> omega) _).alloc (by simp <;> omega) _).trans (hb1.mono (by simp <;> omega)))
   refine name_world ?_
   intro wx hwx
   have hTx : Blk wx w.heap.size #[.int .i64 k, .int .i64 n, .slice (some ⟨bk, ok, none⟩) 2 c] := by rw [hwx]; exact hT1
   have hZx : Blk wx (w.heap.size + 1) #[.int .i64 0, .int .i64 0, .slice none 0 0] := by rw [hwx]; exact hZ1
   have gx : Below w.heap.size w wx := by rw [hwx]; exact g1
   clear hwx
   have v2 := rule_of hTx.three.2.2
   have ua1 := rule_of (Keeps.of_below gx _ _ a1)
   have ua2 := rule_of (Keeps.of_below gx _ _ a2)
   have ua3 := rule_of (Keeps.of_below gx _ _ a3)
   have ub1 := rule_of (Keeps.of_below gx _ _ b1)
   have ub2 := rule_of (Keeps.of_below gx _ _ b2)
   have ub3 := rule_of (Keeps.of_below gx _ _ b3)
   obtain ⟨q0, hq0⟩ : ∃ q0, q0 = wx.drew := ⟨_, rfl⟩
   have bq0 : Below wx.heap.size wx q0 := by rw [hq0]; exact (Below.refl _ _).drew
   refine gC_start (fun w' => Below wx.heap.size wx w') [11, 12, 13, 14, 15] 16 (by kernel_rfl) rfl ?_
   refine gC_take [0, 1, 2, 3, 4, 6, 7, 8, 9] (f := 7) (l' := #[true, true, true, true, true, false, true, true, true, true, false, false, false, false, false, false]) (lT := [_, _, _, _, _, _, _, _, _]) (by rw [← hq0]; exact bq0) rfl (by kernel_rfl) (by kernel_rfl) (by kernel_rfl) rfl (fun _ _ d _ _ h => by cases d <;> exact h) ?_
   repeat ((first | ((refine takeY_skip (a' := ?_) ?_ ?_ ?_); (rotate_left); (· (simp [Region.wanted, yielded, Go.undef]; done))) | ((refine takeY_step (v := ?_) (a' := ?_) ?_ ?_ ?_ ?_); (rotate_left 2); (· (simp [Region.wanted, yielded, Go.undef]; done)); (· (intro w' hS'; go_simp; try (with_reducible rfl))))); (· (simp only [List.getElem_toArray, List.getElem_cons_zero, List.getElem_cons_succ, Act.put, List.setIfInBounds_toArray, List.set_cons_zero, List.set_cons_succ]; exact rfl)))
   refine takeY_nil ?_
   rw [← hq0]
   clear hq0
   refine gC_one (i := 5) (by kernel_rfl) rfl ?_
   ·go_wp2_with (go_at_call 54; refine (hP.out _ ((hrc.below gx).below bq0) ((ra.below gx).below bq0)).mono ?_; rintro e q1 ⟨D, d, rfl, rDq1, hbq1⟩)
    have bq1 : Below wx.heap.size wx q1 := bq0.trans (hbq1.mono bq0.size)
    have lq1 := hbq1.size
    refine mid_intro bq1 ?_
    refine gC_one (i := 10) (by kernel_rfl) rfl ?_
    ·go_wp2_with (go_at_call 62; refine (hS2.out _ _ _ rDq1 ((rb.below gx).below bq1)).mono ?_; rintro e q2 ⟨rfl, hbq2⟩)
     have rDq2 := rDq1.below hbq2
     have bq2 : Below wx.heap.size wx q2 := bq1.trans (hbq2.mono bq1.size)
     have lq2 := hbq2.size
     refine mid_intro bq2 ?_
     refine gC_takeT [11, 12, 13] (f := 2) (l' := #[true, true, true, true, true, true, true, true, true, true, true, true, true, true, false, false]) (lT := [_, _, _]) rfl (by kernel_rfl) (by kernel_rfl) (by kernel_rfl) rfl (fun _ _ d _ _ h => by cases d <;> exact h) ?_
     repeat ((first | ((refine takeY_skip (a' := ?_) ?_ ?_ ?_); (rotate_left); (· (simp [Region.wanted, yielded, Go.undef]; done))) | ((refine takeY_step (v := ?_) (a' := ?_) ?_ ?_ ?_ ?_); (rotate_left 2); (· (simp [Region.wanted, yielded, Go.undef]; done)); (· (intro w' hS'; go_simp; try (with_reducible rfl))))); (· (simp only [List.getElem_toArray, List.getElem_cons_zero, List.getElem_cons_succ, Act.put, List.setIfInBounds_toArray, List.set_cons_zero, List.set_cons_succ]; exact rfl)))
     refine takeY_nil ?_
     refine gC_end [14, 15] (lB := [_, _]) (by simp) (by kernel_rfl) (by kernel_rfl) rfl ?_
     simp only [List.getElem_toArray, List.getElem_cons_zero, List.getElem_cons_succ, Act.put, List.setIfInBounds_toArray, List.set_cons_zero, List.set_cons_succ]
     have hZ3 := hZx.keep bq2
     obtain ⟨d0, d1, d2⟩ := hZ3.three
     have e0 := hZ3.frozen 0
     have e1 := hZ3.frozen 1
     have e2 := hZ3.frozen 2
     have lz := hZ3.lt
     have g3 := gx.trans (bq2.mono gx.size)
     go_wp2_with (first
      | (go_at_call 28; have _t := tok; refine (sLeaf_any _ _ _).mono ?_; rintro e w5 ⟨rfl, hb5⟩; have hZ5 := hZ4.keep hb5; clear d0 d1 d2 e0 e1 e2 lz; obtain ⟨d0, d1, d2⟩ := hZ5.three; have e0 := hZ5.frozen 0; have e1 := hZ5.frozen 1; have e2 := hZ5.frozen 2; have lz := hZ5.lt; have g5 := g4.trans (hb5.mono g4.size))
      | (go_at_call 84; refine (sLarger_any _ _ _).mono ?_; rw [hij.out]; rintro e w4 ⟨rfl, hb4⟩; have hZ4 := hZ3.keep hb4; have g4 := g3.trans (hb4.mono g3.size); have tok := trivial))
     refine bodyPost_ret (v := .tuple #[.agg #[.int .i64 2, .int .i64 lm, .slice none 0 0], .int .i64 0]) (by simp [results, Try.results71, go_sem, d0, d1, d2]) rfl ⟨none, 0, rfl, by simp, Rd.nil, ?_⟩
     exact ((g5.setCell (by simp <;> omega) _).setCell (by simp <;> omega) _).setCell (by simp <;> omega) _
end Go.Proofs.Ytddkehjdjfmhmaa
