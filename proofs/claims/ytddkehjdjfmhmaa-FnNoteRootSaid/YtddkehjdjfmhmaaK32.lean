/-
 Contracts of the functions that the law reaches, and plain lemmas. No condition.
-/
import Derived.Test.YtddkehjdjfmhmaaK3
import Derived.Test.YtddkehjdjfmhmaaK31
namespace Go.Proofs.Ytddkehjdjfmhmaa
set_option linter.unusedSimpArgs false
set_option linter.unusedVariables false
open Go.RowKit
set_option maxRecDepth 100000 in
set_option maxHeartbeats 8000000 in
theorem infC_step {N : Nat} (ih : InfC N) : InfC (N + 1) := by
 intro ctx k n ks r hs hv hvc hm C cc A c w hrc hr
 have hM := validT_size' hv
 have hv' := hide hv
 rw [infR] at hs
 by_cases hl : ctx.length ≤ 20
 ·rw [if_pos ⟨hv, hl⟩] at hs
  have ql : decide ((20 : Int) < (ctx.length : Int)) = false := decide_eq_false (by omega)
  have ql2 : decide (20 < ctx.length) = false := decide_eq_false (by omega)
  rcases bd_inv hs with ⟨b, h1, rfl⟩ | ⟨⟨k3, n3, s3⟩, h1, hs⟩
  ·have hK := hide (fun (w : World) (hrc : Rd w C 0 ctx) (hr : Rd w A 0 ks) => sKind_any ih ctx C cc k n ks A c _ w hv h1 hvc hl hrc hr)
   have qb := cdB_q b
   clear hs h1 hv hvc ih
   go_enter Try.func51, Try.ntmps51
   go_wp2_with (first
    | (go_at_call 63; have _t := tok; refine (hK.out _ (hrc.below g1) (hr.below g1)).mono ?_; rintro e w2 ⟨k3, n3, A3, l3, c3, rfl, hb2⟩; have hZ2 := (hZ1.keep hb2).alloc (.cells #[.int .i64 k3, .int .i64 n3, .slice A3 l3 c3] 25); have g2 := (g1.trans (hb2.mono g1.size)).alloc (by have := g1.size; have := hb2.size; omega) (.cells #[.int .i64 k3, .int .i64 n3, .slice A3 l3 c3] 25); clear d0 d1 d2 e0 e1 e2 lz; obtain ⟨d0, d1, d2⟩ := hZ2.three; have e0 := hZ2.frozen 0; have e1 := hZ2.frozen 1; have e2 := hZ2.frozen 2; have lz := hZ2.lt; clear tok; have tok2 := trivial)
    | (go_at_call 30; refine (sTermValid_any k n ks A c _ (by omega) ((hr.alloc _).alloc _)).mono ?_; rw [hv'.out]; rintro e w1 ⟨rfl, hb1⟩; have hT1 : Blk w1 w.heap.size #[.int .i64 k, .int .i64 n, .slice A ks.length c] := ((Blk.new_ w 25 #[.int .i64 k, .int .i64 n, .slice A ks.length c] rfl).alloc _).keep hb1; have hZ1 : Blk w1 (w.heap.size + 1) #[.int .i64 0, .int .i64 0, .slice none 0 0] := (Blk.new_ _ 25 #[.int .i64 0, .int .i64 0, .slice none 0 0] (by simp)).keep hb1; have g1 : Below w.heap.size w w1 := (((Below.refl _ _).alloc (by simp <;> omega) _).alloc (by simp <;> omega) _).trans (hb1.mono (by simp <;> omega)); obtain ⟨x0, x1, x2⟩ := hT1.three; obtain ⟨d0, d1, d2⟩ := hZ1.three; have e0 := hZ1.frozen 0; have e1 := hZ1.frozen 1; have e2 := hZ1.frozen 2; have lz := hZ1.lt; have tok := trivial))
   refine bodyPost_ret (v := .tuple #[.agg #[.int .i64 0, .int .i64 0, .slice none 0 0], .int .i64 (cdB b)]) (by simp [results, Try.results51, go_sem, d0, d1, d2]) rfl ⟨rfl, ?_⟩
   exact ((g2.setCell (by simp <;> omega) _).setCell (by simp <;> omega) _).setCell (by simp <;> omega) _
  ·have hK := hide (fun (w : World) (hrc : Rd w C 0 ctx) (hr : Rd w A 0 ks) => sKind_any ih ctx C cc k n ks A c _ w hv h1 hvc hl hrc hr)
   have hnz := kndR_nz hv hvc h1
   have hz3 : sizes s3 ≤ 1000000 := by have := hnz.2; rw [Tm.size] at this; omega
   unfold vldR at hs
   cases hvv : validT (.mk k3 n3 s3) with
   | false =>
    rw [if_neg (by rw [hvv]; decide)] at hs
    injection hs with hs
    subst hs
    have hvo := hide hvv
    clear h1 hv hvc ih hvv hnz
    go_enter Try.func51, Try.ntmps51
    go_wp2_with (first
     | (go_at_call 30; have _t := tok2; refine (sTermValid_any k3 n3 s3 A3 c3 _ (by omega) r4).mono ?_; rw [hvo.out]; rintro e w3 ⟨rfl, hb3⟩; have hZ3 := hZ2.keep hb3; have hG3 := hG2.keep hb3; have g3 := g2.trans (hb3.mono g2.size); have r5 := r4.below hb3; clear y0 y1 y2 d0 d1 d2 e0 e1 e2 lz; obtain ⟨y0, y1, y2⟩ := hG3.three; obtain ⟨d0, d1, d2⟩ := hZ3.three; have e0 := hZ3.frozen 0; have e1 := hZ3.frozen 1; have e2 := hZ3.frozen 2; have lz := hZ3.lt)
     | (go_at_call 63; have _t := tok; refine (hK.out _ (hrc.below g1) (hr.below g1)).mono ?_; rintro e w2 ⟨A3, c3, rfl, hl3, r3, hb2⟩; have hZ2 := (hZ1.keep hb2).alloc (.cells #[.int .i64 k3, .int .i64 n3, .slice A3 s3.length c3] 25); have g2 := (g1.trans (hb2.mono g1.size)).alloc (by have := g1.size; have := hb2.size; omega) (.cells #[.int .i64 k3, .int .i64 n3, .slice A3 s3.length c3] 25); have r4 := r3.alloc (.cells #[.int .i64 k3, .int .i64 n3, .slice A3 s3.length c3] 25); have hG2 := Blk.new_ w2 25 #[.int .i64 k3, .int .i64 n3, .slice A3 s3.length c3] rfl; obtain ⟨y0, y1, y2⟩ := hG2.three; clear d0 d1 d2 e0 e1 e2 lz; obtain ⟨d0, d1, d2⟩ := hZ2.three; have e0 := hZ2.frozen 0; have e1 := hZ2.frozen 1; have e2 := hZ2.frozen 2; have lz := hZ2.lt; clear tok; have tok2 := trivial)
     | (go_at_call 30; refine (sTermValid_any k n ks A c _ (by omega) ((hr.alloc _).alloc _)).mono ?_; rw [hv'.out]; rintro e w1 ⟨rfl, hb1⟩; have hT1 : Blk w1 w.heap.size #[.int .i64 k, .int .i64 n, .slice A ks.length c] := ((Blk.new_ w 25 #[.int .i64 k, .int .i64 n, .slice A ks.length c] rfl).alloc _).keep hb1; have hZ1 : Blk w1 (w.heap.size + 1) #[.int .i64 0, .int .i64 0, .slice none 0 0] := (Blk.new_ _ 25 #[.int .i64 0, .int .i64 0, .slice none 0 0] (by simp)).keep hb1; have g1 : Below w.heap.size w w1 := (((Below.refl _ _).alloc (by simp <;> omega) _).alloc (by simp <;> omega) _).trans (hb1.mono (by simp <;> omega)); obtain ⟨x0, x1, x2⟩ := hT1.three; obtain ⟨d0, d1, d2⟩ := hZ1.three; have e0 := hZ1.frozen 0; have e1 := hZ1.frozen 1; have e2 := hZ1.frozen 2; have lz := hZ1.lt; have tok := trivial))
    refine bodyPost_ret (v := .tuple #[.agg #[.int .i64 0, .int .i64 0, .slice none 0 0], .int .i64 2]) (by simp [results, Try.results51, go_sem, d0, d1, d2]) rfl ⟨rfl, ?_⟩
    exact ((g3.setCell (by simp <;> omega) _).setCell (by simp <;> omega) _).setCell (by simp <;> omega) _
   | true =>
    rw [if_pos hvv] at hs
    injection hs with hs
    subst hs
    have hvo := hide hvv
    clear h1 hv hvc ih hvv hnz
    go_enter Try.func51, Try.ntmps51
    go_wp2_with (first
     | (go_at_call 30; have _t := tok2; refine (sTermValid_any k3 n3 s3 A3 c3 _ (by omega) r4).mono ?_; rw [hvo.out]; rintro e w3 ⟨rfl, hb3⟩; have hZ3 := hZ2.keep hb3; have hG3 := hG2.keep hb3; have g3 := g2.trans (hb3.mono g2.size); have r5 := r4.below hb3; clear y0 y1 y2 d0 d1 d2 e0 e1 e2 lz; obtain ⟨y0, y1, y2⟩ := hG3.three; obtain ⟨d0, d1, d2⟩ := hZ3.three; have e0 := hZ3.frozen 0; have e1 := hZ3.frozen 1; have e2 := hZ3.frozen 2; have lz := hZ3.lt)
     | (go_at_call 63; have _t := tok; refine (hK.out _ (hrc.below g1) (hr.below g1)).mono ?_; rintro e w2 ⟨A3, c3, rfl, hl3, r3, hb2⟩; have hZ2 := (hZ1.keep hb2).alloc (.cells #[.int .i64 k3, .int .i64 n3, .slice A3 s3.length c3] 25); have g2 := (g1.trans (hb2.mono g1.size)).alloc (by have := g1.size; have := hb2.size; omega) (.cells #[.int .i64 k3, .int .i64 n3, .slice A3 s3.length c3] 25); have r4 := r3.alloc (.cells #[.int .i64 k3, .int .i64 n3, .slice A3 s3.length c3] 25); have hG2 := Blk.new_ w2 25 #[.int .i64 k3, .int .i64 n3, .slice A3 s3.length c3] rfl; obtain ⟨y0, y1, y2⟩ := hG2.three; clear d0 d1 d2 e0 e1 e2 lz; obtain ⟨d0, d1, d2⟩ := hZ2.three; have e0 := hZ2.frozen 0; have e1 := hZ2.frozen 1; have e2 := hZ2.frozen 2; have lz := hZ2.lt; clear tok; have tok2 := trivial)
     | (go_at_call 30; refine (sTermValid_any k n ks A c _ (by omega) ((hr.alloc _).alloc _)).mono ?_; rw [hv'.out]; rintro e w1 ⟨rfl, hb1⟩; have hT1 : Blk w1 w.heap.size #[.int .i64 k, .int .i64 n, .slice A ks.length c] := ((Blk.new_ w 25 #[.int .i64 k, .int .i64 n, .slice A ks.length c] rfl).alloc _).keep hb1; have hZ1 : Blk w1 (w.heap.size + 1) #[.int .i64 0, .int .i64 0, .slice none 0 0] := (Blk.new_ _ 25 #[.int .i64 0, .int .i64 0, .slice none 0 0] (by simp)).keep hb1; have g1 : Below w.heap.size w w1 := (((Below.refl _ _).alloc (by simp <;> omega) _).alloc (by simp <;> omega) _).trans (hb1.mono (by simp <;> omega)); obtain ⟨x0, x1, x2⟩ := hT1.three; obtain ⟨d0, d1, d2⟩ := hZ1.three; have e0 := hZ1.frozen 0; have e1 := hZ1.frozen 1; have e2 := hZ1.frozen 2; have lz := hZ1.lt; have tok := trivial))
    refine bodyPost_ret (v := .tuple #[.agg #[.int .i64 k3, .int .i64 n3, .slice A3 s3.length c3], .int .i64 0]) (by simp [results, Try.results51, go_sem, d0, d1, d2]) rfl ⟨A3, c3, rfl, hl3, rd_set0 hZ3 hvo.out r5 _ _ _, ?_⟩
    exact ((g3.setCell (by simp <;> omega) _).setCell (by simp <;> omega) _).setCell (by simp <;> omega) _
 ·rw [if_neg (fun h => hl h.2)] at hs
  injection hs with hs
  subst hs
  have ql : decide ((20 : Int) < (ctx.length : Int)) = true := decide_eq_true (by omega)
  have ql2 : decide (20 < ctx.length) = true := decide_eq_true (by omega)
  clear hv hvc ih
  go_enter Try.func51, Try.ntmps51
  go_wp2_with (go_at_call 30; refine (sTermValid_any k n ks A c _ (by omega) ((hr.alloc _).alloc _)).mono ?_; rw [hv'.out]; rintro e w1 ⟨rfl, hb1⟩; have hT1 : Blk w1 w.heap.size #[.int .i64 k, .int .i64 n, .slice A ks.length c] := ((Blk.new_ w 25 #[.int .i64 k, .int .i64 n, .slice A ks.length c] rfl).alloc _).keep hb1; have hZ1 : Blk w1 (w.heap.size + 1) #[.int .i64 0, .int .i64 0, .slice none 0 0] := (Blk.new_ _ 25 #[.int .i64 0, .int .i64 0, .slice none 0 0] (by simp)).keep hb1; have g1 : Below w.heap.size w w1 := (((Below.refl _ _).alloc (by simp <;> omega) _).alloc (by simp <;> omega) _).trans (hb1.mono (by simp <;> omega)); obtain ⟨x0, x1, x2⟩ := hT1.three; obtain ⟨d0, d1, d2⟩ := hZ1.three; have e0 := hZ1.frozen 0; have e1 := hZ1.frozen 1; have e2 := hZ1.frozen 2; have lz := hZ1.lt; have tok := trivial)
  refine bodyPost_ret (v := .tuple #[.agg #[.int .i64 0, .int .i64 0, .slice none 0 0], .int .i64 2]) (by simp [results, Try.results51, go_sem, d0, d1, d2]) rfl ⟨rfl, ?_⟩
  exact ((g1.setCell (by simp <;> omega) _).setCell (by simp <;> omega) _).setCell (by simp <;> omega) _
theorem infC_any : ∀ N, InfC N
 | 0 => fun _ _ _ _ _ h => by cases h
 | N + 1 => infC_step (infC_any N)
open Go.RowKit
def fitR (ctx : List Tm) : Bool := ctx.all (fun t => validT t) && decide (ctx.length ≤ 8)
def ccG (N : Nat) (ctx : List Tm) : Nat → Option Int
 | 0 => some 0
 | m + 1 => match srtR (infR N) (ctx.take (ctx.length - (m + 1))) (ctx.getD (ctx.length - (m + 1)) default) with
  | none => none
  | some (.no b) => some (cdB b)
  | some (.ok _) => ccG N ctx m
def ccR (N : Nat) (ctx : List Tm) : Option Int := if fitR ctx = true then ccG N ctx ctx.length else some 3
def itR (N : Nat) (ctx : List Tm) (t : Tm) : Option (Int × Option Tm) :=
 if fitR ctx = true ∧ validT t = true then
  match ccG N ctx ctx.length with
  | none => none
  | some c => if c = 0 then (match infR N ctx t with | none => none | some (.no b) => some (cdB b, none) | some (.ok s) => some (0, some s)) else some (c, none)
 else some (3, none)
theorem fitR_inv {ctx : List Tm} (h : fitR ctx = true) : (∀ u, u ∈ ctx → validT u = true) ∧ ctx.length ≤ 8 := by
 simp only [fitR, Bool.and_eq_true, List.all_eq_true, decide_eq_true_eq] at h
 exact h
theorem Rd.take {w : World} {A : Option Addr} : ∀ {ts : List Tm} {i : Nat} (n : Nat), Rd w A i ts → Rd w A i (ts.take n)
 | [], i, n, h => by simpa using h
 | t :: ts, i, 0, h => Rd.nil
 | t :: ts, i, n + 1, h => by
  rw [List.take_succ_cons]
  exact Rd.cons_iff.2 ⟨(Rd.cons_iff.1 h).1, Rd.take n (Rd.cons_iff.1 h).2⟩
set_option maxRecDepth 100000 in
set_option maxHeartbeats 8000000 in
theorem sFits_any (ctx : List Tm) (C : Option Addr) (cc : Nat) (w : World) (hsz : sizes ctx ≤ 1000000) (hrc : Rd w C 0 ctx) :
  Calls Try.prog 49 #[.slice C ctx.length cc] w fun e w' => e = .returned (.bool (fitR ctx)) ∧ Below w.heap.size w w' := by
 have hlen := length_le_sizes ctx
 obtain ⟨bb, hbb⟩ : ∃ b, fitR ctx = b := ⟨_, rfl⟩
 rw [hbb]
 replace hbb := hide hbb
 go_enter Try.func49, Try.ntmps49
 go_wp2_with fail
 go_loopw [3] (fun jv wr => ∃ j : Nat, j ≤ ctx.length ∧ jv = .int .i64 j ∧ Hid (∀ i (hi : i < ctx.length), i < j → validT ctx[i] = true) ∧ Below w.heap.size w wr) (fun jv _ => ctx.length - (intOf jv).toNat)
 case atStart => exact ⟨0, Nat.zero_le _, rfl, hide (fun i hi h => absurd h (by omega)), Below.refl _ _⟩
 case round =>
  obtain ⟨j, hj, rfl, hval, hb⟩ := hrel
  by_cases hlt : j < ctx.length
  ·obtain ⟨b, off, k', n', ks', A', c', rfl, hkj, hc1, hc2, hc3, hl', hr'⟩ := (hrc.below hb).at_ hlt
   have hsz2 := sizes_le (List.getElem_mem hlt)
   rw [hkj] at hsz2
   simp only [Tm.size] at hsz2
   have H5 := hide hkj
   have hlk : (j : Int) < (ctx.length : Int) := by omega
   cases hvv : validT (.mk k' n' ks') with
   | false =>
    have hv' := hide hvv
    obtain rfl : bb = false := by
     rw [← hbb.out]
     unfold fitR
     rw [Bool.and_eq_false_iff]
     left
     rw [List.all_eq_false]
     exact ⟨ctx[j], List.getElem_mem hlt, by rw [hkj, hvv]; decide⟩
    clear hkj hvv
    go_wp2_with (go_at_call 30; refine (sTermValid_any k' n' ks' A' c' _ (by omega) hr').mono ?_; rw [hv'.out]; rintro e w2 ⟨rfl, hb2⟩)
    go_ret
    exact ⟨rfl, hb.trans (hb2.mono hb.size)⟩
   | true =>
    have hv' := hide hvv
    clear hkj hvv
    go_wp2_with (go_at_call 30; refine (sTermValid_any k' n' ks' A' c' _ (by omega) hr').mono ?_; rw [hv'.out]; rintro e w2 ⟨rfl, hb2⟩)
    refine ⟨⟨j + 1, by omega, by go_num, hide (fun i hi hij => ?_), hb.trans (hb2.mono hb.size)⟩, by simp [intOf]; omega⟩
    by_cases hij2 : i = j
    ·subst hij2; rw [H5.out]; exact hv'.out
    ·exact hval.out i hi (by omega)
  ·have hje : j = ctx.length := by omega
   subst hje
   have hall : ctx.all (fun t => validT t) = true := by
    rw [List.all_eq_true]
    intro u hu
    obtain ⟨i, hi, rfl⟩ := List.mem_iff_getElem.1 hu
    exact hval.out i hi hi
   have hq : decide ((ctx.length : Int) ≤ 8) = bb := by
    rw [← hbb.out]
    unfold fitR
    rw [hall, Bool.true_and]
    rw [decide_eq_decide]
    omega
   have hq2 : decide (ctx.length ≤ 8) = bb := by
    rw [← hbb.out]
    unfold fitR
    rw [hall, Bool.true_and]
   go_wp2_with fail
   go_ret
   exact ⟨rfl, hb⟩
set_option maxRecDepth 100000 in
set_option maxHeartbeats 8000000 in
theorem sCheckCtx_any (N : Nat) (ctx : List Tm) (C : Option Addr) (cc : Nat) (co : Int) (w : World) (hs : ccR N ctx = some co) (hcc : ctx.length ≤ cc) (hsz : sizes ctx ≤ 1000000) (hrc : Rd w C 0 ctx) :
  Calls Try.prog 50 #[.slice C ctx.length cc] w fun e w' => e = .returned (.int .i64 co) ∧ Below w.heap.size w w' := by
 have hlen := length_le_sizes ctx
 have hF := hide (fun (w : World) (hrc : Rd w C 0 ctx) => sFits_any ctx C cc w hsz hrc)
 unfold ccR at hs
 cases hf : fitR ctx with
 | false =>
  rw [hf, if_neg (by decide)] at hs
  injection hs with hs
  subst hs
  rw [hf] at hF
  clear hf
  go_enter Try.func50, Try.ntmps50
  go_wp2_with (go_at_call 49; refine (hF.out _ hrc).mono ?_; rintro e w1 ⟨rfl, hb1⟩)
  go_ret
  exact ⟨rfl, hb1⟩
 | true =>
  rw [hf, if_pos rfl] at hs
  rw [hf] at hF
  have hi := fitR_inv hf
  have hl8 := hi.2
  have hvc := hide hi.1
  replace hs := hide hs
  clear hf hi
  go_enter Try.func50, Try.ntmps50
  go_wp2_with (go_at_call 49; refine (hF.out _ hrc).mono ?_; rintro e w1 ⟨rfl, hb1⟩)
  go_loopw [3] (fun jv wr => ∃ j : Nat, j ≤ ctx.length ∧ jv = .int .i64 j ∧ Hid (ccG N ctx (ctx.length - j) = some co) ∧ Below w.heap.size w wr) (fun jv _ => ctx.length - (intOf jv).toNat)
  case atStart => exact ⟨0, Nat.zero_le _, rfl, hs, hb1⟩
  case round =>
   obtain ⟨j, hj, rfl, hinv, hb⟩ := hrel
   by_cases hlt : j < ctx.length
   ·obtain ⟨b, off, k', n', ks', A', c', rfl, hkj, hc1, hc2, hc3, hl', hr'⟩ := (hrc.below hb).at_ hlt
    have hvk := hvc.out _ (List.getElem_mem hlt)
    rw [hkj] at hvk
    have hlk : (j : Int) < (ctx.length : Int) := by omega
    have hst := hinv.out
    rw [show ctx.length - j = (ctx.length - j - 1) + 1 by omega, ccG, show ctx.length - (ctx.length - j - 1 + 1) = j by omega, show ctx.getD j default = .mk k' n' ks' by rw [← hkj]; simp [List.getD, List.getElem?_eq_getElem hlt]] at hst
    obtain ⟨cx, hcx⟩ : ∃ cx, ctx.take j = cx := ⟨_, rfl⟩
    have hcl : cx.length = j := by rw [← hcx]; simp; omega
    have hcv : ∀ u, u ∈ cx → validT u = true := by rw [← hcx]; exact fun u hu => hvc.out u (List.mem_of_mem_take hu)
    have hrx := fun (w' : World) (h : Rd w' (some ⟨b, off, none⟩) 0 ctx) => show Rd w' (some ⟨b, off, none⟩) 0 cx by rw [← hcx]; exact h.take j
    replace hrx := hide hrx
    rw [hcx] at hst
    clear hcx
    cases hr0 : srtR (infR N) cx (.mk k' n' ks') with
    | none => rw [hr0] at hst; cases hst
    | some rr =>
     have hS := hide (fun (w : World) (hrc : Rd w (some ⟨b, off, none⟩) 0 cx) (hra : Rd w A' 0 ks') => sSort_any (infC_any N) cx (some ⟨b, off, none⟩) cc k' n' ks' A' c' rr w hr0 hvk hcv (by omega) hrc hra)
     rw [hcl] at hS
     rw [hr0] at hst
     have hjc : j ≤ cc := by omega
     have hjc2 : (j : Int) ≤ (cc : Int) := by omega
     cases rr with
     | no b2 =>
      injection hst with hst
      subst hst
      have qb := cdB_q b2
      clear hr0 hvk hcv hkj
      go_upto_region 6 with fail
      have y1 := rule_of hc1
      have y2 := rule_of hc2
      have y3 := rule_of hc3
      clear hc1 hc2 hc3
      have kwwr := hb
      obtain ⟨q0, hq0⟩ : ∃ q0, q0 = wr.drew := ⟨_, rfl⟩
      have bq0 : Below wr.heap.size wr q0 := by rw [hq0]; exact (Below.refl _ _).drew
      refine gC_start (fun w' => Below wr.heap.size wr w') [8, 9, 10, 11, 12] 13 (by kernel_rfl) rfl ?_
      refine gC_take [0, 1, 2, 3, 4, 5, 6] (f := 6) (l' := #[true, true, true, true, true, true, true, false, false, false, false, false, false]) (lT := [_, _, _, _, _, _, _]) (by rw [← hq0]; exact bq0) rfl (by kernel_rfl) (by kernel_rfl) (by kernel_rfl) rfl (fun _ _ d _ _ h => by cases d <;> exact h) ?_
      repeat ((first | ((refine takeY_skip (a' := ?_) ?_ ?_ ?_); (rotate_left); (· (simp [Region.wanted, yielded, Go.undef]; done))) | ((refine takeY_step (v := ?_) (a' := ?_) ?_ ?_ ?_ ?_); (rotate_left 2); (· (simp [Region.wanted, yielded, Go.undef]; done)); (· (intro w' hS'; go_simp; try (with_reducible rfl))))); (· (simp only [List.getElem_toArray, List.getElem_cons_zero, List.getElem_cons_succ, Act.put, List.setIfInBounds_toArray, List.set_cons_zero, List.set_cons_succ]; exact rfl)))
      refine takeY_nil ?_
      rw [← hq0]
      clear hq0
      refine gC_one (i := 7) (by kernel_rfl) rfl ?_
      ·go_wp2_with (go_at_call 62; refine (hS.out _ (hrx.out _ ((hrc.below kwwr).below bq0)) (hr'.below bq0)).mono ?_; rintro e q1 ⟨l3, rfl, hbq1⟩)
       have bq1 : Below wr.heap.size wr q1 := bq0.trans (hbq1.mono bq0.size)
       have lq1 := hbq1.size
       refine mid_intro bq1 ?_
       refine gC_takeT [8, 9, 10] (f := 2) (l' := #[true, true, true, true, true, true, true, true, true, true, true, false, false]) (lT := [_, _, _]) rfl (by kernel_rfl) (by kernel_rfl) (by kernel_rfl) rfl (fun _ _ d _ _ h => by cases d <;> exact h) ?_
       repeat ((first | ((refine takeY_skip (a' := ?_) ?_ ?_ ?_); (rotate_left); (· (simp [Region.wanted, yielded, Go.undef]; done))) | ((refine takeY_step (v := ?_) (a' := ?_) ?_ ?_ ?_ ?_); (rotate_left 2); (· (simp [Region.wanted, yielded, Go.undef]; done)); (· (intro w' hS'; go_simp; try (with_reducible rfl))))); (· (simp only [List.getElem_toArray, List.getElem_cons_zero, List.getElem_cons_succ, Act.put, List.setIfInBounds_toArray, List.set_cons_zero, List.set_cons_succ]; exact rfl)))
       refine takeY_nil ?_
       refine gC_end [11, 12] (lB := [_, _]) (by simp) (by kernel_rfl) (by kernel_rfl) rfl ?_
       simp only [List.getElem_toArray, List.getElem_cons_zero, List.getElem_cons_succ, Act.put, List.setIfInBounds_toArray, List.set_cons_zero, List.set_cons_succ]
       have kwq1 := kwwr.trans (bq1.mono kwwr.size)
       have kwrq1 := bq1
       go_wp2_with fail
       go_ret
       exact ⟨rfl, kwq1⟩
     | ok l2 =>
      have hst' := hide (show ccG N ctx (ctx.length - (j + 1)) = some co from hst)
      clear hr0 hvk hcv hkj hst
      go_upto_region 6 with fail
      have y1 := rule_of hc1
      have y2 := rule_of hc2
      have y3 := rule_of hc3
      clear hc1 hc2 hc3
      have kwwr := hb
      obtain ⟨q0, hq0⟩ : ∃ q0, q0 = wr.drew := ⟨_, rfl⟩
      have bq0 : Below wr.heap.size wr q0 := by rw [hq0]; exact (Below.refl _ _).drew
      refine gC_start (fun w' => Below wr.heap.size wr w') [8, 9, 10, 11, 12] 13 (by kernel_rfl) rfl ?_
      refine gC_take [0, 1, 2, 3, 4, 5, 6] (f := 6) (l' := #[true, true, true, true, true, true, true, false, false, false, false, false, false]) (lT := [_, _, _, _, _, _, _]) (by rw [← hq0]; exact bq0) rfl (by kernel_rfl) (by kernel_rfl) (by kernel_rfl) rfl (fun _ _ d _ _ h => by cases d <;> exact h) ?_
      repeat ((first | ((refine takeY_skip (a' := ?_) ?_ ?_ ?_); (rotate_left); (· (simp [Region.wanted, yielded, Go.undef]; done))) | ((refine takeY_step (v := ?_) (a' := ?_) ?_ ?_ ?_ ?_); (rotate_left 2); (· (simp [Region.wanted, yielded, Go.undef]; done)); (· (intro w' hS'; go_simp; try (with_reducible rfl))))); (· (simp only [List.getElem_toArray, List.getElem_cons_zero, List.getElem_cons_succ, Act.put, List.setIfInBounds_toArray, List.set_cons_zero, List.set_cons_succ]; exact rfl)))
      refine takeY_nil ?_
      rw [← hq0]
      clear hq0
      refine gC_one (i := 7) (by kernel_rfl) rfl ?_
      ·go_wp2_with (go_at_call 62; refine (hS.out _ (hrx.out _ ((hrc.below kwwr).below bq0)) (hr'.below bq0)).mono ?_; rintro e q1 ⟨rfl, hbq1⟩)
       have bq1 : Below wr.heap.size wr q1 := bq0.trans (hbq1.mono bq0.size)
       have lq1 := hbq1.size
       refine mid_intro bq1 ?_
       refine gC_takeT [8, 9, 10] (f := 2) (l' := #[true, true, true, true, true, true, true, true, true, true, true, false, false]) (lT := [_, _, _]) rfl (by kernel_rfl) (by kernel_rfl) (by kernel_rfl) rfl (fun _ _ d _ _ h => by cases d <;> exact h) ?_
       repeat ((first | ((refine takeY_skip (a' := ?_) ?_ ?_ ?_); (rotate_left); (· (simp [Region.wanted, yielded, Go.undef]; done))) | ((refine takeY_step (v := ?_) (a' := ?_) ?_ ?_ ?_ ?_); (rotate_left 2); (· (simp [Region.wanted, yielded, Go.undef]; done)); (· (intro w' hS'; go_simp; try (with_reducible rfl))))); (· (simp only [List.getElem_toArray, List.getElem_cons_zero, List.getElem_cons_succ, Act.put, List.setIfInBounds_toArray, List.set_cons_zero, List.set_cons_succ]; exact rfl)))
       refine takeY_nil ?_
       refine gC_end [11, 12] (lB := [_, _]) (by simp) (by kernel_rfl) (by kernel_rfl) rfl ?_
       simp only [List.getElem_toArray, List.getElem_cons_zero, List.getElem_cons_succ, Act.put, List.setIfInBounds_toArray, List.set_cons_zero, List.set_cons_succ]
       have kwq1 := kwwr.trans (bq1.mono kwwr.size)
       have kwrq1 := bq1
       go_wp2_with fail
       exact ⟨⟨j + 1, by omega, by go_num, hst', kwq1⟩, by simp [intOf]; omega⟩
   ·have hje : j = ctx.length := by omega
    subst hje
    obtain rfl : co = 0 := by have := hinv.out; rw [Nat.sub_self, ccG] at this; injection this with this; exact this.symm
    go_wp2_with fail
    go_ret
    exact ⟨rfl, hb⟩
open Go.RowKit
set_option maxRecDepth 100000 in
set_option maxHeartbeats 8000000 in
theorem sCopyT_any (k n : Int) (ks : List Tm) (A : Option Addr) (c : Nat) (w : World) (hsz : sizes ks ≤ 1000000) (hr : Rd w A 0 ks) :
  Calls Try.prog 52 #[.agg #[.int .i64 k, .int .i64 n, .slice A ks.length c], .int .i64 0] w (GotI w k n ks) := by
 go_enter Try.func52, Try.ntmps52
 go_wp2_with (go_at_call 42; refine (sCopy_any _ k n ks A c _ (Nat.lt_succ_self _) (by omega) ((hr.alloc _).alloc _)).mono ?_; rintro e w1 ⟨A3, c3, rfl, hl3, hf3, hb1⟩; have hZ1 : Blk w1 (w.heap.size + 1) #[.int .i64 0, .int .i64 0, .slice none 0 0] := (Blk.new_ _ 25 #[.int .i64 0, .int .i64 0, .slice none 0 0] (by simp)).keep hb1; have g1 : Below w.heap.size w w1 := (((Below.refl _ _).alloc (by simp <;> omega) _).alloc (by simp <;> omega) _).trans (hb1.mono (by simp <;> omega)); obtain ⟨d0, d1, d2⟩ := hZ1.three; have e0 := hZ1.frozen 0; have e1 := hZ1.frozen 1; have e2 := hZ1.frozen 2; have lz := hZ1.lt)
 refine bodyPost_ret (v := .tuple #[.agg #[.int .i64 k, .int .i64 n, .slice A3 ks.length c3], .int .i64 0]) (by simp [results, Try.results52, go_sem, d0, d1, d2]) rfl ⟨A3, c3, rfl, hl3, ?_, ?_⟩
 ·exact (((hf3.setCell (by simp) _).setCell (by simp) _).setCell (by simp) _).rd
 ·exact ((g1.setCell (by simp <;> omega) _).setCell (by simp <;> omega) _).setCell (by simp <;> omega) _
set_option maxRecDepth 100000 in
set_option maxHeartbeats 8000000 in
theorem sCopyN_any (k n : Int) (A : Option Addr) (l c : Nat) (co : Int) (hc : co ≠ 0) (w : World) :
  Calls Try.prog 52 #[.agg #[.int .i64 k, .int .i64 n, .slice A l c], .int .i64 co] w fun e w' => e = .returned (.tuple #[.agg #[.int .i64 0, .int .i64 0, .slice none 0 0], .int .i64 co]) ∧ Below w.heap.size w w' := by
 have qc : (co != 0) = true := by simpa using hc
 have gB : Below w.heap.size w ((w.alloc (.cells #[.int .i64 k, .int .i64 n, .slice A l c] 25)).alloc (.cells #[.int .i64 0, .int .i64 0, .slice none 0 0] 25)) := (((Below.refl _ _).alloc (by simp <;> omega) _).alloc (by simp <;> omega) _)
 go_enter Try.func52, Try.ntmps52
 go_wp2_with fail
 refine bodyPost_ret (v := .tuple #[.agg #[.int .i64 0, .int .i64 0, .slice none 0 0], .int .i64 co]) (by simp [results, Try.results52, go_sem]) rfl ⟨rfl, ?_⟩
 first
  | exact gB
  | exact ((gB.setCell (by simp <;> omega) _).setCell (by simp <;> omega) _).setCell (by simp <;> omega) _
def GtY (w : World) : Int × Option Tm → Ending → World → Prop
 | (co, some (.mk k n ks)) => GotI w k n ks
 | (co, none) => fun e w' => e = .returned (.tuple #[.agg #[.int .i64 0, .int .i64 0, .slice none 0 0], .int .i64 co]) ∧ Below w.heap.size w w'
set_option maxRecDepth 100000 in
set_option maxHeartbeats 8000000 in
theorem sInferType_any (N : Nat) (ctx : List Tm) (C : Option Addr) (cc : Nat) (k n : Int) (ks : List Tm) (A : Option Addr) (c : Nat) (R : Int × Option Tm) (w : World) (hs : itR N ctx (.mk k n ks) = some R) (hcc : ctx.length ≤ cc) (hszc : sizes ctx ≤ 1000000) (hsz : sizes ks ≤ 1000000) (hrc : Rd w C 0 ctx) (hr : Rd w A 0 ks) :
  Calls Try.prog 33 #[.slice C ctx.length cc, .agg #[.int .i64 k, .int .i64 n, .slice A ks.length c]] w (GtY w R) := by
 have hlen := length_le_sizes ks
 have hF := hide (fun (w : World) (hrc : Rd w C 0 ctx) => sFits_any ctx C cc w hszc hrc)
 unfold itR at hs
 cases hf : fitR ctx with
 | false =>
  rw [if_neg (by rw [hf]; rintro ⟨h, -⟩; cases h)] at hs
  injection hs with hs
  subst hs
  rw [hf] at hF
  clear hf
  go_enter Try.func33, Try.ntmps33
  go_wp2_with (first
   | (go_at_call 49; refine (hF.out _ ((hrc.alloc _).alloc _)).mono ?_; rintro e w1 ⟨rfl, hb1⟩; have hT1 : Blk w1 w.heap.size #[.int .i64 k, .int .i64 n, .slice A ks.length c] := ((Blk.new_ w 25 #[.int .i64 k, .int .i64 n, .slice A ks.length c] rfl).alloc _).keep hb1; have hZ1 : Blk w1 (w.heap.size + 1) #[.int .i64 0, .int .i64 0, .slice none 0 0] := (Blk.new_ _ 25 #[.int .i64 0, .int .i64 0, .slice none 0 0] (by simp)).keep hb1; have g1 : Below w.heap.size w w1 := (((Below.refl _ _).alloc (by simp <;> omega) _).alloc (by simp <;> omega) _).trans (hb1.mono (by simp <;> omega)); obtain ⟨x0, x1, x2⟩ := hT1.three; obtain ⟨d0, d1, d2⟩ := hZ1.three; have e0 := hZ1.frozen 0; have e1 := hZ1.frozen 1; have e2 := hZ1.frozen 2; have lz := hZ1.lt; have tok := trivial))
  refine bodyPost_ret (v := .tuple #[.agg #[.int .i64 0, .int .i64 0, .slice none 0 0], .int .i64 3]) (by simp [results, Try.results33, go_sem, d0, d1, d2]) rfl ⟨rfl, ?_⟩
  exact ((g1.setCell (by simp <;> omega) _).setCell (by simp <;> omega) _).setCell (by simp <;> omega) _
 | true =>
  rw [hf] at hF
  cases hv : validT (.mk k n ks) with
  | false =>
   rw [if_neg (by rw [hv]; rintro ⟨-, h⟩; cases h)] at hs
   injection hs with hs
   subst hs
   have hv' := hide hv
   clear hf hv
   go_enter Try.func33, Try.ntmps33
   go_wp2_with (first
    | (go_at_call 30; have _t := tok; refine (sTermValid_any k n ks A c _ (by omega) (hr.below g1)).mono ?_; rw [hv'.out]; rintro e w2 ⟨rfl, hb2⟩; have hT2 := hT1.keep hb2; have hZ2 := hZ1.keep hb2; have g2 := g1.trans (hb2.mono g1.size); clear x0 x1 x2 d0 d1 d2 e0 e1 e2 lz; obtain ⟨x0, x1, x2⟩ := hT2.three; obtain ⟨d0, d1, d2⟩ := hZ2.three; have e0 := hZ2.frozen 0; have e1 := hZ2.frozen 1; have e2 := hZ2.frozen 2; have lz := hZ2.lt; clear tok; have tok2 := trivial)
    | (go_at_call 49; refine (hF.out _ ((hrc.alloc _).alloc _)).mono ?_; rintro e w1 ⟨rfl, hb1⟩; have hT1 : Blk w1 w.heap.size #[.int .i64 k, .int .i64 n, .slice A ks.length c] := ((Blk.new_ w 25 #[.int .i64 k, .int .i64 n, .slice A ks.length c] rfl).alloc _).keep hb1; have hZ1 : Blk w1 (w.heap.size + 1) #[.int .i64 0, .int .i64 0, .slice none 0 0] := (Blk.new_ _ 25 #[.int .i64 0, .int .i64 0, .slice none 0 0] (by simp)).keep hb1; have g1 : Below w.heap.size w w1 := (((Below.refl _ _).alloc (by simp <;> omega) _).alloc (by simp <;> omega) _).trans (hb1.mono (by simp <;> omega)); obtain ⟨x0, x1, x2⟩ := hT1.three; obtain ⟨d0, d1, d2⟩ := hZ1.three; have e0 := hZ1.frozen 0; have e1 := hZ1.frozen 1; have e2 := hZ1.frozen 2; have lz := hZ1.lt; have tok := trivial))
   refine bodyPost_ret (v := .tuple #[.agg #[.int .i64 0, .int .i64 0, .slice none 0 0], .int .i64 3]) (by simp [results, Try.results33, go_sem, d0, d1, d2]) rfl ⟨rfl, ?_⟩
   exact ((g2.setCell (by simp <;> omega) _).setCell (by simp <;> omega) _).setCell (by simp <;> omega) _
  | true =>
   rw [if_pos ⟨hf, hv⟩] at hs
   have hv' := hide hv
   have hi := fitR_inv hf
   cases hcg : ccG N ctx ctx.length with
   | none => rw [hcg] at hs; cases hs
   | some co =>
    rw [hcg] at hs
    simp only at hs
    have hC := hide (fun (w : World) (hrc : Rd w C 0 ctx) => sCheckCtx_any N ctx C cc co w (by unfold ccR; rw [if_pos hf]; exact hcg) hcc hszc hrc)
    by_cases hc0 : co = 0
    ·rw [if_pos hc0] at hs
     subst hc0
     cases hin : infR N ctx (.mk k n ks) with
     | none => rw [hin] at hs; cases hs
     | some rr =>
      rw [hin] at hs
      have hI := hide (fun (w : World) (hrc : Rd w C 0 ctx) (hr : Rd w A 0 ks) => infC_any N ctx k n ks rr hin hv hi.1 (by omega) C cc A c w hrc hr)
      cases rr with
      | no b =>
       injection hs with hs
       subst hs
       clear hf hv hcg hin hi
       go_enter Try.func33, Try.ntmps33
       go_wp2_with (first
        | (go_at_call 52; have _t := tok4; refine (sCopyN_any 0 0 none 0 0 _ (cdB_ne b) _).mono ?_; rintro e w5 ⟨rfl, hb5⟩; have hZ5 := hZ4.keep hb5; have g5 := g4.trans (hb5.mono g4.size); clear d0 d1 d2 e0 e1 e2 lz; obtain ⟨d0, d1, d2⟩ := hZ5.three; have e0 := hZ5.frozen 0; have e1 := hZ5.frozen 1; have e2 := hZ5.frozen 2; have lz := hZ5.lt)
        | (go_at_call 51; have _t := tok3; refine (hI.out _ (hrc.below g3) (hr.below g3)).mono ?_; rintro e w4 ⟨rfl, hb4⟩; have hZ4 := (hZ3.keep hb4).alloc (.cells #[.int .i64 0, .int .i64 0, .slice none 0 0] 25); have hG4 := Blk.new_ w4 25 #[.int .i64 0, .int .i64 0, .slice none 0 0] rfl; have g4 := (g3.trans (hb4.mono g3.size)).alloc (by have := g3.size; have := hb4.size; omega) (.cells #[.int .i64 0, .int .i64 0, .slice none 0 0] 25); clear x0 x1 x2 d0 d1 d2 e0 e1 e2 lz; obtain ⟨x0, x1, x2⟩ := hG4.three; obtain ⟨d0, d1, d2⟩ := hZ4.three; have e0 := hZ4.frozen 0; have e1 := hZ4.frozen 1; have e2 := hZ4.frozen 2; have lz := hZ4.lt; clear tok3; have tok4 := trivial)
        | (go_at_call 50; have _t := tok2; refine (hC.out _ (hrc.below g2)).mono ?_; rintro e w3 ⟨rfl, hb3⟩; have hT3 := hT2.keep hb3; have hZ3 := hZ2.keep hb3; have g3 := g2.trans (hb3.mono g2.size); clear x0 x1 x2 d0 d1 d2 e0 e1 e2 lz; obtain ⟨x0, x1, x2⟩ := hT3.three; obtain ⟨d0, d1, d2⟩ := hZ3.three; have e0 := hZ3.frozen 0; have e1 := hZ3.frozen 1; have e2 := hZ3.frozen 2; have lz := hZ3.lt; clear tok2; have tok3 := trivial)
        | (go_at_call 30; have _t := tok; refine (sTermValid_any k n ks A c _ (by omega) (hr.below g1)).mono ?_; rw [hv'.out]; rintro e w2 ⟨rfl, hb2⟩; have hT2 := hT1.keep hb2; have hZ2 := hZ1.keep hb2; have g2 := g1.trans (hb2.mono g1.size); clear x0 x1 x2 d0 d1 d2 e0 e1 e2 lz; obtain ⟨x0, x1, x2⟩ := hT2.three; obtain ⟨d0, d1, d2⟩ := hZ2.three; have e0 := hZ2.frozen 0; have e1 := hZ2.frozen 1; have e2 := hZ2.frozen 2; have lz := hZ2.lt; clear tok; have tok2 := trivial)
        | (go_at_call 49; refine (hF.out _ ((hrc.alloc _).alloc _)).mono ?_; rintro e w1 ⟨rfl, hb1⟩; have hT1 : Blk w1 w.heap.size #[.int .i64 k, .int .i64 n, .slice A ks.length c] := ((Blk.new_ w 25 #[.int .i64 k, .int .i64 n, .slice A ks.length c] rfl).alloc _).keep hb1; have hZ1 : Blk w1 (w.heap.size + 1) #[.int .i64 0, .int .i64 0, .slice none 0 0] := (Blk.new_ _ 25 #[.int .i64 0, .int .i64 0, .slice none 0 0] (by simp)).keep hb1; have g1 : Below w.heap.size w w1 := (((Below.refl _ _).alloc (by simp <;> omega) _).alloc (by simp <;> omega) _).trans (hb1.mono (by simp <;> omega)); obtain ⟨x0, x1, x2⟩ := hT1.three; obtain ⟨d0, d1, d2⟩ := hZ1.three; have e0 := hZ1.frozen 0; have e1 := hZ1.frozen 1; have e2 := hZ1.frozen 2; have lz := hZ1.lt; have tok := trivial))
       refine bodyPost_ret (v := .tuple #[.agg #[.int .i64 0, .int .i64 0, .slice none 0 0], .int .i64 (cdB b)]) (by simp [results, Try.results33, go_sem, d0, d1, d2]) rfl ⟨rfl, ?_⟩
       exact ((g5.setCell (by simp <;> omega) _).setCell (by simp <;> omega) _).setCell (by simp <;> omega) _
      | ok s =>
       injection hs with hs
       subst hs
       obtain ⟨k4, n4, s4⟩ := s
       have hv4 := hide (infR_valid hin)
       have hz4 : sizes s4 ≤ 1000000 := by have := validT_size' (infR_valid hin); omega
       clear hf hv hcg hin hi
       go_enter Try.func33, Try.ntmps33
       go_wp2_with (first
        | (go_at_call 52; have _t := tok4; refine (sCopyT_any k4 n4 s4 A4 c4 _ hz4 r5).mono ?_; rintro e w5 ⟨A5, c5, rfl, hl5, r6, hb5⟩; have hZ5 := hZ4.keep hb5; have g5 := g4.trans (hb5.mono g4.size); clear d0 d1 d2 e0 e1 e2 lz; obtain ⟨d0, d1, d2⟩ := hZ5.three; have e0 := hZ5.frozen 0; have e1 := hZ5.frozen 1; have e2 := hZ5.frozen 2; have lz := hZ5.lt)
        | (go_at_call 51; have _t := tok3; refine (hI.out _ (hrc.below g3) (hr.below g3)).mono ?_; rintro e w4 ⟨A4, c4, rfl, hl4, r4, hb4⟩; have hZ4 := (hZ3.keep hb4).alloc (.cells #[.int .i64 k4, .int .i64 n4, .slice A4 s4.length c4] 25); have hG4 := Blk.new_ w4 25 #[.int .i64 k4, .int .i64 n4, .slice A4 s4.length c4] rfl; have g4 := (g3.trans (hb4.mono g3.size)).alloc (by have := g3.size; have := hb4.size; omega) (.cells #[.int .i64 k4, .int .i64 n4, .slice A4 s4.length c4] 25); have r5 := r4.alloc (.cells #[.int .i64 k4, .int .i64 n4, .slice A4 s4.length c4] 25); clear x0 x1 x2 d0 d1 d2 e0 e1 e2 lz; obtain ⟨x0, x1, x2⟩ := hG4.three; obtain ⟨d0, d1, d2⟩ := hZ4.three; have e0 := hZ4.frozen 0; have e1 := hZ4.frozen 1; have e2 := hZ4.frozen 2; have lz := hZ4.lt; clear tok3; have tok4 := trivial)
        | (go_at_call 50; have _t := tok2; refine (hC.out _ (hrc.below g2)).mono ?_; rintro e w3 ⟨rfl, hb3⟩; have hT3 := hT2.keep hb3; have hZ3 := hZ2.keep hb3; have g3 := g2.trans (hb3.mono g2.size); clear x0 x1 x2 d0 d1 d2 e0 e1 e2 lz; obtain ⟨x0, x1, x2⟩ := hT3.three; obtain ⟨d0, d1, d2⟩ := hZ3.three; have e0 := hZ3.frozen 0; have e1 := hZ3.frozen 1; have e2 := hZ3.frozen 2; have lz := hZ3.lt; clear tok2; have tok3 := trivial)
        | (go_at_call 30; have _t := tok; refine (sTermValid_any k n ks A c _ (by omega) (hr.below g1)).mono ?_; rw [hv'.out]; rintro e w2 ⟨rfl, hb2⟩; have hT2 := hT1.keep hb2; have hZ2 := hZ1.keep hb2; have g2 := g1.trans (hb2.mono g1.size); clear x0 x1 x2 d0 d1 d2 e0 e1 e2 lz; obtain ⟨x0, x1, x2⟩ := hT2.three; obtain ⟨d0, d1, d2⟩ := hZ2.three; have e0 := hZ2.frozen 0; have e1 := hZ2.frozen 1; have e2 := hZ2.frozen 2; have lz := hZ2.lt; clear tok; have tok2 := trivial)
        | (go_at_call 49; refine (hF.out _ ((hrc.alloc _).alloc _)).mono ?_; rintro e w1 ⟨rfl, hb1⟩; have hT1 : Blk w1 w.heap.size #[.int .i64 k, .int .i64 n, .slice A ks.length c] := ((Blk.new_ w 25 #[.int .i64 k, .int .i64 n, .slice A ks.length c] rfl).alloc _).keep hb1; have hZ1 : Blk w1 (w.heap.size + 1) #[.int .i64 0, .int .i64 0, .slice none 0 0] := (Blk.new_ _ 25 #[.int .i64 0, .int .i64 0, .slice none 0 0] (by simp)).keep hb1; have g1 : Below w.heap.size w w1 := (((Below.refl _ _).alloc (by simp <;> omega) _).alloc (by simp <;> omega) _).trans (hb1.mono (by simp <;> omega)); obtain ⟨x0, x1, x2⟩ := hT1.three; obtain ⟨d0, d1, d2⟩ := hZ1.three; have e0 := hZ1.frozen 0; have e1 := hZ1.frozen 1; have e2 := hZ1.frozen 2; have lz := hZ1.lt; have tok := trivial))
       refine bodyPost_ret (v := .tuple #[.agg #[.int .i64 k4, .int .i64 n4, .slice A5 s4.length c5], .int .i64 0]) (by simp [results, Try.results33, go_sem, d0, d1, d2]) rfl ⟨A5, c5, rfl, hl5, rd_set0 hZ5 hv4.out r6 _ _ _, ?_⟩
       exact ((g5.setCell (by simp <;> omega) _).setCell (by simp <;> omega) _).setCell (by simp <;> omega) _
    ·rw [if_neg hc0] at hs
     injection hs with hs
     subst hs
     have qc : (co != 0) = true := by simpa using hc0
     clear hf hv hcg hi hc0
     go_enter Try.func33, Try.ntmps33
     go_wp2_with (first
      | (go_at_call 50; have _t := tok2; refine (hC.out _ (hrc.below g2)).mono ?_; rintro e w3 ⟨rfl, hb3⟩; have hT3 := hT2.keep hb3; have hZ3 := hZ2.keep hb3; have g3 := g2.trans (hb3.mono g2.size); clear x0 x1 x2 d0 d1 d2 e0 e1 e2 lz; obtain ⟨x0, x1, x2⟩ := hT3.three; obtain ⟨d0, d1, d2⟩ := hZ3.three; have e0 := hZ3.frozen 0; have e1 := hZ3.frozen 1; have e2 := hZ3.frozen 2; have lz := hZ3.lt; clear tok2; have tok3 := trivial)
      | (go_at_call 30; have _t := tok; refine (sTermValid_any k n ks A c _ (by omega) (hr.below g1)).mono ?_; rw [hv'.out]; rintro e w2 ⟨rfl, hb2⟩; have hT2 := hT1.keep hb2; have hZ2 := hZ1.keep hb2; have g2 := g1.trans (hb2.mono g1.size); clear x0 x1 x2 d0 d1 d2 e0 e1 e2 lz; obtain ⟨x0, x1, x2⟩ := hT2.three; obtain ⟨d0, d1, d2⟩ := hZ2.three; have e0 := hZ2.frozen 0; have e1 := hZ2.frozen 1; have e2 := hZ2.frozen 2; have lz := hZ2.lt; clear tok; have tok2 := trivial)
      | (go_at_call 49; refine (hF.out _ ((hrc.alloc _).alloc _)).mono ?_; rintro e w1 ⟨rfl, hb1⟩; have hT1 : Blk w1 w.heap.size #[.int .i64 k, .int .i64 n, .slice A ks.length c] := ((Blk.new_ w 25 #[.int .i64 k, .int .i64 n, .slice A ks.length c] rfl).alloc _).keep hb1; have hZ1 : Blk w1 (w.heap.size + 1) #[.int .i64 0, .int .i64 0, .slice none 0 0] := (Blk.new_ _ 25 #[.int .i64 0, .int .i64 0, .slice none 0 0] (by simp)).keep hb1; have g1 : Below w.heap.size w w1 := (((Below.refl _ _).alloc (by simp <;> omega) _).alloc (by simp <;> omega) _).trans (hb1.mono (by simp <;> omega)); obtain ⟨x0, x1, x2⟩ := hT1.three; obtain ⟨d0, d1, d2⟩ := hZ1.three; have e0 := hZ1.frozen 0; have e1 := hZ1.frozen 1; have e2 := hZ1.frozen 2; have lz := hZ1.lt; have tok := trivial))
     refine bodyPost_ret (v := .tuple #[.agg #[.int .i64 0, .int .i64 0, .slice none 0 0], .int .i64 co]) (by simp [results, Try.results33, go_sem, d0, d1, d2]) rfl ⟨rfl, ?_⟩
     exact ((g3.setCell (by simp <;> omega) _).setCell (by simp <;> omega) _).setCell (by simp <;> omega) _
end Go.Proofs.Ytddkehjdjfmhmaa
