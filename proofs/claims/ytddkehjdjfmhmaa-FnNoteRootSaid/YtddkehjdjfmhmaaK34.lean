/-
 Contracts of the functions that the law reaches, and plain lemmas. No condition.
-/
import Derived.Test.YtddkehjdjfmhmaaK16
import Derived.Test.YtddkehjdjfmhmaaK33
namespace Go.Proofs.Ytddkehjdjfmhmaa
set_option linter.unusedSimpArgs false
set_option linter.unusedVariables false
open Go.RowKit
theorem infR_inv {N : Nat} {ctx : List Tm} {t s : Tm} (h : infR N ctx t = some (.ok s)) : ∃ M, N = M + 1 ∧ validT t = true ∧ kndR (infR M) ctx t = some (.ok s) ∧ validT s = true := by
 have hv := infR_valid h
 cases N with
 | zero => cases h
 | succ M =>
  rw [infR] at h
  split at h
  ·rename_i hh
   obtain ⟨o, ho, hs⟩ := chain2 h
   unfold vldR at hs
   split at hs
   ·have := ok_inj hs; subst this; exact ⟨M, rfl, hh.1, ho, hv⟩
   ·injection hs with hs; cases hs
  ·injection h with h; cases h
theorem headP_nf {k n : Int} {ks : List Tm} (h : k = 2 ∨ k = 3 ∨ k = 10 ∨ k = 13) : headP (.mk k n ks) = none := by
 have h1 : rdx k ks = 0 := by rcases h with rfl | rfl | rfl | rfl <;> simp [rdx]
 have h2 : mainO k < 0 := by rcases h with rfl | rfl | rfl | rfl <;> decide
 rw [headP, if_pos h1, if_pos h2]
theorem hdR_nf {k n : Int} {ks : List Tm} (h : k = 2 ∨ k = 3 ∨ k = 10 ∨ k = 13) (hv : validT (.mk k n ks) = true) : hdR (.mk k n ks) = .ok (.mk k n ks) := by
 unfold hdR
 rw [if_pos hv, redI, headP_nf h]
theorem hdR_one {s o : Tm} (hk : s.k = 2 ∨ s.k = 3 ∨ s.k = 10 ∨ s.k = 13) (h : hdR s = .ok o) : o = s := by
 obtain ⟨k, n, ks⟩ := s
 have hv := (hdR_valid h).1
 have hk' : k = 2 ∨ k = 3 ∨ k = 10 ∨ k = 13 := hk
 rw [hdR_nf hk' hv] at h
 injection h with h
 exact h.symm
theorem shpR_inv {N : Nat} {ctx : List Tm} {t h : Tm} {kind : Int} (hs : shpR (infR N) ctx t kind = some (.ok h)) : ∃ s, infR N ctx t = some (.ok s) ∧ hdR s = .ok h := by
 obtain ⟨s, h1, hs⟩ := chain2 hs
 obtain ⟨o, h2, hs⟩ := chain2 hs
 injection h2 with h2
 unfold shpH at hs
 split at hs
 ·have := ok_inj hs; subst this; exact ⟨s, h1, h2⟩
 ·injection hs with hs; cases hs
theorem lam_inv {N : Nat} {ctx : List Tm} {a b u : Tm} (h : infR N ctx (.mk 4 0 [a, b]) = some (.ok u)) : ∃ M v, infR M (ctx ++ [a]) b = some (.ok v) ∧ u = .mk 3 0 [a, v] := by
 obtain ⟨M, rfl, _, hk, _⟩ := infR_inv h
 rw [kndR, if_neg (by decide), if_pos rfl] at hk
 obtain ⟨_, _, hk⟩ := chain2 hk
 obtain ⟨v, hv, hk⟩ := chain2 hk
 obtain ⟨_, _, hk⟩ := chain2 hk
 have := ok_inj hk
 exact ⟨M, v, hv, this.symm⟩
def famN : Tm := .mk 4 0 [kN, kN]
def tyN (x : NT) : Tm := match x.idx with | none => kN | some u => .mk 5 0 [famN, u.tm]
theorem rep_succ (n : Nat) : List.replicate n kN ++ [kN] = List.replicate (n + 1) kN := (List.replicate_succ' ..).symm
theorem ty_any (x : NT) : ∀ (n N : Nat) (s : Tm), infR N (List.replicate n kN) x.tm = some (.ok s) → s = tyN x := by
 induction x with
 | var i =>
  intro n N s h
  obtain ⟨M, rfl, _, hk, _⟩ := infR_inv h
  simp only [NT.tm, kndR, Int.reduceEq, if_false, if_true, or_self] at hk
  unfold varR at hk
  split at hk
  ·injection hk with hk; cases hk
  ·rename_i hl
   have := ok_inj hk
   rw [← this]
   have hlt : n - 1 - i < n := by simp at hl; omega
   rw [show (List.replicate n kN).getD ((List.replicate n kN).length - 1 - ((i : Nat) : Int).toNat) default = kN by simp [List.getD, hlt]]
   simp [kN, shS, shSL, tyN, NT.idx]
 | zero =>
  intro n N s h
  obtain ⟨M, rfl, _, hk, _⟩ := infR_inv h
  simp only [NT.tm, kndR, Int.reduceEq, if_false, if_true, or_self] at hk
  exact (ok_inj hk).symm
 | suc a _ =>
  intro n N s h
  obtain ⟨M, rfl, _, hk, _⟩ := infR_inv h
  simp only [NT.tm, kndR, Int.reduceEq, if_false, if_true, or_self] at hk
  obtain ⟨_, _, hk⟩ := chain2 hk
  exact (ok_inj hk).symm
 | app b a h1 h2 =>
  intro n N s h
  obtain ⟨M, rfl, _, hk, _⟩ := infR_inv h
  simp only [NT.tm, kndR, Int.reduceEq, if_false, if_true, or_self] at hk
  obtain ⟨hh, hs, hk⟩ := chain2 hk
  obtain ⟨_, _, hk⟩ := chain2 hk
  obtain ⟨u, hu, hd⟩ := shpR_inv hs
  obtain ⟨L, v, hv, rfl⟩ := lam_inv hu
  have := hdR_one (.inr (.inl rfl)) hd
  subst this
  rw [show ([kN] : List Tm) = [kN] from rfl, rep_succ] at hv
  have hty := h1 (n + 1) L v hv
  have := ok_inj hk
  rw [← this]
  show sbS a.tm 0 0 v = _
  rw [hty]
  unfold tyN
  rw [NT.idx]
  cases b.idx with
  | none => simp [kN, sbS, sbSL]
  | some w =>
   have := NT.tm_sub w a 0
   simp only [Option.map_some]
   rw [← this]
   simp [famN, kN, sbS, sbSL, under, binds]
 | elim z s m _ _ _ =>
  intro n N t h
  obtain ⟨M, rfl, _, hk, _⟩ := infR_inv h
  simp only [NT.tm, kndR, Int.reduceEq, if_false, if_true, or_self] at hk
  obtain ⟨_, _, hk⟩ := chain2 hk
  obtain ⟨_, _, hk⟩ := chain2 hk
  obtain ⟨_, _, hk⟩ := chain2 hk
  obtain ⟨_, _, hk⟩ := chain2 hk
  exact (ok_inj hk).symm
 | part q a b _ _ =>
  intro n N t h
  obtain ⟨M, rfl, _, hk, _⟩ := infR_inv h
  have key : ∀ k : Int, prtR (infR M) (List.replicate n kN) k (.mk 14 0 [.mk 13 0 [kN, kN], a.tm, b.tm]) = some (.ok t) → t = kN := by
   intro k hk
   obtain ⟨hh, hs, hk⟩ := chain2 hk
   obtain ⟨u, hu, hd⟩ := shpR_inv hs
   obtain ⟨L, rfl, _, hu2, _⟩ := infR_inv hu
   simp only [kndR, Int.reduceEq, if_false, if_true, or_self] at hu2
   obtain ⟨_, _, hu2⟩ := chain2 hu2
   obtain ⟨_, _, hu2⟩ := chain2 hu2
   obtain ⟨_, _, hu2⟩ := chain2 hu2
   obtain ⟨_, _, hu2⟩ := chain2 hu2
   obtain ⟨_, _, hu2⟩ := chain2 hu2
   have := ok_inj hu2
   subst this
   have := hdR_one (.inr (.inr (.inr rfl))) hd
   subst this
   split at hk
   ·exact (ok_inj hk).symm
   ·rw [← ok_inj hk]; simp [kidT, Tm.ks, kN, sbS, sbSL]
  cases q with
  | false => simp only [NT.tm, kndR, Int.reduceEq, if_false, if_true, or_self] at hk; exact key 15 hk
  | true => simp only [NT.tm, kndR, Int.reduceEq, if_false, if_true, or_self] at hk; exact key 16 hk
 | mov x z h1 _ =>
  intro n N t h
  obtain ⟨M, rfl, _, hk, _⟩ := infR_inv h
  simp only [NT.tm, kndR, Int.reduceEq, if_false, if_true, or_self] at hk
  obtain ⟨hh, hs, hk⟩ := chain2 hk
  obtain ⟨_, _, hk⟩ := chain2 hk
  obtain ⟨_, _, hk⟩ := chain2 hk
  obtain ⟨u, hu, hd⟩ := shpR_inv hs
  obtain ⟨L, rfl, _, hu2, _⟩ := infR_inv hu
  simp only [kidT, List.getD_cons_succ, List.getD_cons_zero, kndR, Int.reduceEq, if_false, if_true, or_self] at hu2
  obtain ⟨v, hv, hu2⟩ := chain2 hu2
  obtain ⟨_, _, hu2⟩ := chain2 hu2
  have := ok_inj hu2
  subst this
  have := hdR_one (.inr (.inr (.inl rfl))) hd
  subst this
  first
   | exact (ok_inj hk).symm
   | (obtain ⟨_, _, hk⟩ := chain2 hk; exact (ok_inj hk).symm)
/-! the inference ends -/
theorem ends_bad {ctx : List Tm} {t : Tm} (h : validT t = false) : Ends ctx t := ⟨1, .no false, by rw [infR, if_neg (by rw [h]; rintro ⟨h, -⟩; cases h)]⟩
theorem ends_def (ctx : List Tm) : Ends ctx default := ends_bad (by decide)
theorem ends_leaf (ctx : List Tm) (k n : Int) : Ends ctx (.mk k n []) := by
 refine ends_node (fun i _ => ends_def _) (fun _ N u h => ?_) (fun _ N u h => ?_)
 ·obtain ⟨_, _, hv, _⟩ := infR_inv h; exact absurd hv (by decide)
 ·obtain ⟨_, _, hv, _⟩ := infR_inv h; exact absurd hv (by decide)
theorem ends1 {ctx : List Tm} {k n : Int} {a : Tm} (hb : binds k = false) (ha : Ends ctx a) (h11 : k = 11 → ∀ N u, infR N ctx a = some (.ok u) → Ends ctx u) : Ends ctx (.mk k n [a]) := by
 have h4 : k ≠ 4 := by rintro rfl; cases hb
 refine ends_node (fun i hi => ?_) (fun h => absurd h h4) h11
 rw [cxo, if_neg (by rw [hb]; rintro ⟨-, h⟩; cases h)]
 rcases (show i = 0 ∨ i = 1 ∨ i = 2 ∨ i = 3 by omega) with rfl | rfl | rfl | rfl
 ·exact ha
 ·exact ends_def _
 ·exact ends_def _
 ·exact ends_def _
theorem ends2 {ctx : List Tm} {k n : Int} {a b : Tm} (hb : binds k = false) (h11 : k ≠ 11) (ha : Ends ctx a) (hbb : Ends ctx b) : Ends ctx (.mk k n [a, b]) := by
 have h4 : k ≠ 4 := by rintro rfl; cases hb
 refine ends_node (fun i hi => ?_) (fun h => absurd h h4) (fun h => absurd h h11)
 rw [cxo, if_neg (by rw [hb]; rintro ⟨-, h⟩; cases h)]
 rcases (show i = 0 ∨ i = 1 ∨ i = 2 ∨ i = 3 by omega) with rfl | rfl | rfl | rfl
 ·exact ha
 ·exact hbb
 ·exact ends_def _
 ·exact ends_def _
theorem ends3 {ctx : List Tm} {k n : Int} {a b c : Tm} (hb : binds k = false) (h11 : k ≠ 11) (ha : Ends ctx a) (hbb : Ends ctx b) (hc : Ends ctx c) : Ends ctx (.mk k n [a, b, c]) := by
 have h4 : k ≠ 4 := by rintro rfl; cases hb
 refine ends_node (fun i hi => ?_) (fun h => absurd h h4) (fun h => absurd h h11)
 rw [cxo, if_neg (by rw [hb]; rintro ⟨-, h⟩; cases h)]
 rcases (show i = 0 ∨ i = 1 ∨ i = 2 ∨ i = 3 by omega) with rfl | rfl | rfl | rfl
 ·exact ha
 ·exact hbb
 ·exact hc
 ·exact ends_def _
theorem ends4 {ctx : List Tm} {k n : Int} {a b c d : Tm} (hb : binds k = false) (h11 : k ≠ 11) (ha : Ends ctx a) (hbb : Ends ctx b) (hc : Ends ctx c) (hd : Ends ctx d) : Ends ctx (.mk k n [a, b, c, d]) := by
 have h4 : k ≠ 4 := by rintro rfl; cases hb
 refine ends_node (fun i hi => ?_) (fun h => absurd h h4) (fun h => absurd h h11)
 rw [cxo, if_neg (by rw [hb]; rintro ⟨-, h⟩; cases h)]
 rcases (show i = 0 ∨ i = 1 ∨ i = 2 ∨ i = 3 by omega) with rfl | rfl | rfl | rfl
 ·exact ha
 ·exact hbb
 ·exact hc
 ·exact hd
theorem endsB {ctx : List Tm} {k n : Int} {a b : Tm} (hb : binds k = true) (ha : Ends ctx a) (hbb : Ends (ctx ++ [a]) b) (h4 : k = 4 → ∀ N u, infR N (ctx ++ [a]) b = some (.ok u) → Ends (ctx ++ [a]) u) : Ends ctx (.mk k n [a, b]) := by
 have h11 : k ≠ 11 := by rintro rfl; cases hb
 refine ends_node (fun i hi => ?_) h4 (fun h => absurd h h11)
 rcases (show i = 0 ∨ i = 1 ∨ i = 2 ∨ i = 3 by omega) with rfl | rfl | rfl | rfl
 ·rw [cxo, if_neg (by rintro ⟨h, -⟩; cases h)]; exact ha
 ·rw [cxo, if_pos ⟨rfl, hb⟩]; exact hbb
 ·rw [cxo, if_neg (by rintro ⟨h, -⟩; cases h)]; exact ends_def _
 ·rw [cxo, if_neg (by rintro ⟨h, -⟩; cases h)]; exact ends_def _
theorem ends_kN (ctx : List Tm) : Ends ctx kN := ends_leaf _ _ _
theorem kN_ty {N : Nat} {ctx : List Tm} {u : Tm} (h : infR N ctx kN = some (.ok u)) : u = .mk 2 0 [] := by
 obtain ⟨M, rfl, _, hk, _⟩ := infR_inv h
 simp only [kN, kndR, Int.reduceEq, if_false, if_true, or_self] at hk
 exact (ok_inj hk).symm
theorem ends_fam (ctx : List Tm) : Ends ctx famN := endsB rfl (ends_kN _) (ends_kN _) fun _ N u h => by rw [kN_ty h]; exact ends_leaf _ _ _
theorem ends_sig (ctx : List Tm) : Ends ctx (.mk 13 0 [kN, kN]) := endsB rfl (ends_kN _) (ends_kN _) fun h => absurd h (by decide)
theorem ends_ty {n : Nat} {x : NT} (h : ∀ u, x.idx = some u → Ends (List.replicate n kN) u.tm) : Ends (List.replicate n kN) (tyN x) := by
 unfold tyN
 cases hx : x.idx with
 | none => exact ends_kN _
 | some u => exact ends2 rfl (by decide) (ends_fam _) (h u hx)
theorem ends_lamN {n : Nat} {b : NT} (h : Ends (List.replicate (n + 1) kN) b.tm) (hu : ∀ u, b.idx = some u → Ends (List.replicate (n + 1) kN) u.tm) : Ends (List.replicate n kN) (.mk 4 0 [kN, b.tm]) := by
 refine endsB rfl (ends_kN _) (by rw [rep_succ]; exact h) (fun _ N u h => ?_)
 rw [rep_succ] at h ⊢
 rw [ty_any b _ _ _ h]
 exact ends_ty hu
theorem ends_lamNN {n : Nat} {s : NT} (h : Ends (List.replicate (n + 2) kN) s.tm) (hu : ∀ u, s.idx = some u → Ends (List.replicate (n + 2) kN) u.tm) : Ends (List.replicate n kN) (.mk 4 0 [kN, .mk 4 0 [kN, s.tm]]) := by
 refine endsB rfl (ends_kN _) (by rw [rep_succ]; exact ends_lamN h hu) (fun _ N u h2 => ?_)
 rw [rep_succ] at h2 ⊢
 obtain ⟨M, v, hv, rfl⟩ := lam_inv h2
 rw [rep_succ] at hv
 rw [ty_any s _ _ _ hv]
 exact endsB rfl (ends_kN _) (by rw [rep_succ]; exact ends_ty hu) (fun h => absurd h (by decide))
theorem ends_gd {n : Nat} {x : NT} (h : NT.Gd n x) : Ends (List.replicate n kN) x.tm ∧ ∀ u, x.idx = some u → Ends (List.replicate n kN) u.tm := by
 induction h with
 | var h => exact ⟨ends_leaf _ _ _, fun u hu => by cases hu⟩
 | zero => exact ⟨ends_leaf _ _ _, fun u hu => by cases hu⟩
 | suc h ih => exact ⟨ends1 rfl ih.1 (fun h => absurd h (by decide)), fun u hu => by cases hu⟩
 | @app n b a h1 h2 h3 i1 i2 i3 =>
  refine ⟨ends2 rfl (by decide) (ends_lamN i1.1 i1.2) i2.1, fun u hu => ?_⟩
  rw [NT.idx] at hu
  cases hb : b.idx with
  | none => rw [hb] at hu; cases hu
  | some v => rw [hb] at hu; injection hu with hu; subst hu; exact (i3 v hb).1
 | elim h1 h2 h3 i1 i2 i3 =>
  exact ⟨ends4 rfl (by decide) (ends_fam _) i1.1 (ends_lamNN i2.1 i2.2) i3.1, fun u hu => by injection hu with hu; subst hu; exact i3.1⟩
 | @part n q a b h1 h2 i1 i2 =>
  refine ⟨?_, fun u hu => by cases hu⟩
  cases q with
  | false => exact ends1 rfl (ends3 rfl (by decide) (ends_sig _) i1.1 i2.1) (fun h => absurd h (by decide))
  | true => exact ends1 rfl (ends3 rfl (by decide) (ends_sig _) i1.1 i2.1) (fun h => absurd h (by decide))
 | @mov n x z h1 h2 i1 i2 =>
  refine ⟨ends3 rfl (by decide) (ends_fam _) (ends1 rfl i1.1 (fun _ N u hu => ?_)) i2.1, fun u hu => by injection hu with hu; subst hu; exact i1.1⟩
  rw [ty_any x _ _ _ hu]
  exact ends_ty i1.2
open Go.RowKit
theorem partR_emp (w : World) (lo : Nat → Prop) {B : Nat} (hB : B ≤ w.heap.size) : PartR lo B (w.alloc (.cells #[] 25)) (.slice (some ⟨w.heap.size, 0, none⟩) 0 0) [] :=
 ⟨[], ⟨by simp, .inr ⟨_, 0, #[], rfl, hB, heap_alloc_new w _, Nat.le_refl _, by simp [maxLen], by simp, by simp⟩⟩, rfl⟩
theorem rd_oth {w0 w : World} {A : Option Addr} {ks : List Tm} (hr : Rd w0 A 0 ks) (hw : w0.heap.size ≤ w.heap.size) (hb : Below w0.heap.size w0 (w.alloc (.cells #[] 25))) : RdP (Oth (w.alloc (.cells #[] 25)) (.slice (some ⟨w.heap.size, 0, none⟩) 0 0)) (w.alloc (.cells #[] 25)) A 0 ks :=
 (hr.rdp.below hb).mono (fun b hb => ⟨by simp; omega, fun e => by
  have e2 : w.heap.size = b := by injection e
  omega⟩)
theorem itR_ok {N : Nat} {ctx : List Tm} {t s : Tm} {c : Int} (h : itR N ctx t = some (c, some s)) : c = 0 ∧ validT t = true ∧ fitR ctx = true := by
 unfold itR at h
 split at h
 ·rename_i hv
  split at h
  ·cases h
  ·split at h
   ·split at h
    ·cases h
    ·injection h with h; cases h
    ·injection h with h; injection h with h1 h2; exact ⟨h1.symm, hv.2, hv.1⟩
   ·injection h with h; cases h
 ·injection h with h; cases h
theorem itR_no {N : Nat} {ctx : List Tm} {t : Tm} {c : Int} (h : itR N ctx t = some (c, none)) : c ≠ 0 := by
 unfold itR at h
 split at h
 ·split at h
  ·cases h
  ·split at h
   ·split at h
    ·cases h
    ·injection h with h; injection h with h; rw [← h]; exact cdB_ne _
    ·injection h with h; cases h
   ·injection h with h; injection h with h; rw [← h]; assumption
 ·injection h with h; injection h with h; rw [← h]; decide
def GtAn (w : World) (R : Int × List Tm) (e : Ending) (w' : World) : Prop :=
 ∃ A c, e = .returned (.tuple #[.slice A R.2.length c, .int .i64 R.1]) ∧ PartR (fun _ => False) w.heap.size w' (.slice A R.2.length c) R.2 ∧ Below w.heap.size w w'
theorem PartR.mono_ {B B' : Nat} {w : World} {v : Value} {ts : List Tm} (h : PartR (fun _ => False) B w v ts) (hB : B' ≤ B) : PartR (fun _ => False) B' w v ts := by
 obtain ⟨xs, h1, h2⟩ := h
 have h3 : w.ownsRow B' 25 3 v ts.length xs := by
  refine ⟨h1.1, ?_⟩
  rcases h1.2 with hn | ⟨g, cap, cur, rfl, hb, hg, r⟩
  ·exact .inl hn
  ·exact .inr ⟨g, cap, cur, rfl, by omega, hg, r⟩
 exact ⟨xs, h3, h2.keep (fun b hb => ⟨hb.1.imp id (fun h => by omega), hb.2⟩) (fun b _ _ => rfl)⟩
theorem below_grown {w w1 w2 : World} {v : Value} {g : Nat} (h : Below w.heap.size w w1) (hg : w1.grownBy w2 v.ownBlock) (ho : ∀ b, v.ownBlock = some b → w.heap.size ≤ b) : Below w.heap.size w w2 :=
 ⟨hg.os.trans h.os, hg.tape.trans h.tape, hg.output.trans h.output, Nat.le_trans h.size hg.size, fun k hk => (hg.block k (Nat.lt_of_lt_of_le hk h.size) (fun e => by have := ho k e.symm; omega)).trans (h.block k hk)⟩
set_option maxRecDepth 100000 in
set_option maxHeartbeats 8000000 in
theorem sAnnotate_any (N : Nat) (ctx : List Tm) (C : Option Addr) (cc : Nat) (k n : Int) (ks : List Tm) (A : Option Addr) (c : Nat) (R : Int × List Tm) (w : World) (hs : anR N ctx (.mk k n ks) = some R) (hcc : ctx.length ≤ cc) (hszc : sizes ctx ≤ 1000000) (hsz : sizes ks ≤ 1000000) (hrc : Rd w C 0 ctx) (hr : Rd w A 0 ks) :
  Calls Try.prog 11 #[.slice C ctx.length cc, .agg #[.int .i64 k, .int .i64 n, .slice A ks.length c]] w (GtAn w R) := by
 unfold anR at hs
 cases hit : itR N ctx (.mk k n ks) with
 | none => rw [hit] at hs; cases hs
 | some ir =>
  obtain ⟨co, oo⟩ := ir
  have hI := hide (fun (w : World) (hrc : Rd w C 0 ctx) (hr : Rd w A 0 ks) => sInferType_any N ctx C cc k n ks A c _ w hit hcc hszc hsz hrc hr)
  rw [hit] at hs
  cases oo with
  | none =>
   injection hs with hs
   subst hs
   have qc : (co != 0) = true := by simpa using itR_no hit
   clear hit
   go_enter Try.func11, Try.ntmps11
   go_wp2_with (go_at_call 33; refine (hI.out _ (hrc.alloc _) (hr.alloc _)).mono ?_; rintro e w1 ⟨rfl, hb1⟩; have hT1 : Blk w1 w.heap.size #[.int .i64 k, .int .i64 n, .slice A ks.length c] := (Blk.new_ w 25 #[.int .i64 k, .int .i64 n, .slice A ks.length c] rfl).keep hb1; have g1 : Below w.heap.size w w1 := ((Below.refl _ _).alloc (Nat.le_refl _) _).trans (hb1.mono (by simp)); have g2 := g1.alloc g1.size (.cells #[.int .i64 0, .int .i64 0, .slice none 0 0] 25))
   go_ret2
   exact ⟨_, _, rfl, by simpa using partR_emp (w1.alloc (.cells #[.int .i64 0, .int .i64 0, .slice none 0 0] 25)) (fun _ => False) (B := w.heap.size) g2.size, g2.alloc g2.size _⟩
  | some s1' =>
   obtain ⟨k1, n1, s1⟩ := s1'
   obtain ⟨rfl, hv, hf⟩ := itR_ok hit
   have hfi := fitR_inv hf
   have hM := validT_size' hv
   simp only at hs
   cases hn : noteR N ctx (.mk k n ks) with
   | none => rw [hn] at hs; cases hs
   | some rr =>
    rw [hn] at hs
    have hN := hide (fun (w' w2 : World) (g : Nat) (hgg : g = w2.heap.size) (hw : w' = w2.alloc (.cells #[] 25)) (hb : w.heap.size ≤ w2.heap.size) (hrc : Rd w2 C 0 ctx) (hr : Rd w2 A 0 ks) => by
     have hb2 : Below w2.heap.size w2 (w2.alloc (.cells #[] 25)) := (Below.refl _ _).alloc (Nat.le_refl _) _
     have := sNote_any N w2.heap.size (sizes ks + 1) ctx k n ks rr C cc A c [] (some ⟨w2.heap.size, 0, none⟩) 0 (w2.alloc (.cells #[] 25)) (by omega) hn hv hfi.1 (by omega) (by simp; omega) (by simp) (rd_oth hrc (Nat.le_refl _) hb2) (rd_oth hr (Nat.le_refl _) hb2) (partR_emp _ _ (Nat.le_refl _))
     rw [← hw, ← hgg] at this
     exact (this : Calls Try.prog 34 #[.slice (some ⟨g, 0, none⟩) 0 0, .slice C ctx.length cc, .agg #[.int .i64 k, .int .i64 n, .slice A ks.length c]] w' (GtNt (.slice (some ⟨g, 0, none⟩) 0 0) g w' [] rr)))
    cases rr with
    | no b =>
     injection hs with hs
     subst hs
     have qb := cdB_q b
     clear hit hv hf hfi hn
     go_enter Try.func11, Try.ntmps11
     go_wp2_with (first
      | (go_at_call 34; have _t := tok; refine (hN.out _ (w1.alloc (.cells #[.int .i64 k1, .int .i64 n1, .slice A1 s1.length c1] 25)) _ (by simp) rfl (by have := g2.size; omega) (hrc.below g2) (hr.below g2)).mono ?_; rintro e w3 ⟨A5, l5, c5, rfl, hg⟩; have g3 : Below w.heap.size w w3 := below_grown (g := 0) (g2.alloc g2.size (.cells #[] 25)) hg (fun b hb => by have e2 : w1.heap.size + 1 = b := (by injection hb); have := g1.size; omega))
      | (go_at_call 33; refine (hI.out _ (hrc.alloc _) (hr.alloc _)).mono ?_; rintro e w1 ⟨A1, c1, rfl, hl1, r1, hb1⟩; have hT1 : Blk w1 w.heap.size #[.int .i64 k, .int .i64 n, .slice A ks.length c] := (Blk.new_ w 25 #[.int .i64 k, .int .i64 n, .slice A ks.length c] rfl).keep hb1; have g1 : Below w.heap.size w w1 := ((Below.refl _ _).alloc (Nat.le_refl _) _).trans (hb1.mono (by simp)); have g2 := g1.alloc g1.size (.cells #[.int .i64 k1, .int .i64 n1, .slice A1 s1.length c1] 25); have hT2 := hT1.alloc (.cells #[.int .i64 k1, .int .i64 n1, .slice A1 s1.length c1] 25); have ltw := hT1.lt; obtain ⟨x0, x1, x2⟩ := hT2.three; have tok := trivial))
     go_ret2
     exact ⟨_, _, rfl, partR_emp w3 (fun _ => False) (B := w.heap.size) g3.size, g3.alloc g3.size _⟩
    | ok ns =>
     injection hs with hs
     subst hs
     clear hit hv hf hfi hn
     go_enter Try.func11, Try.ntmps11
     go_wp2_with (first
      | (go_at_call 34; have _t := tok; refine (hN.out _ (w1.alloc (.cells #[.int .i64 k1, .int .i64 n1, .slice A1 s1.length c1] 25)) _ (by simp) rfl (by have := g2.size; omega) (hrc.below g2) (hr.below g2)).mono ?_; rintro e w3 ⟨A5, c5, rfl, hP, hg, ho⟩; have g3 : Below w.heap.size w w3 := below_grown (g := 0) (g2.alloc g2.size (.cells #[] 25)) hg (fun b hb => by have e2 : w1.heap.size + 1 = b := (by injection hb); have := g1.size; omega))
      | (go_at_call 33; refine (hI.out _ (hrc.alloc _) (hr.alloc _)).mono ?_; rintro e w1 ⟨A1, c1, rfl, hl1, r1, hb1⟩; have hT1 : Blk w1 w.heap.size #[.int .i64 k, .int .i64 n, .slice A ks.length c] := (Blk.new_ w 25 #[.int .i64 k, .int .i64 n, .slice A ks.length c] rfl).keep hb1; have g1 : Below w.heap.size w w1 := ((Below.refl _ _).alloc (Nat.le_refl _) _).trans (hb1.mono (by simp)); have g2 := g1.alloc g1.size (.cells #[.int .i64 k1, .int .i64 n1, .slice A1 s1.length c1] 25); have hT2 := hT1.alloc (.cells #[.int .i64 k1, .int .i64 n1, .slice A1 s1.length c1] 25); have ltw := hT1.lt; obtain ⟨x0, x1, x2⟩ := hT2.three; have tok := trivial))
     go_ret2
     exact ⟨A5, c5, rfl, hP.mono_ (by have := g2.size; simp at this; omega), g3⟩
end Go.Proofs.Ytddkehjdjfmhmaa
