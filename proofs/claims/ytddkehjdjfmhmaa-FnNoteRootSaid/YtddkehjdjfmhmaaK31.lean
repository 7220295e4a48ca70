/-
 Contracts of the functions that the law reaches, and plain lemmas. No condition.
-/
import Derived.Test.YtddkehjdjfmhmaaK30
namespace Go.Proofs.Ytddkehjdjfmhmaa
set_option linter.unusedSimpArgs false
set_option linter.unusedVariables false
open Go.RowKit
theorem sbS_nz (u : Tm) (hu : nzT u = true) : (∀ (t : Tm) (x d : Int), nzT t = true → nzT (sbS u x d t) = true) ∧ ∀ (ts : List Tm) (k x d : Int) (i : Nat), nzL ts = true → nzL (sbSL u k x d i ts) = true := by
 refine Tm.ind2 (fun k n ks ih x d h => ?_) (fun k x d i _ => rfl) (fun t ts h1 h2 k x d i h => ?_)
 ·rw [nzT, Bool.and_eq_true] at h
  rw [sbS]
  split
  ·rw [(shS_nz d).1]; exact hu
  ·rw [nzT, h.1, ih k x d 0 h.2]; rfl
 ·rw [nzL, Bool.and_eq_true] at h
  rw [sbSL, nzL, h1 _ _ h.1, h2 k x d (i + 1) h.2]; rfl
theorem valid_nz {t : Tm} (h : validT t = true) : nzT t = true := shape_nz.1 _ _ (validT_shape30 h)
def NzR (o : Tm) : Prop := nzT o = true ∧ o.size ≤ 200000
theorem nzR_valid {t : Tm} (h : validT t = true) : NzR t := ⟨valid_nz h, by have := validT_size h; omega⟩
theorem nzR_sb {u t : Tm} (hu : nzT u = true) (huz : u.size ≤ 401) (ht : validT t = true) : NzR (sbS u 0 0 t) := by
 refine ⟨(sbS_nz u hu).1 t 0 0 (valid_nz ht), ?_⟩
 have h1 := sbS_size u huz (by omega) t 0 0
 have h2 := validT_size ht
 have h3 : t.size * 401 ≤ 400 * 401 := Nat.mul_le_mul_right _ h2
 omega
theorem nzR_node {k : Int} (hk : (k != 0) = true) {a b : Tm} (ha : validT a = true) (hb : validT b = true) : NzR (.mk k 0 [a, b]) := by
 have h1 := validT_size ha
 have h2 := validT_size hb
 refine ⟨?_, by simp only [Tm.size, sizes]; omega⟩
 simp only [nzT, nzL, hk, valid_nz ha, valid_nz hb]; rfl
theorem chain2 {α β : Type} {o : Option (Rs α)} {f : α → Option (Rs β)} {x : β} (h : bd o f = some (.ok x)) : ∃ a, o = some (.ok a) ∧ f a = some (.ok x) := by
 rcases bd_inv h with ⟨b, _, hb⟩ | h
 ·cases hb
 ·exact h
theorem ok_inj {α : Type} {a b : α} (h : (some (.ok a) : Option (Rs α)) = some (.ok b)) : a = b := by injection h with h; injection h
theorem kinds15 {d : Nat} {k n : Int} {ks : List Tm} (h : shape d (.mk k n ks) = true) (hn : ¬ (k = 3 ∨ k = 13) ∧ ¬ k = 4 ∧ ¬ k = 5 ∧ ¬ k = 9 ∧ ¬ k = 10 ∧ ¬ k = 12 ∧ ¬ k = 14 ∧ ¬ k = 1 ∧ ¬ k = 2 ∧ ¬ k = 6 ∧ ¬ k = 7 ∧ ¬ k = 8 ∧ ¬ k = 11) : k = 15 ∨ k = 16 := by
 obtain ⟨q, _, ha, _, _, _⟩ := shape_pos h
 unfold arity at ha
 repeat' split at ha
 all_goals omega
theorem kndR_nz {N : Nat} {ctx : List Tm} {k n : Int} {ks : List Tm} {o : Tm} (hv : validT (.mk k n ks) = true) (hvc : ∀ u, u ∈ ctx → validT u = true) (h : kndR (infR N) ctx (.mk k n ks) = some (.ok o)) : NzR o := by
 have leaf : ∀ (k' n' : Int), (k' != 0) = true → NzR (.mk k' n' []) := fun k' n' hk => ⟨by simp [nzT, nzL, hk], by simp [Tm.size, sizes]⟩
 have hkv : ∀ i, i < ks.length → validT (kidT ks i) = true := fun i hi => validT_kidT hv hi
 have hlen := validT_len2 hv
 rw [kndR] at h
 by_cases h3 : k = 3 ∨ k = 13
 ·rw [if_pos h3] at h
  obtain ⟨i, _, h⟩ := chain2 h
  obtain ⟨j, _, h⟩ := chain2 h
  have := ok_inj h; subst this; exact leaf _ _ rfl
 rw [if_neg h3] at h
 by_cases h4 : k = 4
 ·rw [if_pos h4] at h
  subst h4
  have h0 : arity 4 = 2 := rfl
  obtain ⟨i, _, h⟩ := chain2 h
  obtain ⟨u, hu, h⟩ := chain2 h
  obtain ⟨_, _, h⟩ := chain2 h
  have := ok_inj h; subst this; exact nzR_node rfl (hkv 0 (by omega)) (infR_valid hu)
 rw [if_neg h4] at h
 by_cases h5 : k = 5
 ·rw [if_pos h5] at h
  subst h5
  have h0 : arity 5 = 2 := rfl
  obtain ⟨hh, h1, h⟩ := chain2 h
  obtain ⟨_, _, h⟩ := chain2 h
  obtain ⟨hk, hvh⟩ := shpR_ok h1
  obtain ⟨kh, nh, sh⟩ := hh
  obtain rfl : kh = 3 := hk
  obtain ⟨_, _, _, _, _, _, rfl⟩ := kids2 (k := 3) rfl hvh
  have := ok_inj h; subst this
  have hu := hkv 1 (by omega)
  exact nzR_sb (valid_nz hu) (by have := validT_size hu; omega) (validT_kidT (i := 1) hvh (by show 1 < 2; omega))
 rw [if_neg h5] at h
 by_cases h9 : k = 9
 ·rw [if_pos h9] at h
  subst h9
  have h0 : arity 9 = 4 := rfl
  obtain ⟨_, _, h⟩ := chain2 h
  obtain ⟨_, _, h⟩ := chain2 h
  obtain ⟨_, _, h⟩ := chain2 h
  obtain ⟨_, _, h⟩ := chain2 h
  have := ok_inj h; subst this; exact nzR_node rfl (hkv 0 (by omega)) (hkv 3 (by omega))
 rw [if_neg h9] at h
 by_cases h10 : k = 10
 ·rw [if_pos h10] at h
  obtain ⟨_, _, h⟩ := chain2 h
  obtain ⟨_, _, h⟩ := chain2 h
  obtain ⟨_, _, h⟩ := chain2 h
  have := ok_inj h; subst this; exact leaf _ _ rfl
 rw [if_neg h10] at h
 by_cases h12 : k = 12
 ·rw [if_pos h12] at h
  subst h12
  have h0 : arity 12 = 3 := rfl
  obtain ⟨hh, h1, h⟩ := chain2 h
  obtain ⟨_, _, h⟩ := chain2 h
  obtain ⟨_, _, h⟩ := chain2 h
  obtain ⟨hk, hvh⟩ := shpR_ok h1
  obtain ⟨kh, nh, sh⟩ := hh
  obtain rfl : kh = 10 := hk
  obtain ⟨_, _, _, _, _, _, _, _, _, rfl⟩ := kids3 (k := 10) rfl hvh
  have := ok_inj h; subst this; exact nzR_node rfl (hkv 0 (by omega)) (validT_kidT (i := 2) hvh (by show 2 < 3; omega))
 rw [if_neg h12] at h
 by_cases h14 : k = 14
 ·rw [if_pos h14] at h
  subst h14
  have h0 : arity 14 = 3 := rfl
  obtain ⟨_, _, h⟩ := chain2 h
  obtain ⟨_, _, h⟩ := chain2 h
  obtain ⟨_, _, h⟩ := chain2 h
  obtain ⟨_, _, h⟩ := chain2 h
  obtain ⟨_, _, h⟩ := chain2 h
  have := ok_inj h; subst this; exact nzR_valid (hkv 0 (by omega))
 rw [if_neg h14] at h
 by_cases h1 : k = 1
 ·rw [if_pos h1] at h
  unfold varR at h
  split at h
  ·injection h with h; cases h
  ·rename_i hl
   have := ok_inj h; subst this
   obtain ⟨q, _, _, hn0, _, _⟩ := shape_pos (validT_shape30 hv)
   have hj : ctx.length - 1 - n.toNat < ctx.length := by omega
   have hvx := hvc _ (List.getElem_mem hj)
   rw [show ctx.getD (ctx.length - 1 - n.toNat) default = ctx[ctx.length - 1 - n.toNat] by simp [List.getD, List.getElem?_eq_getElem hj]]
   refine ⟨by rw [(shS_nz (n + 1)).1]; exact valid_nz hvx, by rw [shS_size]; have := validT_size hvx; omega⟩
 rw [if_neg h1] at h
 by_cases h2 : k = 2
 ·rw [if_pos h2] at h
  split at h
  ·injection h with h; cases h
  ·have := ok_inj h; subst this; exact leaf _ _ rfl
 rw [if_neg h2] at h
 by_cases h6 : k = 6
 ·rw [if_pos h6] at h
  have := ok_inj h; subst this; exact leaf _ _ rfl
 rw [if_neg h6] at h
 by_cases h7 : k = 7
 ·rw [if_pos h7] at h
  have := ok_inj h; subst this; exact leaf _ _ rfl
 rw [if_neg h7] at h
 by_cases h8 : k = 8
 ·rw [if_pos h8] at h
  obtain ⟨_, _, h⟩ := chain2 h
  have := ok_inj h; subst this; exact leaf _ _ rfl
 rw [if_neg h8] at h
 by_cases h11 : k = 11
 ·rw [if_pos h11] at h
  subst h11
  have h0 : arity 11 = 1 := rfl
  obtain ⟨s, hs, h⟩ := chain2 h
  obtain ⟨_, _, h⟩ := chain2 h
  have := ok_inj h; subst this
  have hva := hkv 0 (by omega)
  have hvs := infR_valid hs
  have z1 := validT_size hva
  have z2 := validT_size hvs
  exact ⟨by simp only [nzT, nzL, valid_nz hva, valid_nz hvs]; rfl, by simp only [Tm.size, sizes]; omega⟩
 rw [if_neg h11] at h
 obtain ⟨hh, hsx, h⟩ := chain2 h
 obtain ⟨hk, hvh⟩ := shpR_ok hsx
 obtain ⟨kh, nh, sh⟩ := hh
 obtain rfl : kh = 13 := hk
 obtain ⟨_, _, _, _, _, _, rfl⟩ := kids2 (k := 13) rfl hvh
 have hks : 0 < ks.length := by
  have ha := hlen
  have hm : k = 15 ∨ k = 16 := kinds15 (validT_shape30 hv) ⟨h3, h4, h5, h9, h10, h12, h14, h1, h2, h6, h7, h8, h11⟩
  rcases hm with rfl | rfl
  ·have h0 : arity 15 = 1 := rfl; omega
  ·have h0 : arity 16 = 1 := rfl; omega
 split at h
 ·have := ok_inj h; subst this; exact nzR_valid (validT_kidT (i := 0) hvh (by show 0 < 2; omega))
 ·have := ok_inj h; subst this
  have hu := hkv 0 hks
  have hz := validT_size hu
  exact nzR_sb (by simp only [nzT, nzL, valid_nz hu]; rfl) (by simp only [Tm.size, sizes]; omega) (validT_kidT (i := 1) hvh (by show 1 < 2; omega))
theorem rd_setN {w : World} {z : Nat} {k n : Int} {ks : List Tm} {A : Option Addr} (hZ : Blk w z #[.int .i64 0, .int .i64 0, .slice none 0 0]) (hv : nzT (.mk k n ks) = true) (hr : Rd w A 0 ks) (x y v : Value) :
  Rd (((w.setCell ⟨z, 0, none⟩ x).setCell ⟨z, 1, none⟩ y).setCell ⟨z, 2, none⟩ v) A 0 ks := by
 rw [nzT, Bool.and_eq_true] at hv
 exact (((((rdp_nz hZ).2 ks A 0 hv.2 hr).setCell (a := ⟨z, 0, none⟩) (fun h => h rfl) x).setCell (a := ⟨z, 1, none⟩) (fun h => h rfl) y).setCell (a := ⟨z, 2, none⟩) (fun h => h rfl) v).rd
set_option maxRecDepth 100000 in
set_option maxHeartbeats 8000000 in
theorem sSimpleP_any (ctx : List Tm) (C : Option Addr) (cc : Nat) (k n : Int) (ks : List Tm) (A : Option Addr) (c : Nat) (r : Rs Tm) (w : World) (q1 : (k == 1) = false) (q2 : (k == 2) = false) (q6 : (k == 6) = false) (q7 : (k == 7) = false) (q8 : (k == 8) = false) (q11 : (k == 11) = false) (hX : Hid (∀ (w : World), Rd w C 0 ctx → Rd w A 0 ks → Calls Try.prog 91 #[.slice C ctx.length cc, .agg #[.int .i64 k, .int .i64 n, .slice A ks.length c]] w (GtT w r))) (hnz : ∀ o, r = .ok o → nzT o = true) (hrc : Rd w C 0 ctx) (hra : Rd w A 0 ks) :
  Calls Try.prog 78 #[.slice C ctx.length cc, .agg #[.int .i64 k, .int .i64 n, .slice A ks.length c]] w (GtT w r) := by
 cases r with
 | ok o =>
  obtain ⟨k1, n1, s1⟩ := o
  replace hnz := hnz _ rfl
  go_enter Try.func78, Try.ntmps78
  go_wp2_with (go_at_call 91; refine (hX.out _ ((hrc.alloc _).alloc _) ((hra.alloc _).alloc _)).mono ?_; rintro e w1 ⟨A1, c1, rfl, hl1, r1, hb1⟩; have hZ1 : Blk w1 (w.heap.size + 1) #[.int .i64 0, .int .i64 0, .slice none 0 0] := (Blk.new_ _ 25 #[.int .i64 0, .int .i64 0, .slice none 0 0] (by simp)).keep hb1; have g1 : Below w.heap.size w w1 := (((Below.refl _ _).alloc (by simp <;> omega) _).alloc (by simp <;> omega) _).trans (hb1.mono (by simp <;> omega)); obtain ⟨d0, d1, d2⟩ := hZ1.three; have e0 := hZ1.frozen 0; have e1 := hZ1.frozen 1; have e2 := hZ1.frozen 2; have lz := hZ1.lt)
  refine bodyPost_ret (v := .tuple #[.agg #[.int .i64 k1, .int .i64 n1, .slice A1 s1.length c1], .int .i64 0]) (by simp [results, Try.results78, go_sem, d0, d1, d2]) rfl ⟨A1, c1, rfl, hl1, rd_setN hZ1 hnz r1 _ _ _, ?_⟩
  exact ((g1.setCell (by simp <;> omega) _).setCell (by simp <;> omega) _).setCell (by simp <;> omega) _
 | no b =>
  clear hnz
  go_enter Try.func78, Try.ntmps78
  go_wp2_with (go_at_call 91; refine (hX.out _ ((hrc.alloc _).alloc _) ((hra.alloc _).alloc _)).mono ?_; rintro e w1 ⟨k1, n1, A1, l1, c1, rfl, hb1⟩; have hZ1 : Blk w1 (w.heap.size + 1) #[.int .i64 0, .int .i64 0, .slice none 0 0] := (Blk.new_ _ 25 #[.int .i64 0, .int .i64 0, .slice none 0 0] (by simp)).keep hb1; have g1 : Below w.heap.size w w1 := (((Below.refl _ _).alloc (by simp <;> omega) _).alloc (by simp <;> omega) _).trans (hb1.mono (by simp <;> omega)); obtain ⟨d0, d1, d2⟩ := hZ1.three; have e0 := hZ1.frozen 0; have e1 := hZ1.frozen 1; have e2 := hZ1.frozen 2; have lz := hZ1.lt)
  refine bodyPost_ret (v := .tuple #[.agg #[.int .i64 k1, .int .i64 n1, .slice A1 l1 c1], .int .i64 (cdB b)]) (by simp [results, Try.results78, go_sem, d0, d1, d2]) rfl ⟨k1, n1, A1, l1, c1, rfl, ?_⟩
  exact ((g1.setCell (by simp <;> omega) _).setCell (by simp <;> omega) _).setCell (by simp <;> omega) _
set_option maxRecDepth 100000 in
set_option maxHeartbeats 8000000 in
theorem sKind71 (ctx : List Tm) (C : Option Addr) (cc : Nat) (k n : Int) (ks : List Tm) (A : Option Addr) (c : Nat) (r : Rs Tm) (w : World) (hk : ((k == 3) = true) ∨ ((k == 3) = false ∧ (k == 13) = true)) (hX : Hid (∀ (w : World), Rd w C 0 ctx → Rd w A 0 ks → Calls Try.prog 71 #[.slice C ctx.length cc, .agg #[.int .i64 k, .int .i64 n, .slice A ks.length c]] w (GtT w r))) (hnz : ∀ o, r = .ok o → nzT o = true) (hrc : Rd w C 0 ctx) (hra : Rd w A 0 ks) :
  Calls Try.prog 63 #[.slice C ctx.length cc, .agg #[.int .i64 k, .int .i64 n, .slice A ks.length c]] w (GtT w r) := by
 rcases hk with q3 | ⟨q3, q13⟩
 ·cases r with
   | ok o =>
    obtain ⟨k1, n1, s1⟩ := o
    replace hnz := hnz _ rfl
    go_enter Try.func63, Try.ntmps63
    go_wp2_with (go_at_call 71; refine (hX.out _ ((hrc.alloc _).alloc _) ((hra.alloc _).alloc _)).mono ?_; rintro e w1 ⟨A1, c1, rfl, hl1, r1, hb1⟩; have hZ1 : Blk w1 (w.heap.size + 1) #[.int .i64 0, .int .i64 0, .slice none 0 0] := (Blk.new_ _ 25 #[.int .i64 0, .int .i64 0, .slice none 0 0] (by simp)).keep hb1; have g1 : Below w.heap.size w w1 := (((Below.refl _ _).alloc (by simp <;> omega) _).alloc (by simp <;> omega) _).trans (hb1.mono (by simp <;> omega)); obtain ⟨d0, d1, d2⟩ := hZ1.three; have e0 := hZ1.frozen 0; have e1 := hZ1.frozen 1; have e2 := hZ1.frozen 2; have lz := hZ1.lt)
    refine bodyPost_ret (v := .tuple #[.agg #[.int .i64 k1, .int .i64 n1, .slice A1 s1.length c1], .int .i64 0]) (by simp [results, Try.results63, go_sem, d0, d1, d2]) rfl ⟨A1, c1, rfl, hl1, rd_setN hZ1 hnz r1 _ _ _, ?_⟩
    exact ((g1.setCell (by simp <;> omega) _).setCell (by simp <;> omega) _).setCell (by simp <;> omega) _
   | no b =>
    clear hnz
    go_enter Try.func63, Try.ntmps63
    go_wp2_with (go_at_call 71; refine (hX.out _ ((hrc.alloc _).alloc _) ((hra.alloc _).alloc _)).mono ?_; rintro e w1 ⟨k1, n1, A1, l1, c1, rfl, hb1⟩; have hZ1 : Blk w1 (w.heap.size + 1) #[.int .i64 0, .int .i64 0, .slice none 0 0] := (Blk.new_ _ 25 #[.int .i64 0, .int .i64 0, .slice none 0 0] (by simp)).keep hb1; have g1 : Below w.heap.size w w1 := (((Below.refl _ _).alloc (by simp <;> omega) _).alloc (by simp <;> omega) _).trans (hb1.mono (by simp <;> omega)); obtain ⟨d0, d1, d2⟩ := hZ1.three; have e0 := hZ1.frozen 0; have e1 := hZ1.frozen 1; have e2 := hZ1.frozen 2; have lz := hZ1.lt)
    refine bodyPost_ret (v := .tuple #[.agg #[.int .i64 k1, .int .i64 n1, .slice A1 l1 c1], .int .i64 (cdB b)]) (by simp [results, Try.results63, go_sem, d0, d1, d2]) rfl ⟨k1, n1, A1, l1, c1, rfl, ?_⟩
    exact ((g1.setCell (by simp <;> omega) _).setCell (by simp <;> omega) _).setCell (by simp <;> omega) _
 ·cases r with
   | ok o =>
    obtain ⟨k1, n1, s1⟩ := o
    replace hnz := hnz _ rfl
    go_enter Try.func63, Try.ntmps63
    go_wp2_with (go_at_call 71; refine (hX.out _ ((hrc.alloc _).alloc _) ((hra.alloc _).alloc _)).mono ?_; rintro e w1 ⟨A1, c1, rfl, hl1, r1, hb1⟩; have hZ1 : Blk w1 (w.heap.size + 1) #[.int .i64 0, .int .i64 0, .slice none 0 0] := (Blk.new_ _ 25 #[.int .i64 0, .int .i64 0, .slice none 0 0] (by simp)).keep hb1; have g1 : Below w.heap.size w w1 := (((Below.refl _ _).alloc (by simp <;> omega) _).alloc (by simp <;> omega) _).trans (hb1.mono (by simp <;> omega)); obtain ⟨d0, d1, d2⟩ := hZ1.three; have e0 := hZ1.frozen 0; have e1 := hZ1.frozen 1; have e2 := hZ1.frozen 2; have lz := hZ1.lt)
    refine bodyPost_ret (v := .tuple #[.agg #[.int .i64 k1, .int .i64 n1, .slice A1 s1.length c1], .int .i64 0]) (by simp [results, Try.results63, go_sem, d0, d1, d2]) rfl ⟨A1, c1, rfl, hl1, rd_setN hZ1 hnz r1 _ _ _, ?_⟩
    exact ((g1.setCell (by simp <;> omega) _).setCell (by simp <;> omega) _).setCell (by simp <;> omega) _
   | no b =>
    clear hnz
    go_enter Try.func63, Try.ntmps63
    go_wp2_with (go_at_call 71; refine (hX.out _ ((hrc.alloc _).alloc _) ((hra.alloc _).alloc _)).mono ?_; rintro e w1 ⟨k1, n1, A1, l1, c1, rfl, hb1⟩; have hZ1 : Blk w1 (w.heap.size + 1) #[.int .i64 0, .int .i64 0, .slice none 0 0] := (Blk.new_ _ 25 #[.int .i64 0, .int .i64 0, .slice none 0 0] (by simp)).keep hb1; have g1 : Below w.heap.size w w1 := (((Below.refl _ _).alloc (by simp <;> omega) _).alloc (by simp <;> omega) _).trans (hb1.mono (by simp <;> omega)); obtain ⟨d0, d1, d2⟩ := hZ1.three; have e0 := hZ1.frozen 0; have e1 := hZ1.frozen 1; have e2 := hZ1.frozen 2; have lz := hZ1.lt)
    refine bodyPost_ret (v := .tuple #[.agg #[.int .i64 k1, .int .i64 n1, .slice A1 l1 c1], .int .i64 (cdB b)]) (by simp [results, Try.results63, go_sem, d0, d1, d2]) rfl ⟨k1, n1, A1, l1, c1, rfl, ?_⟩
    exact ((g1.setCell (by simp <;> omega) _).setCell (by simp <;> omega) _).setCell (by simp <;> omega) _
set_option maxRecDepth 100000 in
set_option maxHeartbeats 8000000 in
theorem sKind72 (ctx : List Tm) (C : Option Addr) (cc : Nat) (k n : Int) (ks : List Tm) (A : Option Addr) (c : Nat) (r : Rs Tm) (w : World) (q3 : (k == 3) = false) (q13 : (k == 13) = false) (qk : (k == 4) = true) (hX : Hid (∀ (w : World), Rd w C 0 ctx → Rd w A 0 ks → Calls Try.prog 72 #[.slice C ctx.length cc, .agg #[.int .i64 k, .int .i64 n, .slice A ks.length c]] w (GtT w r))) (hnz : ∀ o, r = .ok o → nzT o = true) (hrc : Rd w C 0 ctx) (hra : Rd w A 0 ks) :
  Calls Try.prog 63 #[.slice C ctx.length cc, .agg #[.int .i64 k, .int .i64 n, .slice A ks.length c]] w (GtT w r) := by
 cases r with
 | ok o =>
  obtain ⟨k1, n1, s1⟩ := o
  replace hnz := hnz _ rfl
  go_enter Try.func63, Try.ntmps63
  go_wp2_with (go_at_call 72; refine (hX.out _ ((hrc.alloc _).alloc _) ((hra.alloc _).alloc _)).mono ?_; rintro e w1 ⟨A1, c1, rfl, hl1, r1, hb1⟩; have hZ1 : Blk w1 (w.heap.size + 1) #[.int .i64 0, .int .i64 0, .slice none 0 0] := (Blk.new_ _ 25 #[.int .i64 0, .int .i64 0, .slice none 0 0] (by simp)).keep hb1; have g1 : Below w.heap.size w w1 := (((Below.refl _ _).alloc (by simp <;> omega) _).alloc (by simp <;> omega) _).trans (hb1.mono (by simp <;> omega)); obtain ⟨d0, d1, d2⟩ := hZ1.three; have e0 := hZ1.frozen 0; have e1 := hZ1.frozen 1; have e2 := hZ1.frozen 2; have lz := hZ1.lt)
  refine bodyPost_ret (v := .tuple #[.agg #[.int .i64 k1, .int .i64 n1, .slice A1 s1.length c1], .int .i64 0]) (by simp [results, Try.results63, go_sem, d0, d1, d2]) rfl ⟨A1, c1, rfl, hl1, rd_setN hZ1 hnz r1 _ _ _, ?_⟩
  exact ((g1.setCell (by simp <;> omega) _).setCell (by simp <;> omega) _).setCell (by simp <;> omega) _
 | no b =>
  clear hnz
  go_enter Try.func63, Try.ntmps63
  go_wp2_with (go_at_call 72; refine (hX.out _ ((hrc.alloc _).alloc _) ((hra.alloc _).alloc _)).mono ?_; rintro e w1 ⟨k1, n1, A1, l1, c1, rfl, hb1⟩; have hZ1 : Blk w1 (w.heap.size + 1) #[.int .i64 0, .int .i64 0, .slice none 0 0] := (Blk.new_ _ 25 #[.int .i64 0, .int .i64 0, .slice none 0 0] (by simp)).keep hb1; have g1 : Below w.heap.size w w1 := (((Below.refl _ _).alloc (by simp <;> omega) _).alloc (by simp <;> omega) _).trans (hb1.mono (by simp <;> omega)); obtain ⟨d0, d1, d2⟩ := hZ1.three; have e0 := hZ1.frozen 0; have e1 := hZ1.frozen 1; have e2 := hZ1.frozen 2; have lz := hZ1.lt)
  refine bodyPost_ret (v := .tuple #[.agg #[.int .i64 k1, .int .i64 n1, .slice A1 l1 c1], .int .i64 (cdB b)]) (by simp [results, Try.results63, go_sem, d0, d1, d2]) rfl ⟨k1, n1, A1, l1, c1, rfl, ?_⟩
  exact ((g1.setCell (by simp <;> omega) _).setCell (by simp <;> omega) _).setCell (by simp <;> omega) _
set_option maxRecDepth 100000 in
set_option maxHeartbeats 8000000 in
theorem sKind73 (ctx : List Tm) (C : Option Addr) (cc : Nat) (k n : Int) (ks : List Tm) (A : Option Addr) (c : Nat) (r : Rs Tm) (w : World) (q3 : (k == 3) = false) (q13 : (k == 13) = false) (q4 : (k == 4) = false) (qk : (k == 5) = true) (hX : Hid (∀ (w : World), Rd w C 0 ctx → Rd w A 0 ks → Calls Try.prog 73 #[.slice C ctx.length cc, .agg #[.int .i64 k, .int .i64 n, .slice A ks.length c]] w (GtT w r))) (hnz : ∀ o, r = .ok o → nzT o = true) (hrc : Rd w C 0 ctx) (hra : Rd w A 0 ks) :
  Calls Try.prog 63 #[.slice C ctx.length cc, .agg #[.int .i64 k, .int .i64 n, .slice A ks.length c]] w (GtT w r) := by
 cases r with
 | ok o =>
  obtain ⟨k1, n1, s1⟩ := o
  replace hnz := hnz _ rfl
  go_enter Try.func63, Try.ntmps63
  go_wp2_with (go_at_call 73; refine (hX.out _ ((hrc.alloc _).alloc _) ((hra.alloc _).alloc _)).mono ?_; rintro e w1 ⟨A1, c1, rfl, hl1, r1, hb1⟩; have hZ1 : Blk w1 (w.heap.size + 1) #[.int .i64 0, .int .i64 0, .slice none 0 0] := (Blk.new_ _ 25 #[.int .i64 0, .int .i64 0, .slice none 0 0] (by simp)).keep hb1; have g1 : Below w.heap.size w w1 := (((Below.refl _ _).alloc (by simp <;> omega) _).alloc (by simp <;> omega) _).trans (hb1.mono (by simp <;> omega)); obtain ⟨d0, d1, d2⟩ := hZ1.three; have e0 := hZ1.frozen 0; have e1 := hZ1.frozen 1; have e2 := hZ1.frozen 2; have lz := hZ1.lt)
  refine bodyPost_ret (v := .tuple #[.agg #[.int .i64 k1, .int .i64 n1, .slice A1 s1.length c1], .int .i64 0]) (by simp [results, Try.results63, go_sem, d0, d1, d2]) rfl ⟨A1, c1, rfl, hl1, rd_setN hZ1 hnz r1 _ _ _, ?_⟩
  exact ((g1.setCell (by simp <;> omega) _).setCell (by simp <;> omega) _).setCell (by simp <;> omega) _
 | no b =>
  clear hnz
  go_enter Try.func63, Try.ntmps63
  go_wp2_with (go_at_call 73; refine (hX.out _ ((hrc.alloc _).alloc _) ((hra.alloc _).alloc _)).mono ?_; rintro e w1 ⟨k1, n1, A1, l1, c1, rfl, hb1⟩; have hZ1 : Blk w1 (w.heap.size + 1) #[.int .i64 0, .int .i64 0, .slice none 0 0] := (Blk.new_ _ 25 #[.int .i64 0, .int .i64 0, .slice none 0 0] (by simp)).keep hb1; have g1 : Below w.heap.size w w1 := (((Below.refl _ _).alloc (by simp <;> omega) _).alloc (by simp <;> omega) _).trans (hb1.mono (by simp <;> omega)); obtain ⟨d0, d1, d2⟩ := hZ1.three; have e0 := hZ1.frozen 0; have e1 := hZ1.frozen 1; have e2 := hZ1.frozen 2; have lz := hZ1.lt)
  refine bodyPost_ret (v := .tuple #[.agg #[.int .i64 k1, .int .i64 n1, .slice A1 l1 c1], .int .i64 (cdB b)]) (by simp [results, Try.results63, go_sem, d0, d1, d2]) rfl ⟨k1, n1, A1, l1, c1, rfl, ?_⟩
  exact ((g1.setCell (by simp <;> omega) _).setCell (by simp <;> omega) _).setCell (by simp <;> omega) _
set_option maxRecDepth 100000 in
set_option maxHeartbeats 8000000 in
theorem sKind74 (ctx : List Tm) (C : Option Addr) (cc : Nat) (k n : Int) (ks : List Tm) (A : Option Addr) (c : Nat) (r : Rs Tm) (w : World) (q3 : (k == 3) = false) (q13 : (k == 13) = false) (q4 : (k == 4) = false) (q5 : (k == 5) = false) (qk : (k == 9) = true) (hX : Hid (∀ (w : World), Rd w C 0 ctx → Rd w A 0 ks → Calls Try.prog 74 #[.slice C ctx.length cc, .agg #[.int .i64 k, .int .i64 n, .slice A ks.length c]] w (GtT w r))) (hnz : ∀ o, r = .ok o → nzT o = true) (hrc : Rd w C 0 ctx) (hra : Rd w A 0 ks) :
  Calls Try.prog 63 #[.slice C ctx.length cc, .agg #[.int .i64 k, .int .i64 n, .slice A ks.length c]] w (GtT w r) := by
 cases r with
 | ok o =>
  obtain ⟨k1, n1, s1⟩ := o
  replace hnz := hnz _ rfl
  go_enter Try.func63, Try.ntmps63
  go_wp2_with (go_at_call 74; refine (hX.out _ ((hrc.alloc _).alloc _) ((hra.alloc _).alloc _)).mono ?_; rintro e w1 ⟨A1, c1, rfl, hl1, r1, hb1⟩; have hZ1 : Blk w1 (w.heap.size + 1) #[.int .i64 0, .int .i64 0, .slice none 0 0] := (Blk.new_ _ 25 #[.int .i64 0, .int .i64 0, .slice none 0 0] (by simp)).keep hb1; have g1 : Below w.heap.size w w1 := (((Below.refl _ _).alloc (by simp <;> omega) _).alloc (by simp <;> omega) _).trans (hb1.mono (by simp <;> omega)); obtain ⟨d0, d1, d2⟩ := hZ1.three; have e0 := hZ1.frozen 0; have e1 := hZ1.frozen 1; have e2 := hZ1.frozen 2; have lz := hZ1.lt)
  refine bodyPost_ret (v := .tuple #[.agg #[.int .i64 k1, .int .i64 n1, .slice A1 s1.length c1], .int .i64 0]) (by simp [results, Try.results63, go_sem, d0, d1, d2]) rfl ⟨A1, c1, rfl, hl1, rd_setN hZ1 hnz r1 _ _ _, ?_⟩
  exact ((g1.setCell (by simp <;> omega) _).setCell (by simp <;> omega) _).setCell (by simp <;> omega) _
 | no b =>
  clear hnz
  go_enter Try.func63, Try.ntmps63
  go_wp2_with (go_at_call 74; refine (hX.out _ ((hrc.alloc _).alloc _) ((hra.alloc _).alloc _)).mono ?_; rintro e w1 ⟨k1, n1, A1, l1, c1, rfl, hb1⟩; have hZ1 : Blk w1 (w.heap.size + 1) #[.int .i64 0, .int .i64 0, .slice none 0 0] := (Blk.new_ _ 25 #[.int .i64 0, .int .i64 0, .slice none 0 0] (by simp)).keep hb1; have g1 : Below w.heap.size w w1 := (((Below.refl _ _).alloc (by simp <;> omega) _).alloc (by simp <;> omega) _).trans (hb1.mono (by simp <;> omega)); obtain ⟨d0, d1, d2⟩ := hZ1.three; have e0 := hZ1.frozen 0; have e1 := hZ1.frozen 1; have e2 := hZ1.frozen 2; have lz := hZ1.lt)
  refine bodyPost_ret (v := .tuple #[.agg #[.int .i64 k1, .int .i64 n1, .slice A1 l1 c1], .int .i64 (cdB b)]) (by simp [results, Try.results63, go_sem, d0, d1, d2]) rfl ⟨k1, n1, A1, l1, c1, rfl, ?_⟩
  exact ((g1.setCell (by simp <;> omega) _).setCell (by simp <;> omega) _).setCell (by simp <;> omega) _
set_option maxRecDepth 100000 in
set_option maxHeartbeats 8000000 in
theorem sKind75 (ctx : List Tm) (C : Option Addr) (cc : Nat) (k n : Int) (ks : List Tm) (A : Option Addr) (c : Nat) (r : Rs Tm) (w : World) (q3 : (k == 3) = false) (q13 : (k == 13) = false) (q4 : (k == 4) = false) (q5 : (k == 5) = false) (q9 : (k == 9) = false) (qk : (k == 10) = true) (hX : Hid (∀ (w : World), Rd w C 0 ctx → Rd w A 0 ks → Calls Try.prog 75 #[.slice C ctx.length cc, .agg #[.int .i64 k, .int .i64 n, .slice A ks.length c]] w (GtT w r))) (hnz : ∀ o, r = .ok o → nzT o = true) (hrc : Rd w C 0 ctx) (hra : Rd w A 0 ks) :
  Calls Try.prog 63 #[.slice C ctx.length cc, .agg #[.int .i64 k, .int .i64 n, .slice A ks.length c]] w (GtT w r) := by
 cases r with
 | ok o =>
  obtain ⟨k1, n1, s1⟩ := o
  replace hnz := hnz _ rfl
  go_enter Try.func63, Try.ntmps63
  go_wp2_with (go_at_call 75; refine (hX.out _ ((hrc.alloc _).alloc _) ((hra.alloc _).alloc _)).mono ?_; rintro e w1 ⟨A1, c1, rfl, hl1, r1, hb1⟩; have hZ1 : Blk w1 (w.heap.size + 1) #[.int .i64 0, .int .i64 0, .slice none 0 0] := (Blk.new_ _ 25 #[.int .i64 0, .int .i64 0, .slice none 0 0] (by simp)).keep hb1; have g1 : Below w.heap.size w w1 := (((Below.refl _ _).alloc (by simp <;> omega) _).alloc (by simp <;> omega) _).trans (hb1.mono (by simp <;> omega)); obtain ⟨d0, d1, d2⟩ := hZ1.three; have e0 := hZ1.frozen 0; have e1 := hZ1.frozen 1; have e2 := hZ1.frozen 2; have lz := hZ1.lt)
  refine bodyPost_ret (v := .tuple #[.agg #[.int .i64 k1, .int .i64 n1, .slice A1 s1.length c1], .int .i64 0]) (by simp [results, Try.results63, go_sem, d0, d1, d2]) rfl ⟨A1, c1, rfl, hl1, rd_setN hZ1 hnz r1 _ _ _, ?_⟩
  exact ((g1.setCell (by simp <;> omega) _).setCell (by simp <;> omega) _).setCell (by simp <;> omega) _
 | no b =>
  clear hnz
  go_enter Try.func63, Try.ntmps63
  go_wp2_with (go_at_call 75; refine (hX.out _ ((hrc.alloc _).alloc _) ((hra.alloc _).alloc _)).mono ?_; rintro e w1 ⟨k1, n1, A1, l1, c1, rfl, hb1⟩; have hZ1 : Blk w1 (w.heap.size + 1) #[.int .i64 0, .int .i64 0, .slice none 0 0] := (Blk.new_ _ 25 #[.int .i64 0, .int .i64 0, .slice none 0 0] (by simp)).keep hb1; have g1 : Below w.heap.size w w1 := (((Below.refl _ _).alloc (by simp <;> omega) _).alloc (by simp <;> omega) _).trans (hb1.mono (by simp <;> omega)); obtain ⟨d0, d1, d2⟩ := hZ1.three; have e0 := hZ1.frozen 0; have e1 := hZ1.frozen 1; have e2 := hZ1.frozen 2; have lz := hZ1.lt)
  refine bodyPost_ret (v := .tuple #[.agg #[.int .i64 k1, .int .i64 n1, .slice A1 l1 c1], .int .i64 (cdB b)]) (by simp [results, Try.results63, go_sem, d0, d1, d2]) rfl ⟨k1, n1, A1, l1, c1, rfl, ?_⟩
  exact ((g1.setCell (by simp <;> omega) _).setCell (by simp <;> omega) _).setCell (by simp <;> omega) _
set_option maxRecDepth 100000 in
set_option maxHeartbeats 8000000 in
theorem sKind76 (ctx : List Tm) (C : Option Addr) (cc : Nat) (k n : Int) (ks : List Tm) (A : Option Addr) (c : Nat) (r : Rs Tm) (w : World) (q3 : (k == 3) = false) (q13 : (k == 13) = false) (q4 : (k == 4) = false) (q5 : (k == 5) = false) (q9 : (k == 9) = false) (q10 : (k == 10) = false) (qk : (k == 12) = true) (hX : Hid (∀ (w : World), Rd w C 0 ctx → Rd w A 0 ks → Calls Try.prog 76 #[.slice C ctx.length cc, .agg #[.int .i64 k, .int .i64 n, .slice A ks.length c]] w (GtT w r))) (hnz : ∀ o, r = .ok o → nzT o = true) (hrc : Rd w C 0 ctx) (hra : Rd w A 0 ks) :
  Calls Try.prog 63 #[.slice C ctx.length cc, .agg #[.int .i64 k, .int .i64 n, .slice A ks.length c]] w (GtT w r) := by
 cases r with
 | ok o =>
  obtain ⟨k1, n1, s1⟩ := o
  replace hnz := hnz _ rfl
  go_enter Try.func63, Try.ntmps63
  go_wp2_with (go_at_call 76; refine (hX.out _ ((hrc.alloc _).alloc _) ((hra.alloc _).alloc _)).mono ?_; rintro e w1 ⟨A1, c1, rfl, hl1, r1, hb1⟩; have hZ1 : Blk w1 (w.heap.size + 1) #[.int .i64 0, .int .i64 0, .slice none 0 0] := (Blk.new_ _ 25 #[.int .i64 0, .int .i64 0, .slice none 0 0] (by simp)).keep hb1; have g1 : Below w.heap.size w w1 := (((Below.refl _ _).alloc (by simp <;> omega) _).alloc (by simp <;> omega) _).trans (hb1.mono (by simp <;> omega)); obtain ⟨d0, d1, d2⟩ := hZ1.three; have e0 := hZ1.frozen 0; have e1 := hZ1.frozen 1; have e2 := hZ1.frozen 2; have lz := hZ1.lt)
  refine bodyPost_ret (v := .tuple #[.agg #[.int .i64 k1, .int .i64 n1, .slice A1 s1.length c1], .int .i64 0]) (by simp [results, Try.results63, go_sem, d0, d1, d2]) rfl ⟨A1, c1, rfl, hl1, rd_setN hZ1 hnz r1 _ _ _, ?_⟩
  exact ((g1.setCell (by simp <;> omega) _).setCell (by simp <;> omega) _).setCell (by simp <;> omega) _
 | no b =>
  clear hnz
  go_enter Try.func63, Try.ntmps63
  go_wp2_with (go_at_call 76; refine (hX.out _ ((hrc.alloc _).alloc _) ((hra.alloc _).alloc _)).mono ?_; rintro e w1 ⟨k1, n1, A1, l1, c1, rfl, hb1⟩; have hZ1 : Blk w1 (w.heap.size + 1) #[.int .i64 0, .int .i64 0, .slice none 0 0] := (Blk.new_ _ 25 #[.int .i64 0, .int .i64 0, .slice none 0 0] (by simp)).keep hb1; have g1 : Below w.heap.size w w1 := (((Below.refl _ _).alloc (by simp <;> omega) _).alloc (by simp <;> omega) _).trans (hb1.mono (by simp <;> omega)); obtain ⟨d0, d1, d2⟩ := hZ1.three; have e0 := hZ1.frozen 0; have e1 := hZ1.frozen 1; have e2 := hZ1.frozen 2; have lz := hZ1.lt)
  refine bodyPost_ret (v := .tuple #[.agg #[.int .i64 k1, .int .i64 n1, .slice A1 l1 c1], .int .i64 (cdB b)]) (by simp [results, Try.results63, go_sem, d0, d1, d2]) rfl ⟨k1, n1, A1, l1, c1, rfl, ?_⟩
  exact ((g1.setCell (by simp <;> omega) _).setCell (by simp <;> omega) _).setCell (by simp <;> omega) _
set_option maxRecDepth 100000 in
set_option maxHeartbeats 8000000 in
theorem sKind77 (ctx : List Tm) (C : Option Addr) (cc : Nat) (k n : Int) (ks : List Tm) (A : Option Addr) (c : Nat) (r : Rs Tm) (w : World) (q3 : (k == 3) = false) (q13 : (k == 13) = false) (q4 : (k == 4) = false) (q5 : (k == 5) = false) (q9 : (k == 9) = false) (q10 : (k == 10) = false) (q12 : (k == 12) = false) (qk : (k == 14) = true) (hX : Hid (∀ (w : World), Rd w C 0 ctx → Rd w A 0 ks → Calls Try.prog 77 #[.slice C ctx.length cc, .agg #[.int .i64 k, .int .i64 n, .slice A ks.length c]] w (GtT w r))) (hnz : ∀ o, r = .ok o → nzT o = true) (hrc : Rd w C 0 ctx) (hra : Rd w A 0 ks) :
  Calls Try.prog 63 #[.slice C ctx.length cc, .agg #[.int .i64 k, .int .i64 n, .slice A ks.length c]] w (GtT w r) := by
 cases r with
 | ok o =>
  obtain ⟨k1, n1, s1⟩ := o
  replace hnz := hnz _ rfl
  go_enter Try.func63, Try.ntmps63
  go_wp2_with (go_at_call 77; refine (hX.out _ ((hrc.alloc _).alloc _) ((hra.alloc _).alloc _)).mono ?_; rintro e w1 ⟨A1, c1, rfl, hl1, r1, hb1⟩; have hZ1 : Blk w1 (w.heap.size + 1) #[.int .i64 0, .int .i64 0, .slice none 0 0] := (Blk.new_ _ 25 #[.int .i64 0, .int .i64 0, .slice none 0 0] (by simp)).keep hb1; have g1 : Below w.heap.size w w1 := (((Below.refl _ _).alloc (by simp <;> omega) _).alloc (by simp <;> omega) _).trans (hb1.mono (by simp <;> omega)); obtain ⟨d0, d1, d2⟩ := hZ1.three; have e0 := hZ1.frozen 0; have e1 := hZ1.frozen 1; have e2 := hZ1.frozen 2; have lz := hZ1.lt)
  refine bodyPost_ret (v := .tuple #[.agg #[.int .i64 k1, .int .i64 n1, .slice A1 s1.length c1], .int .i64 0]) (by simp [results, Try.results63, go_sem, d0, d1, d2]) rfl ⟨A1, c1, rfl, hl1, rd_setN hZ1 hnz r1 _ _ _, ?_⟩
  exact ((g1.setCell (by simp <;> omega) _).setCell (by simp <;> omega) _).setCell (by simp <;> omega) _
 | no b =>
  clear hnz
  go_enter Try.func63, Try.ntmps63
  go_wp2_with (go_at_call 77; refine (hX.out _ ((hrc.alloc _).alloc _) ((hra.alloc _).alloc _)).mono ?_; rintro e w1 ⟨k1, n1, A1, l1, c1, rfl, hb1⟩; have hZ1 : Blk w1 (w.heap.size + 1) #[.int .i64 0, .int .i64 0, .slice none 0 0] := (Blk.new_ _ 25 #[.int .i64 0, .int .i64 0, .slice none 0 0] (by simp)).keep hb1; have g1 : Below w.heap.size w w1 := (((Below.refl _ _).alloc (by simp <;> omega) _).alloc (by simp <;> omega) _).trans (hb1.mono (by simp <;> omega)); obtain ⟨d0, d1, d2⟩ := hZ1.three; have e0 := hZ1.frozen 0; have e1 := hZ1.frozen 1; have e2 := hZ1.frozen 2; have lz := hZ1.lt)
  refine bodyPost_ret (v := .tuple #[.agg #[.int .i64 k1, .int .i64 n1, .slice A1 l1 c1], .int .i64 (cdB b)]) (by simp [results, Try.results63, go_sem, d0, d1, d2]) rfl ⟨k1, n1, A1, l1, c1, rfl, ?_⟩
  exact ((g1.setCell (by simp <;> omega) _).setCell (by simp <;> omega) _).setCell (by simp <;> omega) _
set_option maxRecDepth 100000 in
set_option maxHeartbeats 8000000 in
theorem sKind78 (ctx : List Tm) (C : Option Addr) (cc : Nat) (k n : Int) (ks : List Tm) (A : Option Addr) (c : Nat) (r : Rs Tm) (w : World) (q3 : (k == 3) = false) (q13 : (k == 13) = false) (q4 : (k == 4) = false) (q5 : (k == 5) = false) (q9 : (k == 9) = false) (q10 : (k == 10) = false) (q12 : (k == 12) = false) (q14 : (k == 14) = false) (hX : Hid (∀ (w : World), Rd w C 0 ctx → Rd w A 0 ks → Calls Try.prog 78 #[.slice C ctx.length cc, .agg #[.int .i64 k, .int .i64 n, .slice A ks.length c]] w (GtT w r))) (hnz : ∀ o, r = .ok o → nzT o = true) (hrc : Rd w C 0 ctx) (hra : Rd w A 0 ks) :
  Calls Try.prog 63 #[.slice C ctx.length cc, .agg #[.int .i64 k, .int .i64 n, .slice A ks.length c]] w (GtT w r) := by
 cases r with
 | ok o =>
  obtain ⟨k1, n1, s1⟩ := o
  replace hnz := hnz _ rfl
  go_enter Try.func63, Try.ntmps63
  go_wp2_with (go_at_call 78; refine (hX.out _ ((hrc.alloc _).alloc _) ((hra.alloc _).alloc _)).mono ?_; rintro e w1 ⟨A1, c1, rfl, hl1, r1, hb1⟩; have hZ1 : Blk w1 (w.heap.size + 1) #[.int .i64 0, .int .i64 0, .slice none 0 0] := (Blk.new_ _ 25 #[.int .i64 0, .int .i64 0, .slice none 0 0] (by simp)).keep hb1; have g1 : Below w.heap.size w w1 := (((Below.refl _ _).alloc (by simp <;> omega) _).alloc (by simp <;> omega) _).trans (hb1.mono (by simp <;> omega)); obtain ⟨d0, d1, d2⟩ := hZ1.three; have e0 := hZ1.frozen 0; have e1 := hZ1.frozen 1; have e2 := hZ1.frozen 2; have lz := hZ1.lt)
  refine bodyPost_ret (v := .tuple #[.agg #[.int .i64 k1, .int .i64 n1, .slice A1 s1.length c1], .int .i64 0]) (by simp [results, Try.results63, go_sem, d0, d1, d2]) rfl ⟨A1, c1, rfl, hl1, rd_setN hZ1 hnz r1 _ _ _, ?_⟩
  exact ((g1.setCell (by simp <;> omega) _).setCell (by simp <;> omega) _).setCell (by simp <;> omega) _
 | no b =>
  clear hnz
  go_enter Try.func63, Try.ntmps63
  go_wp2_with (go_at_call 78; refine (hX.out _ ((hrc.alloc _).alloc _) ((hra.alloc _).alloc _)).mono ?_; rintro e w1 ⟨k1, n1, A1, l1, c1, rfl, hb1⟩; have hZ1 : Blk w1 (w.heap.size + 1) #[.int .i64 0, .int .i64 0, .slice none 0 0] := (Blk.new_ _ 25 #[.int .i64 0, .int .i64 0, .slice none 0 0] (by simp)).keep hb1; have g1 : Below w.heap.size w w1 := (((Below.refl _ _).alloc (by simp <;> omega) _).alloc (by simp <;> omega) _).trans (hb1.mono (by simp <;> omega)); obtain ⟨d0, d1, d2⟩ := hZ1.three; have e0 := hZ1.frozen 0; have e1 := hZ1.frozen 1; have e2 := hZ1.frozen 2; have lz := hZ1.lt)
  refine bodyPost_ret (v := .tuple #[.agg #[.int .i64 k1, .int .i64 n1, .slice A1 l1 c1], .int .i64 (cdB b)]) (by simp [results, Try.results63, go_sem, d0, d1, d2]) rfl ⟨k1, n1, A1, l1, c1, rfl, ?_⟩
  exact ((g1.setCell (by simp <;> omega) _).setCell (by simp <;> omega) _).setCell (by simp <;> omega) _
theorem kq {k x : Int} (h : ¬ k = x) : (k == x) = false := by simpa using h
theorem sSimple_any {N : Nat} (ih : InfC N) (ctx : List Tm) (C : Option Addr) (cc : Nat) (k n : Int) (ks : List Tm) (A : Option Addr) (c : Nat) (r : Rs Tm) (w : World) (hv : validT (.mk k n ks) = true) (hk : ¬ (k = 3 ∨ k = 13) ∧ ¬ k = 4 ∧ ¬ k = 5 ∧ ¬ k = 9 ∧ ¬ k = 10 ∧ ¬ k = 12 ∧ ¬ k = 14) (hs : kndR (infR N) ctx (.mk k n ks) = some r) (hvc : ∀ u, u ∈ ctx → validT u = true) (hm : ctx.length ≤ 20) (hrc : Rd w C 0 ctx) (hr : Rd w A 0 ks) :
  Calls Try.prog 78 #[.slice C ctx.length cc, .agg #[.int .i64 k, .int .i64 n, .slice A ks.length c]] w (GtT w r) := by
 obtain ⟨hk3, hk4, hk5, hk9, hk10, hk12, hk14⟩ := hk
 have hlen := validT_len2 hv
 have hnz : ∀ o, r = .ok o → nzT o = true := fun o ho => (kndR_nz hv hvc (by rw [hs, ho])).1
 obtain ⟨q, _, _, hn0, hn1, _⟩ := shape_pos (validT_shape30 hv)
 have hs0 := hs
 rw [kndR, if_neg hk3, if_neg hk4, if_neg hk5, if_neg hk9, if_neg hk10, if_neg hk12, if_neg hk14] at hs
 by_cases h1 : k = 1
 ·subst h1
  rw [if_pos rfl] at hs
  have hn20 : n ≤ 20 := hn1
  exact sSimpleV_any ctx C cc n A c ks r w ⟨hn0, hn20⟩ hvc hm hs hrc
 rw [if_neg h1] at hs
 by_cases h267 : k = 2 ∨ k = 6 ∨ k = 7
 ·have hn20 : n ≤ 20 := by
   rcases h267 with rfl | rfl | rfl
   ·have : n ≤ 3 := hn1; omega
   ·have : n ≤ 0 := hn1; omega
   ·have : n ≤ 0 := hn1; omega
  exact sSimpleC_any (N := N) ctx C cc n A c k ks r w ⟨hn0, hn20⟩ h267 hs0
 rw [if_neg (fun h => h267 (.inl h)), if_neg (fun h => h267 (.inr (.inl h))), if_neg (fun h => h267 (.inr (.inr h)))] at hs
 by_cases h8 : k = 8
 ·subst h8
  rw [if_pos rfl] at hs
  have h0 : arity 8 = 1 := rfl
  obtain ⟨⟨ka, na, sa⟩, rfl⟩ := len1 (ks := ks) (by omega)
  exact sSimpleS_any ih ctx C cc n A c ka na sa r w hs (validT_kidT (i := 0) hv (by simp)) hvc hm hrc hr
 rw [if_neg h8] at hs
 by_cases h11 : k = 11
 ·subst h11
  rw [if_pos rfl] at hs
  have h0 : arity 11 = 1 := rfl
  obtain ⟨⟨ka, na, sa⟩, rfl⟩ := len1 (ks := ks) (by omega)
  exact sSimpleR_any ih ctx C cc n A c ka na sa r w hs (validT_kidT (i := 0) hv (by simp)) hvc hm hrc hr
 rw [if_neg h11] at hs
 have hk15 := kinds15 (validT_shape30 hv) ⟨hk3, hk4, hk5, hk9, hk10, hk12, hk14, h1, fun h => h267 (.inl h), fun h => h267 (.inr (.inl h)), fun h => h267 (.inr (.inr h)), h8, h11⟩
 have h0 : arity k = 1 := by rcases hk15 with rfl | rfl <;> rfl
 obtain ⟨⟨ka, na, sa⟩, rfl⟩ := len1 (ks := ks) (by omega)
 exact sSimpleP_any ctx C cc k n [.mk ka na sa] A c r w (kq h1) (kq (fun h => h267 (.inl h))) (kq (fun h => h267 (.inr (.inl h)))) (kq (fun h => h267 (.inr (.inr h)))) (kq h8) (kq h11) (hide (fun w hrc hr => sPart_any ih ctx C cc k n A c ka na sa r w hs (validT_kidT (i := 0) hv (by simp)) hvc hm hrc hr)) hnz hrc hr
theorem sKind_any {N : Nat} (ih : InfC N) (ctx : List Tm) (C : Option Addr) (cc : Nat) (k n : Int) (ks : List Tm) (A : Option Addr) (c : Nat) (r : Rs Tm) (w : World) (hv : validT (.mk k n ks) = true) (hs : kndR (infR N) ctx (.mk k n ks) = some r) (hvc : ∀ u, u ∈ ctx → validT u = true) (hm : ctx.length ≤ 20) (hrc : Rd w C 0 ctx) (hr : Rd w A 0 ks) :
  Calls Try.prog 63 #[.slice C ctx.length cc, .agg #[.int .i64 k, .int .i64 n, .slice A ks.length c]] w (GtT w r) := by
 have hlen := validT_len2 hv
 have hnz : ∀ o, r = .ok o → nzT o = true := fun o ho => (kndR_nz hv hvc (by rw [hs, ho])).1
 have hs0 := hs
 rw [kndR] at hs
 by_cases h3 : k = 3 ∨ k = 13
 ·rw [if_pos h3] at hs
  have h0 : arity k = 2 := by rcases h3 with rfl | rfl <;> rfl
  obtain ⟨⟨ka, na, sa⟩, ⟨kb, nb, sb⟩, rfl⟩ := len2 (ks := ks) (by omega)
  exact sKind71 ctx C cc k n _ A c r w (by rcases h3 with rfl | rfl <;> decide) (hide (fun w hrc hr => sBound_any ih ctx C cc k n A c ka na sa kb nb sb r w hs (validT_kidT (i := 0) hv (by simp)) (validT_kidT (i := 1) hv (by simp)) hvc hm hrc hr)) hnz hrc hr
 rw [if_neg h3] at hs
 have q3 : (k == 3) = false := kq (fun h => h3 (.inl h))
 have q13 : (k == 13) = false := kq (fun h => h3 (.inr h))
 by_cases h4 : k = 4
 ·rw [if_pos h4] at hs
  have h0 : arity k = 2 := by rw [h4]; rfl
  obtain ⟨⟨ka, na, sa⟩, ⟨kb, nb, sb⟩, rfl⟩ := len2 (ks := ks) (by omega)
  exact sKind72 ctx C cc k n _ A c r w q3 q13 (by simpa using h4) (hide (fun w hrc hr => sLam_any ih ctx C cc k n A c ka na sa kb nb sb r w hs (validT_kidT (i := 0) hv (by simp)) (validT_kidT (i := 1) hv (by simp)) hvc hm hrc hr)) hnz hrc hr
 rw [if_neg h4] at hs
 by_cases h5 : k = 5
 ·rw [if_pos h5] at hs
  have h0 : arity k = 2 := by rw [h5]; rfl
  obtain ⟨⟨ka, na, sa⟩, ⟨kb, nb, sb⟩, rfl⟩ := len2 (ks := ks) (by omega)
  exact sKind73 ctx C cc k n _ A c r w q3 q13 (kq h4) (by simpa using h5) (hide (fun w hrc hr => sApp_any ih ctx C cc k n A c ka na sa kb nb sb r w hs (validT_kidT (i := 0) hv (by simp)) (validT_kidT (i := 1) hv (by simp)) hvc hm hrc hr)) hnz hrc hr
 rw [if_neg h5] at hs
 by_cases h9 : k = 9
 ·rw [if_pos h9] at hs
  have h0 : arity k = 4 := by rw [h9]; rfl
  obtain ⟨⟨ka, na, sa⟩, ⟨kb, nb, sb⟩, ⟨kd, nd, sd⟩, ⟨ke, ne, se⟩, rfl⟩ := len4 (ks := ks) (by omega)
  exact sKind74 ctx C cc k n _ A c r w q3 q13 (kq h4) (kq h5) (by simpa using h9) (hide (fun w hrc hr => sElim_any ih ctx C cc k n A c ka na sa kb nb sb kd nd sd ke ne se r w hs (validT_kidT (i := 0) hv (by simp)) (validT_kidT (i := 1) hv (by simp)) (validT_kidT (i := 2) hv (by simp)) (validT_kidT (i := 3) hv (by simp)) hvc hm hrc hr)) hnz hrc hr
 rw [if_neg h9] at hs
 by_cases h10 : k = 10
 ·rw [if_pos h10] at hs
  have h0 : arity k = 3 := by rw [h10]; rfl
  obtain ⟨⟨ka, na, sa⟩, ⟨kb, nb, sb⟩, ⟨kd, nd, sd⟩, rfl⟩ := len3 (ks := ks) (by omega)
  exact sKind75 ctx C cc k n _ A c r w q3 q13 (kq h4) (kq h5) (kq h9) (by simpa using h10) (hide (fun w hrc hr => sId_any ih ctx C cc k n A c ka na sa kb nb sb kd nd sd r w hs (validT_kidT (i := 0) hv (by simp)) (validT_kidT (i := 1) hv (by simp)) (validT_kidT (i := 2) hv (by simp)) hvc hm hrc hr)) hnz hrc hr
 rw [if_neg h10] at hs
 by_cases h12 : k = 12
 ·rw [if_pos h12] at hs
  have h0 : arity k = 3 := by rw [h12]; rfl
  obtain ⟨⟨ka, na, sa⟩, ⟨kb, nb, sb⟩, ⟨kd, nd, sd⟩, rfl⟩ := len3 (ks := ks) (by omega)
  exact sKind76 ctx C cc k n _ A c r w q3 q13 (kq h4) (kq h5) (kq h9) (kq h10) (by simpa using h12) (hide (fun w hrc hr => sMove_any ih ctx C cc k n A c ka na sa kb nb sb kd nd sd r w hs (validT_kidT (i := 0) hv (by simp)) (validT_kidT (i := 1) hv (by simp)) (validT_kidT (i := 2) hv (by simp)) hvc hm hrc hr)) hnz hrc hr
 rw [if_neg h12] at hs
 by_cases h14 : k = 14
 ·rw [if_pos h14] at hs
  have h0 : arity k = 3 := by rw [h14]; rfl
  obtain ⟨⟨ka, na, sa⟩, ⟨kb, nb, sb⟩, ⟨kd, nd, sd⟩, rfl⟩ := len3 (ks := ks) (by omega)
  exact sKind77 ctx C cc k n _ A c r w q3 q13 (kq h4) (kq h5) (kq h9) (kq h10) (kq h12) (by simpa using h14) (hide (fun w hrc hr => sPair_any ih ctx C cc k n A c ka na sa kb nb sb kd nd sd r w hs (validT_kidT (i := 0) hv (by simp)) (validT_kidT (i := 1) hv (by simp)) (validT_kidT (i := 2) hv (by simp)) hvc hm hrc hr)) hnz hrc hr
 exact sKind78 ctx C cc k n ks A c r w q3 q13 (kq h4) (kq h5) (kq h9) (kq h10) (kq h12) (kq h14) (hide (fun w hrc hr => sSimple_any ih ctx C cc k n ks A c r w hv ⟨h3, h4, h5, h9, h10, h12, h14⟩ hs0 hvc hm hrc hr)) hnz hrc hr
end Go.Proofs.Ytddkehjdjfmhmaa
