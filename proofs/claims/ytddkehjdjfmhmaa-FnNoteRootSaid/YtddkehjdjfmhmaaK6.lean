/-
 Contracts of the functions that the law reaches, and plain lemmas. No condition.
-/
import Derived.Test.YtddkehjdjfmhmaaK3
import Derived.Test.YtddkehjdjfmhmaaK5
import Derived.Deep.Upon
namespace Go.Proofs.Ytddkehjdjfmhmaa
set_option linter.unusedSimpArgs false
set_option linter.unusedVariables false
open Go.RowKit
def Tab (w : World) (lo g : Nat) (G : List Tm) : Prop :=
 g < lo ∧ ∃ cur f, w.heap[g]? = some (.cells cur 25 (0, 0)) ∧ cur.size = G.length * 3 ∧ OwX w G cur.toList f ∧ f.Nodup ∧ ∀ b, b ∈ f → lo ≤ b
variable {w w' w0 : World} {lo g : Nat} {G : List Tm}
theorem Tab.only {fp : List Nat} (h : Tab w lo g G) (ho : OnlyIn fp w w') (hfp : ∀ b, b ∈ fp → b ≠ g ∧ b < lo) : Tab w' lo g G := by
 obtain ⟨h0, cur, f, h1, h2, h3, h4, h5⟩ := h
 refine ⟨h0, cur, f, (ho.block g (Array.getElem?_eq_some_iff.1 h1).1 (fun hm => (hfp g hm).1 rfl)).trans h1, h2, h3.frame fun b hb => ho.block b (h3.lt b hb) fun hm => ?_, h4, h5⟩
 have := (hfp b hm).2; have := h5 b hb; omega
theorem Tab.keep (h : Tab w lo g G) (hb : Below w.heap.size w w') : Tab w' lo g G := by
 obtain ⟨h0, cur, f, h1, h2, h3, h4, h5⟩ := h
 exact ⟨h0, cur, f, (hb.block g (Array.getElem?_eq_some_iff.1 h1).1).trans h1, h2, h3.frame fun b hm => hb.block b (h3.lt b hm), h4, h5⟩
theorem Tab.alloc (h : Tab w lo g G) (o : Obj) : Tab (w.alloc o) lo g G := h.keep ((Below.refl _ _).alloc (Nat.le_refl _) _)
theorem Tab.drew (h : Tab w lo g G) : Tab w.drew lo g G := h.keep (Below.refl _ _).drew
theorem Tab.setCell (h : Tab w lo g G) {p : Addr} (hp : p.block ≠ g) (hl : p.block < lo) (u : Value) : Tab (w.setCell p u) lo g G := by
 obtain ⟨h0, cur, f, h1, h2, h3, h4, h5⟩ := h
 exact ⟨h0, cur, f, (Below.heap_setCell w p u g (fun e => hp e.symm)).trans h1, h2, h3.frame fun b hb => Below.heap_setCell w p u b (fun e => by have := h5 b hb; omega), h4, h5⟩
theorem Tab.lt (h : Tab w lo g G) : g < w.heap.size := by
 obtain ⟨h0, cur, f, h1, _⟩ := h
 exact (Array.getElem?_eq_some_iff.1 h1).1
theorem Tab.frozen (h : Tab w lo g G) (j : Nat) : w.frozen? ⟨g, j, none⟩ = false := by
 obtain ⟨h0, cur, f, h1, h2, _⟩ := h
 simp [World.frozen?, h1]
theorem Tab.rd (h : Tab w lo g G) : Rd w (some ⟨g, 0, none⟩) 0 G := by
 obtain ⟨h0, cur, f, h1, h2, h3, h4, h5⟩ := h
 refine own_rd.2 _ _ _ h3 g 0 0 fun j u hu => ?_
 rw [show 0 + 0 * 3 + j = j by omega, cell_of_row w g j cur 25 (0, 0) h1]
 simpa using hu
theorem Tab.put (h : Tab w0 lo g G) (hb : Below w0.heap.size w0 w) (hlo : lo ≤ w0.heap.size) {k m : Int} {ks : List Tm} {A : Option Addr} {c j : Nat} (hfr : Fresh w0.heap.size w A ks) (hl : ks.length ≤ 9223372036854775807) (hj : j < G.length) :
  Tab (((w.setCell ⟨g, j * 3, none⟩ (.int .i64 k)).setCell ⟨g, j * 3 + 1, none⟩ (.int .i64 m)).setCell ⟨g, j * 3 + 2, none⟩ (.slice A ks.length c)) lo g (G.set j (.mk k m ks)) := by
 obtain ⟨h0, cur, f, h1, h2, h3, h4, h5⟩ := h
 obtain ⟨fp, k1, k2, k3⟩ := hfr
 have hg0 := (Array.getElem?_eq_some_iff.1 h1).1
 have hg : w.heap[g]? = some (.cells cur 25 (0, 0)) := (hb.block g hg0).trans h1
 have far : ∀ b, b ≠ g → (((w.setCell ⟨g, j * 3, none⟩ (.int .i64 k)).setCell ⟨g, j * 3 + 1, none⟩ (.int .i64 m)).setCell ⟨g, j * 3 + 2, none⟩ (.slice A ks.length c)).heap[b]? = w.heap[b]? := fun b hbg => by
  rw [Below.heap_setCell _ _ _ _ hbg, Below.heap_setCell _ _ _ _ hbg, Below.heap_setCell _ _ _ _ hbg]
 have hsp : G = G.take j ++ G[j] :: G.drop (j + 1) := by rw [← List.drop_eq_getElem_cons hj, List.take_append_drop]
 have hsp2 : G.set j (.mk k m ks) = G.take j ++ Tm.mk k m ks :: G.drop (j + 1) := by rw [List.set_eq_take_append_cons_drop, if_pos hj]
 have h3' := h3
 rw [hsp] at h3'
 obtain ⟨x0, x1, x2, f0, f1, f2, hx, hf, o0, o1, o2⟩ := OwX.split h3'
 have l0 : x0.length = j * 3 := by rw [o0.length, List.length_take, Nat.min_eq_left (Nat.le_of_lt hj)]
 have l1 := o1.length
 obtain ⟨p, q, r, rfl⟩ : ∃ p q r, x1 = [p, q, r] := by
  match x1, l1 with
  | [p, q, r], _ => exact ⟨p, q, r, rfl⟩
 subst hf
 have lt0 : ∀ b, b ∈ f0 ++ (f1 ++ f2) → b < w0.heap.size := fun b hb => h3.lt b hb
 have nd := List.nodup_append.1 h4
 have nd2 := List.nodup_append.1 nd.2.1
 refine ⟨h0, ((cur.setIfInBounds (j * 3) (.int .i64 k)).setIfInBounds (j * 3 + 1) (.int .i64 m)).setIfInBounds (j * 3 + 2) (.slice A ks.length c), f0 ++ (fp ++ f2), ?_, by simpa using h2, ?_, ?_, ?_⟩
 ·simp [World.setCell, Array.getElem?_modify, hg]
 ·have e : (((cur.setIfInBounds (j * 3) (.int .i64 k)).setIfInBounds (j * 3 + 1) (.int .i64 m)).setIfInBounds (j * 3 + 2) (.slice A ks.length c)).toList = x0 ++ ([.int .i64 k, .int .i64 m, .slice A ks.length c] ++ x2) := by
   simp only [Array.toList_setIfInBounds, hx, ← l0]
   simp [List.set_append]
  rw [e, hsp2]
  have keep : ∀ b, b ∈ f0 ++ (f1 ++ f2) → (((w.setCell ⟨g, j * 3, none⟩ (.int .i64 k)).setCell ⟨g, j * 3 + 1, none⟩ (.int .i64 m)).setCell ⟨g, j * 3 + 2, none⟩ (.slice A ks.length c)).heap[b]? = w0.heap[b]? := fun b hm => by
   rw [far b (by have := h5 b hm; omega)]; exact hb.block b (lt0 b hm)
  exact OwX.join (o0.frame fun b hm => keep b (by simp [hm])) (OwT.iff.2 ⟨A, c, rfl, hl, k1.frame fun b hm => far b (by have := k3 b hm; omega)⟩) (o2.frame fun b hm => keep b (by simp [hm]))
 ·refine List.nodup_append.2 ⟨nd.1, List.nodup_append.2 ⟨k2, nd2.2.1, fun x hx y hy e => ?_⟩, fun x hx y hy e => ?_⟩
  ·have := k3 x hx; have := lt0 y (by simp [hy]); omega
  ·rcases List.mem_append.1 hy with hy | hy
   ·have := k3 y hy; have := lt0 x (by simp [hx]); omega
   ·exact nd.2.2 x hx y (List.mem_append.2 (.inr hy)) e
 ·intro b hm
  rcases List.mem_append.1 hm with hm | hm
  ·exact h5 b (by simp [hm])
  ·rcases List.mem_append.1 hm with hm | hm
   ·have := k3 b hm; omega
   ·exact h5 b (by simp [hm])
theorem Tab.fresh (h : Tab w lo g G) {B : Nat} (hB : B ≤ g) : Fresh B w (some ⟨g, 0, none⟩) G := by
 obtain ⟨h0, cur, f, h1, h2, h3, h4, h5⟩ := h
 by_cases hts : G = []
 ·subst hts; exact Fresh.nil
 ·refine ⟨g :: f, .inr ⟨g, cur, _, f, hts, rfl, h1, rfl, by rw [List.take_of_length_le (by simp [h2])]; exact h3⟩, List.nodup_cons.2 ⟨fun hm => by have := h5 g hm; omega, h4⟩, fun b hb => ?_⟩
  rcases List.mem_cons.1 hb with rfl | hb
  ·exact hB
  ·have := h5 b hb; omega
def Tm.kids : Tm → List Tm | .mk _ _ ks => ks
theorem validT_kid {k n : Int} {ks : List Tm} (h : validT (.mk k n ks) = true) {t : Tm} (ht : t ∈ ks) : validT t = true := by
 simp only [validT, Bool.and_eq_true, decide_eq_true_eq] at h ⊢
 obtain ⟨q, hq, _, _, _, hk⟩ := shape_pos h.1
 refine ⟨shape_up (by omega) t (hk t ht), ?_⟩
 have := sizes_le ht
 rw [Tm.size] at h
 omega
open Go.RowKit
structure OwF (w : World) (A : Option Addr) (ks : List Tm) (fp : List Nat) (lo hi : Nat) : Prop where
 ow : Ow w A ks fp
 nodup : fp.Nodup
 lo : ∀ b, b ∈ fp → lo ≤ b
 hi : ∀ b, b ∈ fp → b < hi
variable {w w' : World} {A : Option Addr} {ks : List Tm} {fp fq : List Nat} {lo hi : Nat}
theorem OwF.rd (h : OwF w A ks fp lo hi) : Rd w A 0 ks := h.ow.rd
theorem OwF.keep (h : OwF w A ks fp lo hi) (hb : Below w.heap.size w w') : OwF w' A ks fp lo hi := ⟨h.ow.frame fun b hm => hb.block b (h.ow.lt b hm), h.nodup, h.lo, h.hi⟩
theorem OwF.alloc (h : OwF w A ks fp lo hi) (o : Obj) : OwF (w.alloc o) A ks fp lo hi := ⟨h.ow.frame fun b hm => Below.heap_alloc w o b (h.ow.lt b hm), h.nodup, h.lo, h.hi⟩
theorem OwF.drew (h : OwF w A ks fp lo hi) : OwF w.drew A ks fp lo hi := ⟨h.ow.frame fun b hm => rfl, h.nodup, h.lo, h.hi⟩
theorem OwF.only (h : OwF w A ks fp lo hi) (ho : OnlyIn fq w w') (hd : ∀ b, b ∈ fp → b ∉ fq) : OwF w' A ks fp lo hi := ⟨h.ow.frame fun b hm => ho.block b (h.ow.lt b hm) (hd b hm), h.nodup, h.lo, h.hi⟩
theorem OwF.apart {A' : Option Addr} {ks' : List Tm} {lo' hi' : Nat} (h : OwF w A ks fp lo hi) (h' : OwF w' A' ks' fq lo' hi') (hh : hi ≤ lo') : ∀ b, b ∈ fp → b ∉ fq := fun b h1 h2 => by have := h.hi b h1; have := h'.lo b h2; omega
theorem OwF.out (h : OwF w A ks fp lo hi) {g : Nat} (hg : g < lo ∨ hi ≤ g) : g ∉ fp := fun h1 => by have := h.lo g h1; have := h.hi g h1; omega
theorem Blk.only {g : Nat} {cs : Array Value} (h : Blk w g cs) (ho : OnlyIn fq w w') (hg : g ∉ fq) : Blk w' g cs := by have hl := h.lt; obtain ⟨t, h⟩ := h; exact ⟨t, (ho.block g hl hg).trans h⟩
theorem OwF.below (h : OwF w A ks fp lo hi) (ho : OnlyIn fp w w') (hlo : lo ≤ w.heap.size) : Below lo w w' := ho.below hlo h.lo
open Go.RowKit
theorem OnlyIn.of_below {fp : List Nat} {w w' : World} (h : Below w.heap.size w w') : OnlyIn fp w w' := ⟨h.os, h.tape, h.output, h.size, fun b hb _ => h.block b hb⟩
theorem RdP.only {g sb : Nat} {w w' : World} {A : Option Addr} {i : Nat} {ks : List Tm} (hr : RdP (fun b => b ≠ g ∧ b ≠ sb) w A i ks) (ho : OnlyIn [g, sb] w w') : RdP (fun b => b ≠ g ∧ b ≠ sb) w' A i ks :=
 hr.blocks fun b hb hl => ho.block b hl (by simp [hb.1, hb.2])
open Go.RowKit
def RdI (w : World) (A : Option Addr) (xs : List Int) : Prop := ∀ j (hj : j < xs.length), ∃ b off, A = some ⟨b, off, none⟩ ∧ w.cell? ⟨b, off + j, none⟩ = some (.int .i64 xs[j])
theorem RdI.keeps {w w' : World} {A : Option Addr} {xs : List Int} (h : RdI w A xs) (hk : Keeps w w') : RdI w' A xs := fun j hj => by
 obtain ⟨b, off, hA, hc⟩ := h j hj; exact ⟨b, off, hA, hk _ _ hc⟩
theorem RdI.below {w w' : World} {A : Option Addr} {xs : List Int} (h : RdI w A xs) (hb : Below w.heap.size w w') : RdI w' A xs := h.keeps (.of_below hb)
theorem RdI.alloc {w : World} {A : Option Addr} {xs : List Int} (h : RdI w A xs) (o : Obj) : RdI (w.alloc o) A xs := h.keeps (.alloc w o)
def atT : Tm → List Int → Option Tm
 | t, [] => some t
 | t, i :: is => if 0 ≤ i ∧ i < t.kids.length then atT (t.kids.getD i.toNat default) is else none
theorem atT_append : ∀ (xs ys : List Int) (t : Tm), atT t (xs ++ ys) = (atT t xs).bind (atT · ys)
 | [], ys, t => rfl
 | i :: is, ys, t => by
  rw [List.cons_append, atT, atT]
  split
  ·exact atT_append is ys _
  ·rfl
theorem atT_take {t u : Tm} {xs : List Int} {j : Nat} (hj : j < xs.length) (h : atT t (xs.take j) = some u) : atT t (xs.take (j + 1)) = if 0 ≤ xs[j] ∧ xs[j] < u.kids.length then some (u.kids.getD xs[j].toNat default) else none := by
 rw [List.take_succ_eq_append_getElem hj, atT_append, h, Option.bind_some, atT]
 split <;> rfl
theorem atT_none {t : Tm} {xs : List Int} {j : Nat} (h : atT t (xs.take j) = none) : atT t xs = none := by
 rw [← List.take_append_drop j xs, atT_append, h]; rfl
theorem atT_valid {u : Tm} : ∀ {xs : List Int} {t : Tm}, atT t xs = some u → validT t = true → validT u = true
 | [], t, h, hv => by cases h; exact hv
 | i :: is, t, h, hv => by
  rw [atT] at h
  split at h
  ·rename_i hh
   obtain ⟨k, n, ks⟩ := t
   refine atT_valid h ?_
   have hlt : i.toNat < ks.length := by have := hh.2; simp only [Tm.kids] at this; omega
   rw [show (Tm.mk k n ks).kids = ks from rfl, List.getD_eq_getElem?_getD, List.getElem?_eq_getElem hlt, Option.getD_some]
   exact validT_kid hv (List.getElem_mem _)
  ·cases h
def SeenO (w : World) (o : Option Tm) (e : Ending) (w' : World) : Prop :=
 Below w.heap.size w w' ∧ match o with
 | none => e = .returned (.tuple #[.agg #[.int .i64 0, .int .i64 0, .slice none 0 0], .bool false])
 | some (.mk k n ks) => ∃ A c, e = .returned (.tuple #[.agg #[.int .i64 k, .int .i64 n, .slice A ks.length c], .bool true]) ∧ ks.length ≤ 9223372036854775807 ∧ Rd w A 0 ks
set_option maxHeartbeats 2000000 in
set_option maxRecDepth 100000 in
theorem sAt_any (k n : Int) (ks : List Tm) (A : Option Addr) (c : Nat) (xs : List Int) (P : Option Addr) (cp : Nat) (w : World) (hM : sizes ks ≤ 1000000000) (hx : xs.length ≤ 9223372036854775807) (hr : Rd w A 0 ks) (hi : RdI w P xs) :
  Calls Try.prog 41 #[.agg #[.int .i64 k, .int .i64 n, .slice A ks.length c], .slice P xs.length cp] w (SeenO w (atT (.mk k n ks) xs)) := by
 have hlen := length_le_sizes ks
 go_enter Try.func41, Try.ntmps41
 go_wp2_with fail
 go_loopw [6] (fun i wr => ∃ (j : Nat) (k1 n1 : Int) (ks1 : List Tm) (A1 : Option Addr) (c1 : Nat), j ≤ xs.length ∧ i = .int .i64 j ∧ Hid (atT (.mk k n ks) (xs.take j) = some (.mk k1 n1 ks1)) ∧ ks1.length ≤ 9223372036854775807 ∧ Rd w A1 0 ks1 ∧ Blk wr w.heap.size #[.int .i64 k1, .int .i64 n1, .slice A1 ks1.length c1] ∧ Blk wr (w.heap.size + 1) #[.int .i64 0, .int .i64 0, .slice none 0 0] ∧ Below w.heap.size w wr)
  (fun i _ => xs.length - (intOf i).toNat)
 case atStart => exact ⟨0, k, n, ks, A, c, Nat.zero_le _, rfl, hide rfl, by omega, hr, (Blk.new_ _ _ _ rfl).alloc _, Blk.new_ _ _ _ (by simp), ((Below.refl _ _).alloc (by simp) _).alloc (by simp) _⟩
 case round =>
  obtain ⟨j, k1, n1, ks1, A1, c1, hj, rfl, hat, hl1, hr1, hB1, hB2, hb⟩ := hrel
  by_cases hlt : j < xs.length
  ·obtain ⟨b, off, rfl, hc⟩ := hi.below hb j hlt
   have hnx := hide (atT_take hlt hat.out)
   generalize hxj : xs[j] = x at hc hnx
   have hxj' := hide hxj
   clear hxj
   by_cases hin : 0 ≤ x ∧ x < ks1.length
   ·obtain ⟨i, rfl⟩ : ∃ i : Nat, x = (i : Int) := ⟨x.toNat, by omega⟩
    have hik : i < ks1.length := by omega
    obtain ⟨b3, off3, k3, n3, ks3, A3, c3, rfl, hkj3, hd1, hd2, hd3, hl3, hr3⟩ := hr1.at_ hik
    have hst : atT (.mk k n ks) (xs.take (j + 1)) = some (.mk k3 n3 ks3) := by
     rw [hnx.out, if_pos (show 0 ≤ (i : Int) ∧ (i : Int) < (Tm.mk k1 n1 ks1).kids.length from hin), Int.toNat_natCast, show (Tm.mk k1 n1 ks1).kids = ks1 from rfl, List.getD_eq_getElem?_getD, List.getElem?_eq_getElem hik, Option.getD_some, hkj3]
    have hst' := hide hst
    have q1 : decide ((i : Int) < 0) = false := decide_eq_false (by omega)
    have q2 : decide ((ks1.length : Int) ≤ (i : Int)) = false := decide_eq_false (by omega)
    clear hkj3 hst hnx
    go_wp2_with fail
    have y0 := rule_of hc
    have y1 := hB1.rule (i := 2) rfl
    refine wp_region_firstY (fun w' => Below wr.heap.size wr w') [0, 1, 2, 3, 4, 5, 6, 7, 8, 9, 10, 11, 12, 13, 14] [] [] [_, _, _, _, _, _, _, _, _, _, _, _, _, _, _] [] [] (by kernel_rfl) (by kernel_rfl) rfl rfl rfl (fun _ _ d _ _ h => by cases d <;> exact h) (Below.refl _ _).drew ?_
    repeat ((first | ((refine takeY_skip (a' := ?_) ?_ ?_ ?_); (rotate_left); (· (simp [Region.wanted, yielded]; done))) | ((refine takeY_step (v := ?_) (a' := ?_) ?_ ?_ ?_ ?_); (rotate_left 2); (· (simp [Region.wanted, yielded]; done)); (· (intro w' hS'; go_simp; try (with_reducible rfl))))); (· (simp only [List.getElem_toArray, List.getElem_cons_zero, List.getElem_cons_succ, Act.put, List.setIfInBounds_toArray, List.set_cons_zero, List.set_cons_succ]; exact rfl)))
    refine takeY_nil (then_nil ?_)
    go_wp2_with fail
    have z2 := rule_of ((Keeps.of_below hb) _ _ hd1)
    have z3 := rule_of ((Keeps.of_below hb) _ _ hd2)
    have z4 := rule_of ((Keeps.of_below hb) _ _ hd3)
    refine wp_region_firstY (fun w' => Below wr.heap.size wr w') [0, 1, 2, 3, 4, 5, 6, 7] [] [8] [_, _, _, _, _, _, _, _] [] [_] (by kernel_rfl) (by kernel_rfl) rfl rfl rfl (fun _ _ d _ _ h => by cases d <;> exact h) (Below.refl _ _).drew.drew ?_
    repeat ((first | ((refine takeY_skip (a' := ?_) ?_ ?_ ?_); (rotate_left); (· (simp [Region.wanted, yielded]; done))) | ((refine takeY_step (v := ?_) (a' := ?_) ?_ ?_ ?_ ?_); (rotate_left 2); (· (simp [Region.wanted, yielded]; done)); (· (intro w' hS'; go_simp; try (with_reducible rfl))))); (· (simp only [List.getElem_toArray, List.getElem_cons_zero, List.getElem_cons_succ, Act.put, List.setIfInBounds_toArray, List.set_cons_zero, List.set_cons_succ]; exact rfl)))
    refine takeY_nil (then_nil ?_)
    clear y0 y1 z2 z3 z4
    have cc0 := hB1.drew.drew.at_ (i := 0) rfl
    have cc1 := hB1.drew.drew.at_ (i := 1) rfl
    have cc2 := hB1.drew.drew.at_ (i := 2) rfl
    have f0 := hB1.drew.drew.frozen 0
    have f1 := hB1.drew.drew.frozen 1
    have f2 := hB1.drew.drew.frozen 2
    have cc0' : wr.cell? ⟨w.heap.size, 0, none⟩ = some (.int .i64 k1) := hB1.at_ (i := 0) rfl
    have cc1' : wr.cell? ⟨w.heap.size, 1, none⟩ = some (.int .i64 n1) := hB1.at_ (i := 1) rfl
    have cc2' := hB1.at_ (i := 2) rfl
    have f0' := hB1.frozen 0
    have f1' := hB1.frozen 1
    have f2' := hB1.frozen 2
    go_wp2_with fail
    go_roundw
    case rel => exact ⟨j + 1, k3, n3, ks3, A3, c3, by omega, by go_num, hst', hl3, hr3, ((hB1.drew.drew.set_ 0 _).set_ 1 _).set_ 2 _, ((hB2.drew.drew.far (by simp) _).far (by simp) _).far (by simp) _, ((hb.drew.drew.setCell (by simp) _).setCell (by simp) _).setCell (by simp) _⟩
    case measure => simp [intOf]; omega
   ·have hst : atT (.mk k n ks) (xs.take (j + 1)) = none := by rw [hnx.out, if_neg (show ¬ (0 ≤ x ∧ x < (Tm.mk k1 n1 ks1).kids.length) from hin)]
    have hno := hide (atT_none hst)
    have b2 := hB1.at_ (i := 2) rfl
    clear hst hnx
    cases qx : decide (x < 0) with
    | true =>
     go_wp2_with fail
     have y0 := rule_of hc
     have y1 := hB1.rule (i := 2) rfl
     refine wp_region_firstY (fun w' => Below wr.heap.size wr w') [0, 1, 2, 3, 4, 5, 6, 7, 8, 9, 10, 11, 12, 13, 14] [] [] [_, _, _, _, _, _, _, _, _, _, _, _, _, _, _] [] [] (by kernel_rfl) (by kernel_rfl) rfl rfl rfl (fun _ _ d _ _ h => by cases d <;> exact h) (Below.refl _ _).drew ?_
     repeat ((first | ((refine takeY_skip (a' := ?_) ?_ ?_ ?_); (rotate_left); (· (simp [Region.wanted, yielded]; done))) | ((refine takeY_step (v := ?_) (a' := ?_) ?_ ?_ ?_ ?_); (rotate_left 2); (· (simp [Region.wanted, yielded]; done)); (· (intro w' hS'; go_simp; try (with_reducible rfl))))); (· (simp only [List.getElem_toArray, List.getElem_cons_zero, List.getElem_cons_succ, Act.put, List.setIfInBounds_toArray, List.set_cons_zero, List.set_cons_succ]; exact rfl)))
     refine takeY_nil (then_nil ?_)
     clear y0 y1
     have d0 := hB2.drew.at_ (i := 0) rfl
     have d1 := hB2.drew.at_ (i := 1) rfl
     have d2 := hB2.drew.at_ (i := 2) rfl
     have e0 := hB2.drew.frozen 0
     have e1 := hB2.drew.frozen 1
     have e2 := hB2.drew.frozen 2
     have e0' := hB2.frozen 0
     have e1' := hB2.frozen 1
     have e2' := hB2.frozen 2
     have d0' : wr.cell? ⟨w.heap.size + 1, 0, none⟩ = some (.int .i64 0) := d0
     have d1' : wr.cell? ⟨w.heap.size + 1, 1, none⟩ = some (.int .i64 0) := d1
     have d2' : wr.cell? ⟨w.heap.size + 1, 2, none⟩ = some (.slice none 0 0) := d2
     go_wp2_with fail
     refine bodyPost_ret (v := .tuple #[.agg #[.int .i64 0, .int .i64 0, .slice none 0 0], .bool false]) (by simp [results, Try.results41, go_sem, d0', d1', d2']) rfl ?_
     rw [hno.out]
     exact ⟨((hb.drew.setCell (by simp) _).setCell (by simp) _).setCell (by simp) _, rfl⟩
    | false =>
     have qy : decide ((ks1.length : Int) ≤ x) = true := decide_eq_true (by have := of_decide_eq_false qx; by_cases h : (ks1.length : Int) ≤ x; (· exact h); (· exact absurd ⟨by omega, by omega⟩ hin))
     clear hin
     go_wp2_with fail
     have y0 := rule_of hc
     have y1 := hB1.rule (i := 2) rfl
     refine wp_region_firstY (fun w' => Below wr.heap.size wr w') [0, 1, 2, 3, 4, 5, 6, 7, 8, 9, 10, 11, 12, 13, 14] [] [] [_, _, _, _, _, _, _, _, _, _, _, _, _, _, _] [] [] (by kernel_rfl) (by kernel_rfl) rfl rfl rfl (fun _ _ d _ _ h => by cases d <;> exact h) (Below.refl _ _).drew ?_
     repeat ((first | ((refine takeY_skip (a' := ?_) ?_ ?_ ?_); (rotate_left); (· (simp [Region.wanted, yielded]; done))) | ((refine takeY_step (v := ?_) (a' := ?_) ?_ ?_ ?_ ?_); (rotate_left 2); (· (simp [Region.wanted, yielded]; done)); (· (intro w' hS'; go_simp; try (with_reducible rfl))))); (· (simp only [List.getElem_toArray, List.getElem_cons_zero, List.getElem_cons_succ, Act.put, List.setIfInBounds_toArray, List.set_cons_zero, List.set_cons_succ]; exact rfl)))
     refine takeY_nil (then_nil ?_)
     clear y0 y1
     have d0 := hB2.drew.at_ (i := 0) rfl
     have d1 := hB2.drew.at_ (i := 1) rfl
     have d2 := hB2.drew.at_ (i := 2) rfl
     have e0 := hB2.drew.frozen 0
     have e1 := hB2.drew.frozen 1
     have e2 := hB2.drew.frozen 2
     have e0' := hB2.frozen 0
     have e1' := hB2.frozen 1
     have e2' := hB2.frozen 2
     have d0' : wr.cell? ⟨w.heap.size + 1, 0, none⟩ = some (.int .i64 0) := d0
     have d1' : wr.cell? ⟨w.heap.size + 1, 1, none⟩ = some (.int .i64 0) := d1
     have d2' : wr.cell? ⟨w.heap.size + 1, 2, none⟩ = some (.slice none 0 0) := d2
     go_wp2_with fail
     refine bodyPost_ret (v := .tuple #[.agg #[.int .i64 0, .int .i64 0, .slice none 0 0], .bool false]) (by simp [results, Try.results41, go_sem, d0', d1', d2']) rfl ?_
     rw [hno.out]
     exact ⟨((hb.drew.setCell (by simp) _).setCell (by simp) _).setCell (by simp) _, rfl⟩
  ·have hjl : j = xs.length := by omega
   subst hjl
   have h5 := hat.out
   rw [List.take_length] at h5
   have h5' := hide h5
   clear h5
   have cc0 := hB1.at_ (i := 0) rfl
   have cc1 := hB1.at_ (i := 1) rfl
   have cc2 := hB1.at_ (i := 2) rfl
   have d0 := hB2.at_ (i := 0) rfl
   have d1 := hB2.at_ (i := 1) rfl
   have d2 := hB2.at_ (i := 2) rfl
   have e0 := hB2.frozen 0
   have e1 := hB2.frozen 1
   have e2 := hB2.frozen 2
   go_wp2_with fail
   refine bodyPost_ret (v := .tuple #[.agg #[.int .i64 k1, .int .i64 n1, .slice A1 ks1.length c1], .bool true]) (by simp [results, Try.results41, go_sem, d0, d1, d2]) rfl ?_
   rw [h5'.out]
   exact ⟨((hb.setCell (by simp) _).setCell (by simp) _).setCell (by simp) _, A1, c1, rfl, hl1, hr1⟩
open Go.RowKit
def RdX (p : Nat → Prop) (w : World) : List Tm → List Value → Prop
 | [], xs => xs = []
 | .mk k n ks :: ts, xs => ∃ A c ys, xs = .int .i64 k :: .int .i64 n :: .slice A ks.length c :: ys ∧ ks.length ≤ 9223372036854775807 ∧ RdP p w A 0 ks ∧ RdX p w ts ys
theorem RdX.keep {p q : Nat → Prop} {w w' : World} (hq : ∀ b, p b → q b) (hk : ∀ b, p b → b < w.heap.size → w'.heap[b]? = w.heap[b]?) : ∀ {ts : List Tm} {xs : List Value}, RdX p w ts xs → RdX q w' ts xs
 | [], xs, h => h
 | .mk k n ks :: ts, xs, h => by
  obtain ⟨A, c, ys, e, hl, hr, hx⟩ := h
  exact ⟨A, c, ys, e, hl, (hr.blocks hk).mono hq, hx.keep hq hk⟩
theorem RdX.append {p : Nat → Prop} {w : World} {us : List Tm} {y : List Value} (hu : RdX p w us y) : ∀ {ts : List Tm} {xs : List Value}, RdX p w ts xs → RdX p w (ts ++ us) (xs ++ y)
 | [], xs, h => by have h : xs = [] := h; subst h; exact hu
 | .mk k n ks :: ts, xs, h => by
  obtain ⟨A, c, ys, rfl, hl, hr, hx⟩ := h
  exact ⟨A, c, ys ++ y, rfl, hl, hr, RdX.append hu hx⟩
theorem RdX.length {p : Nat → Prop} {w : World} : ∀ {ts : List Tm} {xs : List Value}, RdX p w ts xs → xs.length = ts.length * 3
 | [], xs, h => by have h : xs = [] := h; subst h; rfl
 | .mk k n ks :: ts, xs, h => by
  obtain ⟨A, c, ys, rfl, hl, hr, hx⟩ := h
  have := hx.length
  simp only [List.length_cons]
  omega
theorem RdX.rd {p : Nat → Prop} {w : World} {g off : Nat} : ∀ {ts : List Tm} {xs : List Value} {i : Nat}, RdX p w ts xs → (∀ j u, xs[j]? = some u → w.cell? ⟨g, off + i * 3 + j, none⟩ = some u) → Rd w (some ⟨g, off, none⟩) i ts
 | [], xs, i, _, _ => Rd.nil
 | .mk k n ks :: ts, xs, i, h, hc => by
  obtain ⟨A, c, ys, rfl, hl, hr, hx⟩ := h
  refine Rd.cons_iff.2 ⟨⟨g, off, rfl, RdC.iff.2 ⟨hc 0 _ rfl, hc 1 _ rfl, A, c, hc 2 _ rfl, hl, hr.rd⟩⟩, hx.rd fun j u hu => ?_⟩
  have := hc (j + 3) u (by simpa using hu)
  rw [← this]
  congr 2
  omega
theorem RdX.rdp {p : Nat → Prop} {w : World} {g off : Nat} (hg : p g) : ∀ {ts : List Tm} {xs : List Value} {i : Nat}, RdX p w ts xs → (∀ j u, xs[j]? = some u → w.cell? ⟨g, off + i * 3 + j, none⟩ = some u) → RdP p w (some ⟨g, off, none⟩) i ts
 | [], xs, i, _, _ => RdP.nil
 | .mk k n ks :: ts, xs, i, h, hc => by
  obtain ⟨A, c, ys, rfl, hl, hr, hx⟩ := h
  refine RdP.cons_iff.2 ⟨⟨g, off, rfl, RdPC.iff.2 ⟨hg, hc 0 _ rfl, hc 1 _ rfl, A, c, hc 2 _ rfl, hl, hr⟩⟩, hx.rdp hg fun j u hu => ?_⟩
  have := hc (j + 3) u (by simpa using hu)
  rw [← this]
  congr 2
  omega
def PB (lo : Nat → Prop) (B : Nat) (w : World) (v : Value) (b : Nat) : Prop := (lo b ∨ B ≤ b) ∧ b < w.heap.size ∧ v.ownBlock ≠ some b
def PartR (lo : Nat → Prop) (B : Nat) (w : World) (v : Value) (ts : List Tm) : Prop :=
 ∃ xs, w.ownsRow B 25 3 v ts.length xs ∧ RdX (PB lo B w v) w ts xs
section
variable {lo : Nat → Prop} {B : Nat} {w w' : World} {v : Value} {ts : List Tm}
theorem PartR.nil : PartR lo B w (.slice none 0 0) [] := ⟨[], World.ownsRow_nil _ _ _ _, rfl⟩
theorem PartR.below (h : PartR lo B w v ts) (hk : Below w.heap.size w w') : PartR lo B w' v ts := by
 obtain ⟨xs, h1, h2⟩ := h
 refine ⟨xs, ⟨h1.1, ?_⟩, h2.keep (fun b hb => ⟨hb.1, Nat.lt_of_lt_of_le hb.2.1 hk.size, hb.2.2⟩) fun b hb hl => hk.block b hl⟩
 rcases h1.2 with hn | ⟨g, cap, cur, rfl, hb, hg, r⟩
 ·exact .inl hn
 ·exact .inr ⟨g, cap, cur, rfl, hb, (hk.block g (Array.getElem?_eq_some_iff.1 hg).1).trans hg, r⟩
theorem PartR.alloc (h : PartR lo B w v ts) (o : Obj) : PartR lo B (w.alloc o) v ts := h.below ((Below.refl _ _).alloc (Nat.le_refl _) _)
theorem PartR.drew (h : PartR lo B w v ts) : PartR lo B w.drew v ts := h.below (Below.refl _ _).drew
theorem PartR.setCell (h : PartR lo B w v ts) {a : Addr} (ha : ¬ lo a.block ∧ a.block < B) (u : Value) : PartR lo B (w.setCell a u) v ts := by
 obtain ⟨xs, h1, h2⟩ := h
 refine ⟨xs, ⟨h1.1, ?_⟩, h2.keep (fun b hb => ⟨hb.1, by simpa using hb.2.1, hb.2.2⟩) fun b hb hl => Below.heap_setCell w a u b (fun e => by subst e; exact hb.1.elim ha.1 (fun h => by omega))⟩
 rcases h1.2 with hn | ⟨g, cap, cur, rfl, hb, hg, r⟩
 ·exact .inl hn
 ·exact .inr ⟨g, cap, cur, rfl, hb, (Below.heap_setCell w a u g (by omega)).trans hg, r⟩
theorem PartR.rd (h : PartR lo B w v ts) : ∃ A c, v = .slice A ts.length c ∧ RdP (fun b => lo b ∨ B ≤ b) w A 0 ts := by
 obtain ⟨xs, h1, h2⟩ := h
 rcases h1.2 with ⟨rfl, h0⟩ | ⟨g, cap, cur, rfl, hb, hg, _, _, _, htk⟩
 ·have : ts = [] := List.eq_nil_of_length_eq_zero h0
  subst this
  exact ⟨none, 0, rfl, RdP.nil⟩
 ·refine ⟨_, _, rfl, RdX.rdp (.inr hb) (h2.keep (fun b hb => hb.1) fun _ _ _ => rfl) fun j u hu => ?_⟩
  rw [show 0 + 0 * 3 + j = j by omega, cell_of_row w g j cur 25 (0, 0) hg]
  have h3 := htk
  rw [← h3, List.getElem?_take] at hu
  split at hu
  ·simpa using hu
  ·cases hu
theorem PartR.shape (h : PartR lo B w v ts) : ∃ A c, v = .slice A ts.length c := by
 obtain ⟨A, c, hv, _⟩ := h.rd; exact ⟨A, c, hv⟩
end
section
variable {lo : Nat → Prop} {B : Nat} {w : World} {v : Value} {ts : List Tm} {k n : Int} {ks : List Tm} {A : Option Addr} {c : Nat} {q : Nat → Prop}
theorem run_append_rd (hp : PartR lo B w v ts) (hB : B ≤ w.heap.size) (hr : RdP q w A 0 ks) (hq : ∀ b, q b → PB lo B w v b) (hl : ks.length ≤ 9223372036854775807) (hlen : ts.length ≤ 1099511627776) (ty : TypeId) :
  ∃ v' w', (Builtin.append_ #[23, 23] ty #[v, .slice (some ⟨w.heap.size, 0, none⟩) 1 1]).run Try.prog (w.alloc (.cells #[.int .i64 k, .int .i64 n, .slice A ks.length c] 25)) = .ok v' w' ∧
   PartR lo B w' v' (ts ++ [.mk k n ks]) ∧ Below B w w' ∧ w.grownBy w' v.ownBlock := by
 obtain ⟨i, hi, hz, hz1, hz2⟩ := info_parts tm_info
 obtain ⟨xs, k1, h2⟩ := hp.alloc (.cells #[.int .i64 k, .int .i64 n, .slice A ks.length c] 25)
 have hge : ∀ g, v.ownBlock = some g → B ≤ g := fun g hg => (k1.lt g hg).1
 obtain ⟨v', w', hrun, hown, hg, _, hat⟩ := run_append_own_at (P := Try.prog) (w.alloc (.cells #[.int .i64 k, .int .i64 n, .slice A ks.length c] 25)) B 23 ty 25 i _ 3 40 Try.underlying23 hi hz hz1 hz2 rfl (by simp) v ts.length xs k1 ⟨w.heap.size, 0, none⟩ 1 1 [.int .i64 k, .int .i64 n, .slice A ks.length c] rfl (by
  intro j u hj
  match j, hj with
  | 0, hj => simp only [List.getElem?_cons_zero, Option.some.injEq] at hj; subst hj; simp [Addr.add]
  | 1, hj => simp only [List.getElem?_cons_succ, List.getElem?_cons_zero, Option.some.injEq] at hj; subst hj; simp [Addr.add]
  | 2, hj => simp only [List.getElem?_cons_succ, List.getElem?_cons_zero, Option.some.injEq] at hj; subst hj; simp [Addr.add]) (by
  intro u hu
  simp only [List.mem_cons, List.not_mem_nil, or_false] at hu
  rcases hu with rfl | rfl | rfl <;> rfl) (by simp only [maxLen]; omega) (by omega) (by simp; omega)
 have hsz : w.heap.size + 1 ≤ w'.heap.size := by have := hg.size; simpa using this
 have hne : ∀ b, b < (w.alloc (.cells #[.int .i64 k, .int .i64 n, .slice A ks.length c] 25)).heap.size → v.ownBlock ≠ some b → v'.ownBlock ≠ some b := by
  intro b hb hv e
  rcases hat with e' | e'
  ·exact hv (e'.symm.trans e)
  ·rw [e'] at e; injection e with e; omega
 have hst : ∀ b, PB lo B (w.alloc (.cells #[.int .i64 k, .int .i64 n, .slice A ks.length c] 25)) v b → PB lo B w' v' b := fun b hb => ⟨hb.1, by have := hb.2.1; have := hg.size; omega, hne b hb.2.1 hb.2.2⟩
 have hkp : ∀ b, PB lo B (w.alloc (.cells #[.int .i64 k, .int .i64 n, .slice A ks.length c] 25)) v b → b < (w.alloc (.cells #[.int .i64 k, .int .i64 n, .slice A ks.length c] 25)).heap.size → w'.heap[b]? = (w.alloc (.cells #[.int .i64 k, .int .i64 n, .slice A ks.length c] 25)).heap[b]? := fun b hb hl => hg.block b hl (fun e => hb.2.2 e.symm)
 have hr' : RdP (PB lo B w' v') w' A 0 ks := (((hr.alloc (.cells #[.int .i64 k, .int .i64 n, .slice A ks.length c] 25)).mono (q := PB lo B (w.alloc (.cells #[.int .i64 k, .int .i64 n, .slice A ks.length c] 25)) v) (fun b hb => ⟨(hq b hb).1, by have := (hq b hb).2.1; simp; omega, (hq b hb).2.2⟩)).blocks hkp).mono hst
 refine ⟨v', w', hrun, ⟨xs ++ [.int .i64 k, .int .i64 n, .slice A ks.length c], by simpa using hown, RdX.append (show RdX (PB lo B w' v') w' [.mk k n ks] _ from ⟨A, c, [], rfl, hl, hr', rfl⟩) (h2.keep hst hkp)⟩, ?_, grownBy_trans (grownBy_alloc_ (World.grownBy.refl _ _) _) hg⟩
 exact ((Below.refl _ _).alloc hB _).trans ⟨hg.os, hg.tape, hg.output, hg.size, fun k hk => hg.block k (by simp; omega) (fun e => by have := hge k e.symm; omega)⟩
theorem wpList_append_rd (hp : PartR lo B w v ts) (hB : B ≤ w.heap.size) (hr : RdP q w A 0 ks) (hq : ∀ b, q b → PB lo B w v b) (hl : ks.length ≤ 9223372036854775807) {m : Nat} (hm : ts.length = m) (hlen : m ≤ 1099511627776)
  {ops : Array Oper} {rest : List Oper} {o : Oper} {a : Act} {Q : Exit → Act → World → Prop} (hgd : o.guard = none) (s x : Operand)
  (ho : o.op = .call { callee := .builtin .append, args := #[s, x], argTypes := #[23, 23] }) (hse : a.eval s = v) (hx : a.eval x = .slice (some ⟨w.heap.size, 0, none⟩) 1 1)
  (h : ∀ A' c' w', PartR lo B w' (.slice A' (m + 1) c') (ts ++ [.mk k n ks]) → Below B w w' → w.grownBy w' v.ownBlock → wpList Try.prog ops Q rest (a.put o.dst (.slice A' (m + 1) c')) w') :
  wpList Try.prog ops Q (o :: rest) a (w.alloc (.cells #[.int .i64 k, .int .i64 n, .slice A ks.length c] 25)) := by
 subst hm
 refine wpList_plain hgd fun K hK => ?_
 obtain ⟨v', w', hrun, h2, h3, h4⟩ := run_append_rd (k := k) (n := n) (c := c) hp hB hr hq hl hlen o.type
 unfold Oper.wp execOp
 simp only [ho, resolve, invoke, builtin, Sem.run_bind, Sem.run_pure, Result.andThen_ok, List.map_toArray, List.map_cons, List.map_nil, hse, hx, hrun]
 obtain ⟨A', c', rfl⟩ := h2.shape
 rw [List.length_append] at h2 ⊢
 exact hK _ _ (h A' c' w' h2 h3 h4)
end
open Go.RowKit
theorem rdx_row {p : Nat → Prop} {w : World} {b off : Nat} : ∀ {ts : List Tm} {i : Nat}, RdP p w (some ⟨b, off, none⟩) i ts → ∃ xs, RdX p w ts xs ∧ ∀ j u, xs[j]? = some u → w.cell? ⟨b, off + i * 3 + j, none⟩ = some u
 | [], i, _ => ⟨[], rfl, fun j u h => by simp at h⟩
 | .mk k n ks :: ts, i, h => by
  obtain ⟨⟨b', off', hA, hc⟩, hr⟩ := RdP.cons_iff.1 h
  injection hA with hA
  injection hA with h1 h2
  subst h1 h2
  obtain ⟨hp, c0, c1, A, c, c2, hl, hk⟩ := RdPC.iff.1 hc
  obtain ⟨xs, hx, hcx⟩ := rdx_row hr
  refine ⟨.int .i64 k :: .int .i64 n :: .slice A ks.length c :: xs, ⟨A, c, xs, rfl, hl, hk, hx⟩, fun j u hj => ?_⟩
  match j, hj with
  | 0, hj => simp only [List.getElem?_cons_zero, Option.some.injEq] at hj; subst hj; exact c0
  | 1, hj => simp only [List.getElem?_cons_succ, List.getElem?_cons_zero, Option.some.injEq] at hj; subst hj; exact c1
  | 2, hj => simp only [List.getElem?_cons_succ, List.getElem?_cons_zero, Option.some.injEq] at hj; subst hj; exact c2
  | j + 3, hj =>
   simp only [List.getElem?_cons_succ] at hj
   have := hcx j u hj
   rw [← this]
   congr 2
   omega
theorem RdX.oneC {p : Nat → Prop} {w : World} : ∀ {ts : List Tm} {xs : List Value}, RdX p w ts xs → ∀ u, u ∈ xs → u.oneCell' = true
 | [], xs, h, u, hu => by have h : xs = [] := h; subst h; cases hu
 | .mk k n ks :: ts, xs, h, u, hu => by
  obtain ⟨A, c, ys, rfl, hl, hr, hx⟩ := h
  simp only [List.mem_cons] at hu
  rcases hu with rfl | rfl | rfl | hu
  ·rfl
  ·rfl
  ·rfl
  ·exact hx.oneC u hu
section
variable {lo : Nat → Prop} {B : Nat} {w : World} {v : Value} {ts : List Tm} {k n : Int} {ks : List Tm} {A : Option Addr} {c : Nat} {q : Nat → Prop}
theorem run_append_rdW (hp : PartR lo B w v ts) (hB : B ≤ w.heap.size) (hr : RdP q w A 0 ks) (hq : ∀ b, q b → PB lo B w v b) (hl : ks.length ≤ 9223372036854775807) (hlen : ts.length ≤ 1099511627776) (g cc : Nat)
  (hb : Blk w g #[.int .i64 k, .int .i64 n, .slice A ks.length c]) (ty : TypeId) :
  ∃ v' w', (Builtin.append_ #[23, 23] ty #[v, .slice (some ⟨g, 0, none⟩) 1 cc]).run Try.prog w = .ok v' w' ∧
   PartR lo B w' v' (ts ++ [.mk k n ks]) ∧ Below B w w' ∧ w.grownBy w' v.ownBlock ∧ ∀ b, b < w.heap.size → v.ownBlock ≠ some b → v'.ownBlock ≠ some b := by
 obtain ⟨i, hi, hz, hz1, hz2⟩ := info_parts tm_info
 obtain ⟨xs, k1, h2⟩ := hp
 have hge : ∀ g, v.ownBlock = some g → B ≤ g := fun g hg => (k1.lt g hg).1
 obtain ⟨c0, c1, c2⟩ : w.cell? ⟨g, 0, none⟩ = some (.int .i64 k) ∧ w.cell? ⟨g, 1, none⟩ = some (.int .i64 n) ∧ w.cell? ⟨g, 2, none⟩ = some (.slice A ks.length c) := ⟨hb.at_ (i := 0) rfl, hb.at_ (i := 1) rfl, hb.at_ (i := 2) rfl⟩
 obtain ⟨v', w', hrun, hown, hg, _, hat⟩ := run_append_own_at (P := Try.prog) w B 23 ty 25 i _ 3 40 Try.underlying23 hi hz hz1 hz2 rfl (by omega) v ts.length xs k1 ⟨g, 0, none⟩ 1 cc [.int .i64 k, .int .i64 n, .slice A ks.length c] rfl (by
  intro j u hj
  match j, hj with
  | 0, hj => simp only [List.getElem?_cons_zero, Option.some.injEq] at hj; subst hj; simpa [Addr.add] using c0
  | 1, hj => simp only [List.getElem?_cons_succ, List.getElem?_cons_zero, Option.some.injEq] at hj; subst hj; simpa [Addr.add] using c1
  | 2, hj => simp only [List.getElem?_cons_succ, List.getElem?_cons_zero, Option.some.injEq] at hj; subst hj; simpa [Addr.add] using c2) (by
  intro u hu
  simp only [List.mem_cons, List.not_mem_nil, or_false] at hu
  rcases hu with rfl | rfl | rfl <;> rfl) (by simp only [maxLen]; omega) (by omega) (by omega)
 have hsz := hg.size
 have hne : ∀ b, b < w.heap.size → v.ownBlock ≠ some b → v'.ownBlock ≠ some b := by
  intro b hb hv e
  rcases hat with e' | e'
  ·exact hv (e'.symm.trans e)
  ·rw [e'] at e; injection e with e; omega
 have hst : ∀ b, PB lo B w v b → PB lo B w' v' b := fun b hb => ⟨hb.1, by have := hb.2.1; omega, hne b hb.2.1 hb.2.2⟩
 have hkp : ∀ b, PB lo B w v b → b < w.heap.size → w'.heap[b]? = w.heap[b]? := fun b hb hl => hg.block b hl (fun e => hb.2.2 e.symm)
 have hr' : RdP (PB lo B w' v') w' A 0 ks := ((hr.mono (q := PB lo B w v) hq).blocks hkp).mono hst
 refine ⟨v', w', hrun, ⟨xs ++ [.int .i64 k, .int .i64 n, .slice A ks.length c], by simpa using hown, RdX.append (show RdX (PB lo B w' v') w' [.mk k n ks] _ from ⟨A, c, [], rfl, hl, hr', rfl⟩) (h2.keep hst hkp)⟩, ?_, hg, hne⟩
 exact ⟨hg.os, hg.tape, hg.output, hg.size, fun k hk => hg.block k (by omega) (fun e => by have := hge k e.symm; omega)⟩
theorem wpList_append_rdW (hp : PartR lo B w v ts) (hB : B ≤ w.heap.size) (hr : RdP q w A 0 ks) (hq : ∀ b, q b → PB lo B w v b) (hl : ks.length ≤ 9223372036854775807) {m : Nat} (hm : ts.length = m) (hlen : m ≤ 1099511627776) (g cc : Nat)
  (hb : Blk w g #[.int .i64 k, .int .i64 n, .slice A ks.length c])
  {ops : Array Oper} {rest : List Oper} {o : Oper} {a : Act} {Q : Exit → Act → World → Prop} (hgd : o.guard = none) (s x : Operand)
  (ho : o.op = .call { callee := .builtin .append, args := #[s, x], argTypes := #[23, 23] }) (hse : a.eval s = v) (hx : a.eval x = .slice (some ⟨g, 0, none⟩) 1 cc)
  (h : ∀ A' c' w', PartR lo B w' (.slice A' (m + 1) c') (ts ++ [.mk k n ks]) → Below B w w' → w.grownBy w' v.ownBlock → (∀ b, b < w.heap.size → v.ownBlock ≠ some b → (Value.slice A' (m + 1) c').ownBlock ≠ some b) → wpList Try.prog ops Q rest (a.put o.dst (.slice A' (m + 1) c')) w') :
  wpList Try.prog ops Q (o :: rest) a w := by
 subst hm
 refine wpList_plain hgd fun K hK => ?_
 obtain ⟨v', w', hrun, h2, h3, h4, h5⟩ := run_append_rdW (k := k) (n := n) (c := c) hp hB hr hq hl hlen g cc hb o.type
 unfold Oper.wp execOp
 simp only [ho, resolve, invoke, builtin, Sem.run_bind, Sem.run_pure, Result.andThen_ok, List.map_toArray, List.map_cons, List.map_nil, hse, hx, hrun]
 obtain ⟨A', c', rfl⟩ := h2.shape
 rw [List.length_append] at h2 ⊢
 exact hK _ _ (h A' c' w' h2 h3 h4 (by rw [List.length_append] at h5; exact h5))
end
section
variable {p : Nat → Prop} {w : World} {l : List Tm} {L : Option Addr} {cl g : Nat}
theorem run_append_listR (hg : w.heap[g]? = some (.cells #[] 25 (0, 0))) (hl : RdP p w L 0 l) (hp : ∀ b, p b → b < w.heap.size ∧ b ≠ g) (hlen : l.length ≤ 1099511627776) (ty : TypeId) :
  ∃ v' w', (Builtin.append_ #[23, 23] ty #[.slice (some ⟨g, 0, none⟩) 0 0, .slice L l.length cl]).run Try.prog w = .ok v' w' ∧ PartR p g w' v' l ∧ w.grownBy w' (some g) := by
 have hgw : g < w.heap.size := (Array.getElem?_eq_some_iff.1 hg).1
 obtain ⟨i, hi, hz, hz1, hz2⟩ := info_parts tm_info
 have k1 : w.ownsRow g 25 3 (.slice (some ⟨g, 0, none⟩) 0 0) 0 [] := ⟨by simp, .inr ⟨g, 0, #[], rfl, Nat.le_refl _, hg, Nat.le_refl _, by simp [maxLen], by simp, by simp⟩⟩
 cases l with
 | nil =>
  refine ⟨.slice (some ⟨g, 0, none⟩) 0 0, w, run_append_nothing w 23 23 ty 25 i Try.underlying23 hi _ 0 0 (Nat.le_refl _) _ ⟨.inl ⟨25, Try.underlying23⟩, fun w' => by simp [Builtin.lenOf], by cases L <;> simp [Builtin.firstCells, loadCells, loadCellsFrom], by cases L <;> simp [Builtin.firstCells, loadCells, loadCellsFrom], by simp, fun u hu => by cases hu⟩, ⟨[], k1, rfl⟩, World.grownBy.refl _ _⟩
 | cons t ts =>
  obtain ⟨⟨b, off, rfl, _⟩, _⟩ := RdP.cons_iff.1 hl
  obtain ⟨x1, hx, hc⟩ := rdx_row hl
  obtain ⟨v', w', hrun, hown, hgr, _, hat⟩ := run_append_own_at (P := Try.prog) w g 23 ty 25 i _ 3 40 Try.underlying23 hi hz hz1 hz2 rfl (by omega) _ 0 [] k1 ⟨b, off, none⟩ (t :: ts).length cl x1 hx.length (fun j u hj => by
    have := hc j u hj
    rw [show Addr.add ⟨b, off, none⟩ j = ⟨b, off + 0 * 3 + j, none⟩ from by simp only [Addr.add]; split <;> simp_all]
    exact this) hx.oneC (by simp only [maxLen]; omega) (by omega) (by omega)
  rw [Nat.zero_add, List.nil_append] at hown
  have hsz := hgr.size
  have hvo : ∀ b, b < w.heap.size → b ≠ g → v'.ownBlock ≠ some b := by
   intro b hb hbg e
   rcases hat with e' | e'
   ·rw [e'] at e; injection e with e; exact hbg e.symm
   ·rw [e'] at e; injection e with e; omega
  exact ⟨v', w', hrun, ⟨x1, hown, hx.keep (fun b hb => ⟨.inl hb, by have := (hp b hb).1; omega, hvo b (hp b hb).1 (hp b hb).2⟩) fun b hb hl => hgr.block b hl (fun e => (hp b hb).2 (by injection e))⟩, hgr⟩
end
end Go.Proofs.Ytddkehjdjfmhmaa
