/-
 Contracts of the functions that the law reaches, and plain lemmas. No condition.
-/
import Derived.Test.YtddkehjdjfmhmaaK1
import Derived.WalkSpells
import Derived.WalkLawsBesides
import Derived.Laws.DeepStrings4
import Derived.Laws.Concat
import Derived.IntWalk
import Derived.Outline
namespace Go.Proofs.Ytddkehjdjfmhmaa
set_option linter.unusedSimpArgs false
set_option linter.unusedVariables false
open Go.RowKit
def FreshN (f1 : List Nat) (g : Nat) (w : World) (A : Option Addr) (ks : List Tm) : Prop := ∃ fp, Ow w A ks fp ∧ fp.Nodup ∧ ∀ b, b ∈ fp → b ∈ f1 ∨ g ≤ b
theorem FreshN.setCell {f1 : List Nat} {g : Nat} {w : World} {A : Option Addr} {ks : List Tm} (h : FreshN f1 g w A ks) {a : Addr} (ha : a.block ∉ f1 ∧ a.block < g) (u : Value) : FreshN f1 g (w.setCell a u) A ks := by
 obtain ⟨fp, h1, h2, h3⟩ := h
 refine ⟨fp, h1.frame fun b hb => Below.heap_setCell w a u b (fun e => ?_), h2, h3⟩
 rcases h3 b hb with h | h
 ·exact ha.1 (e ▸ h)
 ·omega
theorem FreshN.fresh {f1 : List Nat} {g : Nat} {w : World} {A : Option Addr} {ks : List Tm} (h : FreshN f1 g w A ks) {B : Nat} (hf : ∀ b, b ∈ f1 → B ≤ b) (hg : B ≤ g) : Fresh B w A ks := by
 obtain ⟨fp, h1, h2, h3⟩ := h
 exact ⟨fp, h1, h2, fun b hb => (h3 b hb).elim (hf b) (fun h => Nat.le_trans hg h)⟩
theorem run_append_node {B : Nat} {w : World} {us : List Tm} {x1 : List Value} {f1 : List Nat} {g : Nat} (hg : w.heap[g]? = some (.cells #[] 25 (0, 0))) (hgB : B ≤ g) (hgw : g < w.heap.size) (hB : B ≤ w.heap.size)
  (ht : OwX w us x1 f1) (hn : f1.Nodup) (hf : ∀ b, b ∈ f1 → B ≤ b ∧ b ≠ g) (hlen : us.length ≤ 1099511627776) (ad : Addr) (c : Nat) (hc : ∀ j u, x1[j]? = some u → w.cell? (ad.add j) = some u) (h1 : ∀ u, u ∈ x1 → u.oneCell' = true) (ty : TypeId) :
  ∃ A c' w', (Builtin.append_ #[23, 23] ty #[.slice (some ⟨g, 0, none⟩) 0 0, .slice (some ad) us.length c]).run Try.prog w = .ok (.slice A us.length c') w' ∧ FreshN f1 g w' A us ∧ w.grownBy w' (some g) := by
 obtain ⟨i, hi, hz, hz1, hz2⟩ := info_parts tm_info
 have k1 : w.ownsRow B 25 3 (.slice (some ⟨g, 0, none⟩) 0 0) 0 [] := ⟨by simp, .inr ⟨g, 0, #[], rfl, hgB, hg, Nat.le_refl _, by simp [maxLen], by simp, by simp⟩⟩
 obtain ⟨v', w', hrun, hown, hgr, _, hat⟩ := run_append_own_at (P := Try.prog) w B 23 ty 25 i _ 3 40 Try.underlying23 hi hz hz1 hz2 rfl (by omega) _ 0 [] k1 ad us.length c x1 ht.length hc h1
  (by simp only [maxLen]; omega) (by omega) (by omega)
 have hfl := ht.lt
 have e1 : ∀ b, b ∈ f1 → w'.heap[b]? = w.heap[b]? := fun b hbf => hgr.block b (hfl b hbf) (fun e => by injection e with e; exact (hf b hbf).2 e)
 have hx' := ht.frame e1
 rw [Nat.zero_add, List.nil_append] at hown
 obtain ⟨h2, h3⟩ := hown
 rcases h3 with ⟨rfl, h0⟩ | ⟨g', cap, cur, rfl, hb', hg', _, _, _, htk⟩
 ·have : us = [] := List.eq_nil_of_length_eq_zero h0
  subst this
  exact ⟨none, 0, w', hrun, ⟨[], .inl ⟨rfl, rfl⟩, List.nodup_nil, by simp⟩, hgr⟩
 ·refine ⟨_, _, w', hrun, ?_, hgr⟩
  by_cases hts : us = []
  ·subst hts; exact ⟨[], .inl ⟨rfl, rfl⟩, List.nodup_nil, by simp⟩
  ·refine ⟨g' :: f1, .inr ⟨g', cur, _, f1, hts, rfl, hg', rfl, by rw [htk]; exact hx'⟩, List.nodup_cons.2 ⟨fun hm => ?_, hn⟩, fun b hb => ?_⟩
   ·rcases hat with e | e
    ·injection e with e; exact (hf g' hm).2 e
    ·injection e with e; have e : g' = w.heap.size := e; have := hfl g' hm; omega
   ·rcases List.mem_cons.1 hb with rfl | hb
    ·right
     rcases hat with e | e
     ·injection e with e; exact Nat.le_of_eq e.symm
     ·injection e with e; have e : b = w.heap.size := e; omega
    ·exact .inl hb
theorem wpList_append_node {B : Nat} {w : World} {us : List Tm} {x1 : List Value} {f1 : List Nat} {g : Nat} (hg : w.heap[g]? = some (.cells #[] 25 (0, 0))) (hgB : B ≤ g) (hgw : g < w.heap.size) (hB : B ≤ w.heap.size)
  (ht : OwX w us x1 f1) (hn : f1.Nodup) (hf : ∀ b, b ∈ f1 → B ≤ b ∧ b ≠ g) (hlen : us.length ≤ 1099511627776) (ad : Addr) (c : Nat) (hc : ∀ j u, x1[j]? = some u → w.cell? (ad.add j) = some u) (h1 : ∀ u, u ∈ x1 → u.oneCell' = true)
  {ops : Array Oper} {rest : List Oper} {o : Oper} {a : Act} {Q : Exit → Act → World → Prop} (hgd : o.guard = none) (s x : Operand)
  (ho : o.op = .call { callee := .builtin .append, args := #[s, x], argTypes := #[23, 23] }) (hse : a.eval s = .slice (some ⟨g, 0, none⟩) 0 0) (hx : a.eval x = .slice (some ad) us.length c)
  (h : ∀ A' c' w', FreshN f1 g w' A' us → w.grownBy w' (some g) → wpList Try.prog ops Q rest (a.put o.dst (.slice A' us.length c')) w') :
  wpList Try.prog ops Q (o :: rest) a w := by
 refine wpList_plain hgd fun K hK => ?_
 obtain ⟨A', c', w', hrun, h2, h3⟩ := run_append_node hg hgB hgw hB ht hn hf hlen ad c hc h1 o.type
 unfold Oper.wp execOp
 simp only [ho, resolve, invoke, builtin, Sem.run_bind, Sem.run_pure, Result.andThen_ok, List.map_toArray, List.map_cons, List.map_nil, hse, hx, hrun]
 exact hK _ _ (h A' c' w' h2 h3)
theorem OwX.oneCell {w : World} {ts : List Tm} : ∀ {xs : List Value} {fp : List Nat}, OwX w ts xs fp → ∀ u, u ∈ xs → u.oneCell' = true := by
 induction ts with
 | nil => intro xs fp h u hu; rw [(OwX.nil_iff.1 h).1] at hu; cases hu
 | cons t ts ih =>
  intro xs fp h u hu
  obtain ⟨x1, x2, f1, f2, rfl, rfl, h1, h2⟩ := OwX.cons_iff.1 h
  rcases List.mem_append.1 hu with hu | hu
  ·exact h1.oneCell u hu
  ·exact ih h2 u hu
theorem add_zero_ (g j : Nat) : Addr.add ⟨g, 0, none⟩ j = ⟨g, j, none⟩ := by unfold Addr.add; split <;> simp_all
def GotB (B : Nat) (w : World) (k n : Int) (ks : List Tm) (e : Ending) (w' : World) : Prop :=
 ∃ A c, e = .returned (.agg #[.int .i64 k, .int .i64 n, .slice A ks.length c]) ∧ Fresh B w' A ks ∧ Below w.heap.size w w'
set_option maxHeartbeats 2000000 in
set_option maxRecDepth 100000 in
theorem l1Node_any {B : Nat} {w : World} {us : List Tm} {x1 : List Value} {f1 : List Nat} (k : Int) (hB : B ≤ w.heap.size)
  (ht : OwX w us x1 f1) (hn : f1.Nodup) (hf : ∀ b, b ∈ f1 → B ≤ b) (hlen : us.length ≤ 1099511627776) (g c : Nat) (hb : Blk w g x1.toArray) :
  Calls Try.prog 46 #[.int .i64 k, .slice (some ⟨g, 0, none⟩) us.length c] w (GotB B w k 0 us) := by
 have hlt := ht.lt
 have hone := ht.oneCell
 have hgl := hb.lt
 go_enter Try.func46, Try.ntmps46
 have H1 := hide (show ((w.alloc (.cells #[.int .i64 0, .int .i64 0, .slice none 0 0] 25)).alloc (.cells #[] 25)).heap[w.heap.size + 1]? = some (.cells #[] 25 (0, 0)) by simpa using heap_alloc_new (w.alloc (.cells #[.int .i64 0, .int .i64 0, .slice none 0 0] 25)) (.cells #[] 25))
 have H2 := hide (show OwX ((w.alloc (.cells #[.int .i64 0, .int .i64 0, .slice none 0 0] 25)).alloc (.cells #[] 25)) us x1 f1 from ht.frame fun b hb => (Below.heap_alloc _ _ b (by have := hlt b hb; simp; omega)).trans (Below.heap_alloc _ _ b (hlt b hb)))
 have H3 := hide (show ∀ j u, x1[j]? = some u → ((w.alloc (.cells #[.int .i64 0, .int .i64 0, .slice none 0 0] 25)).alloc (.cells #[] 25)).cell? (Addr.add ⟨g, 0, none⟩ j) = some u from fun j u hj => by
  have := ((hb.alloc (.cells #[.int .i64 0, .int .i64 0, .slice none 0 0] 25)).alloc (.cells #[] 25)).at_ (i := j) (v := u) (by simpa using hj)
  rw [add_zero_]; exact this)
 go_wp2_with (at_builtin; (refine wpList_append_node (B := B) (us := us) (x1 := x1) (f1 := f1) (g := w.heap.size + 1) H1.out (by omega) (by simp) (by simp; omega) H2.out hn (fun b hb => ⟨hf b hb, by have := hlt b hb; omega⟩) hlen ⟨g, 0, none⟩ c H3.out hone rfl _ _ rfl rfl rfl ?_); intro A' c' w2 hfr hg2; have hT : Blk w2 w.heap.size #[.int .i64 0, .int .i64 0, .slice none 0 0] := ((Blk.new_ w 25 #[.int .i64 0, .int .i64 0, .slice none 0 0] rfl).alloc _).grown hg2 (by simp); have d0 := hT.at_ (i := 0) rfl; have d1 := hT.at_ (i := 1) rfl; have d2 := hT.at_ (i := 2) rfl; have e0 := hT.frozen 0; have e1 := hT.frozen 1; have e2 := hT.frozen 2; have hb2 : Below w.heap.size w w2 := (((Below.refl _ _).alloc (Nat.le_refl _) _).alloc (by simp) _).trans ⟨hg2.os, hg2.tape, hg2.output, hg2.size, fun b hb => hg2.block b (by simp; omega) (fun e => by injection e with e; omega)⟩; have hBs : B ≤ w.heap.size := hB)
 refine bodyPost_ret (v := .agg #[.int .i64 k, .int .i64 0, .slice A' us.length c']) (by simp [results, Try.results46, go_sem, d0, d1, d2]) rfl ⟨A', c', rfl, ?_, ((hb2.setCell (by simp) _).setCell (by simp) _).setCell (by simp) _⟩
 have hn0 : w.heap.size ∉ f1 := fun h => absurd (hlt _ h) (Nat.lt_irrefl _)
 exact (((hfr.setCell ⟨hn0, by simp⟩ _).setCell ⟨hn0, by simp⟩ _).setCell ⟨hn0, by simp⟩ _).fresh hf (by omega)
open Go.RowKit
def Has (s : ByteArray) (i : Nat) (bs : List UInt8) : Prop := ∃ rest, s.data.toList.drop i = bs ++ rest
theorem Has.le {s : ByteArray} {i : Nat} {bs : List UInt8} (h : Has s i bs) (hb : bs ≠ []) : i + bs.length ≤ s.size := by
 obtain ⟨rest, h⟩ := h
 have h1 := congrArg List.length h
 have h2 : 0 < bs.length := List.length_pos_iff.2 hb
 simp only [List.length_drop, List.length_append, Array.length_toList] at h1
 have h3 : s.data.size = s.size := rfl
 omega
theorem Has.cons {s : ByteArray} {i : Nat} {c : UInt8} {bs : List UInt8} (h : Has s i (c :: bs)) : (∃ hi : i < s.size, s[i]'hi = c) ∧ Has s (i + 1) bs := by
 have hl := h.le (by simp)
 simp only [List.length_cons] at hl
 obtain ⟨rest, h⟩ := h
 have hi : i < s.size := by omega
 refine ⟨⟨hi, ?_⟩, rest, ?_⟩
 ·have h1 := congrArg (fun l => l[0]?) h
  simp only [List.getElem?_drop, Nat.add_zero, List.cons_append, List.getElem?_cons_zero] at h1
  have h2 : s.data.toList[i]? = some (s[i]'hi) := by
   rw [List.getElem?_eq_getElem (by simpa using hi)]; rfl
  rw [h2] at h1
  injection h1
 ·rw [← List.drop_drop, h]; rfl
theorem Has.app {s : ByteArray} {i : Nat} {a b : List UInt8} (h : Has s i (a ++ b)) : Has s i a ∧ Has s (i + a.length) b := by
 obtain ⟨rest, h⟩ := h
 refine ⟨⟨b ++ rest, by rw [h, List.append_assoc]⟩, rest, ?_⟩
 rw [← List.drop_drop, h, List.append_assoc, List.drop_left]
theorem Has.all (bs : List UInt8) : Has ⟨bs.toArray⟩ 0 bs := ⟨[], by simp⟩
def Nd (s : ByteArray) (i : Nat) : Prop := ∀ hi : i < s.size, (s[i]'hi).toNat < 48 ∨ 57 < (s[i]'hi).toNat
theorem Nd.of {s : ByteArray} {i : Nat} {c : UInt8} {bs : List UInt8} (h : Has s i (c :: bs)) (hc : c.toNat < 48 ∨ 57 < c.toNat) : Nd s i := fun hi => by
 obtain ⟨⟨_, e⟩, _⟩ := h.cons
 rw [e]; exact hc
theorem Nd.out {s : ByteArray} {i : Nat} (h : s.size ≤ i) : Nd s i := fun hi => absurd hi (by omega)
def ser (c : UInt8) : List (List UInt8) → List UInt8
 | [] => []
 | [b] => b ++ [c]
 | b :: bs => b ++ 44 :: ser c bs
theorem ser_one (c : UInt8) (b : List UInt8) : ser c [b] = b ++ [c] := by simp [ser]
theorem ser_more (c : UInt8) (b d : List UInt8) (bs : List (List UInt8)) : ser c (b :: d :: bs) = b ++ 44 :: ser c (d :: bs) := by simp [ser]
def PreK (k : Int) (c : UInt8) : Prop := (k = 8 ∧ c = 43) ∨ (k = 11 ∧ c = 33) ∨ (k = 15 ∧ c = 94) ∨ (k = 16 ∧ c = 95)
def RndK (k : Int) (c : UInt8) : Prop := (k = 3 ∧ c = 62) ∨ (k = 13 ∧ c = 42) ∨ (k = 5 ∧ c = 32)
def BlkK (k : Int) (m : Nat) (o : List UInt8) (c : UInt8) : Prop := (k = 9 ∧ m = 4 ∧ o = [60] ∧ c = 62) ∨ (k = 10 ∧ m = 3 ∧ o = [123] ∧ c = 125) ∨ (k = 14 ∧ m = 3 ∧ o = [124] ∧ c = 124) ∨ (k = 12 ∧ m = 3 ∧ o = [64, 60] ∧ c = 62)
inductive Tx : Nat → Tm → List UInt8 → Prop
 | var (d : Nat) (n : Int) (c : UInt8) (h : 0 ≤ n ∧ n ≤ 9 ∧ (c.toNat : Int) = 48 + n) : Tx (d + 1) (.mk 1 n []) [35, c]
 | sort (d : Nat) (n : Int) (c : UInt8) (h : 0 ≤ n ∧ n ≤ 3 ∧ (c.toNat : Int) = 48 + n) : Tx (d + 1) (.mk 2 n []) [42, c]
 | nat (d : Nat) : Tx (d + 1) (.mk 6 0 []) [78]
 | zero (d : Nat) : Tx (d + 1) (.mk 7 0 []) [48]
 | pre (d : Nat) (k : Int) (c : UInt8) (t : Tm) (b : List UInt8) (h : PreK k c) (ht : Tx d t b) : Tx (d + 1) (.mk k 0 [t]) (c :: b)
 | rnd (d : Nat) (k : Int) (c : UInt8) (t u : Tm) (x y : List UInt8) (h : RndK k c) (ht : Tx d t x) (hu : Tx d u y) : Tx (d + 1) (.mk k 0 [t, u]) (40 :: (x ++ c :: (y ++ [41])))
 | lam (d : Nat) (t u : Tm) (x y : List UInt8) (ht : Tx d t x) (hu : Tx d u y) : Tx (d + 1) (.mk 4 0 [t, u]) (91 :: (x ++ 93 :: y))
 | blk (d : Nat) (k : Int) (m : Nat) (o : List UInt8) (c : UInt8) (ts : List Tm) (xs : List (List UInt8)) (h : BlkK k m o c) (hm : ts.length = m) (hx : xs.length = m) (ht : ∀ (j : Nat) (t : Tm) (x : List UInt8), ts[j]? = some t → xs[j]? = some x → Tx d t x) : Tx (d + 1) (.mk k 0 ts) (o ++ ser c xs)
theorem tx3 {d : Nat} {k : Int} {o : List UInt8} {c : UInt8} {t u v : Tm} {x y z : List UInt8} (h : BlkK k 3 o c) (ht : Tx d t x) (hu : Tx d u y) (hv : Tx d v z) : Tx (d + 1) (.mk k 0 [t, u, v]) (o ++ ser c [x, y, z]) :=
 .blk d k 3 o c [t, u, v] [x, y, z] h rfl rfl fun j a b h1 h2 => by
  match j, h1, h2 with
  | 0, h1, h2 => cases h1; cases h2; exact ht
  | 1, h1, h2 => cases h1; cases h2; exact hu
  | 2, h1, h2 => cases h1; cases h2; exact hv
theorem tx4 {d : Nat} {k : Int} {o : List UInt8} {c : UInt8} {t u v a : Tm} {x y z b : List UInt8} (h : BlkK k 4 o c) (ht : Tx d t x) (hu : Tx d u y) (hv : Tx d v z) (ha : Tx d a b) : Tx (d + 1) (.mk k 0 [t, u, v, a]) (o ++ ser c [x, y, z, b]) :=
 .blk d k 4 o c [t, u, v, a] [x, y, z, b] h rfl rfl fun j t' x' h1 h2 => by
  match j, h1, h2 with
  | 0, h1, h2 => cases h1; cases h2; exact ht
  | 1, h1, h2 => cases h1; cases h2; exact hu
  | 2, h1, h2 => cases h1; cases h2; exact hv
  | 3, h1, h2 => cases h1; cases h2; exact ha
theorem Tx.ne {d : Nat} {t : Tm} {b : List UInt8} (h : Tx d t b) : b ≠ [] := by
 cases h <;> simp
 rename_i h _ _ _
 rcases h with ⟨_, _, rfl, _⟩ | ⟨_, _, rfl, _⟩ | ⟨_, _, rfl, _⟩ | ⟨_, _, rfl, _⟩ <;> simp
theorem Tx.mono {d : Nat} {t : Tm} {b : List UInt8} (h : Tx d t b) : ∀ {d' : Nat}, d ≤ d' → Tx d' t b := by
 induction h with
 | var d n c h => intro d' hd; obtain ⟨e, rfl⟩ : ∃ e, d' = e + 1 := ⟨d' - 1, by omega⟩; exact .var e n c h
 | sort d n c h => intro d' hd; obtain ⟨e, rfl⟩ : ∃ e, d' = e + 1 := ⟨d' - 1, by omega⟩; exact .sort e n c h
 | nat d => intro d' hd; obtain ⟨e, rfl⟩ : ∃ e, d' = e + 1 := ⟨d' - 1, by omega⟩; exact .nat e
 | zero d => intro d' hd; obtain ⟨e, rfl⟩ : ∃ e, d' = e + 1 := ⟨d' - 1, by omega⟩; exact .zero e
 | pre d k c t b h ht ih => intro d' hd; obtain ⟨e, rfl⟩ : ∃ e, d' = e + 1 := ⟨d' - 1, by omega⟩; exact .pre e k c t b h (ih (by omega))
 | rnd d k c t u x y h ht hu i1 i2 => intro d' hd; obtain ⟨e, rfl⟩ : ∃ e, d' = e + 1 := ⟨d' - 1, by omega⟩; exact .rnd e k c t u x y h (i1 (by omega)) (i2 (by omega))
 | lam d t u x y ht hu i1 i2 => intro d' hd; obtain ⟨e, rfl⟩ : ∃ e, d' = e + 1 := ⟨d' - 1, by omega⟩; exact .lam e t u x y (i1 (by omega)) (i2 (by omega))
 | blk d k m o c ts xs h hm hx ht ih => intro d' hd; obtain ⟨e, rfl⟩ : ∃ e, d' = e + 1 := ⟨d' - 1, by omega⟩; exact .blk e k m o c ts xs h hm hx (fun j t x h1 h2 => ih j t x h1 h2 (by omega))
open Go.RowKit
set_option maxHeartbeats 2000000 in
set_option maxRecDepth 100000 in
theorem l19Num_one (s : ByteArray) (c : Nat) (w : World) (hs : s.size = 1) (hc : ∀ h : 0 < s.size, (s[0]'h).toNat = c) (h1 : 48 ≤ c) (h2 : c ≤ 57) :
  Calls Try.prog 79 #[.string s] w fun e w' => e = .returned (.tuple #[.int .i64 ((c : Int) - 48), .bool true]) ∧ w = w' := by
 have h0 : 0 < s.size := by omega
 have e0 := hc h0
 have q45 : ((c : Int) == 45) = false := beq_eq_false_iff_ne.2 (by omega)
 have hsl : (s.size : Int) ≤ 1 := by omega
 have hsg : (1 : Int) ≤ (s.size : Int) := by omega
 have enter : Hid True → Calls Try.prog 79 #[.string s] w fun e w' => e = .returned (.tuple #[.int .i64 ((c : Int) - 48), .bool true]) ∧ w = w' := by
  intro _
  by_cases h48 : c = 48
  ·have q48 : ((c : Int) == 48) = true := by rw [h48]; rfl
   clear h48 hc
   go_enter Try.func79, Try.ntmps79
   go_wp2
   go_loop [5, 6] (fun v i => ∃ k : Nat, k ≤ 1 ∧ i = .int .i64 k ∧ v = .int .i64 (if k = 0 then 0 else (c : Int) - 48)) (fun _ i => 1 - (intOf i).toNat)
   case atStart => exact ⟨0, by omega, rfl, rfl⟩
   case round =>
    obtain ⟨k, hk, rfl, rfl⟩ := hrel
    by_cases hk0 : k = 0
    ·subst hk0
     have d1 : decide ((c : Int) < 48) = false := decide_eq_false (by omega)
     have d2 : decide ((57 : Int) < (c : Int)) = false := decide_eq_false (by omega)
     have u8 : IntKind.u8.wrap ((c : Int) - 48) = (c : Int) - 48 := IntWalk.u8_in _ (by omega)
     go_wp2
     go_round
     case rel => exact ⟨1, by omega, rfl, by simp⟩
     case measure => simp [intOf]
    ·obtain rfl : k = 1 := by omega
     go_wp2
     go_ret2
     exact ⟨rfl, rfl⟩
  ·have q48 : ((c : Int) == 48) = false := beq_eq_false_iff_ne.2 (by omega)
   clear h48 hc
   go_enter Try.func79, Try.ntmps79
   go_wp2
   go_loop [5, 6] (fun v i => ∃ k : Nat, k ≤ 1 ∧ i = .int .i64 k ∧ v = .int .i64 (if k = 0 then 0 else (c : Int) - 48)) (fun _ i => 1 - (intOf i).toNat)
   case atStart => exact ⟨0, by omega, rfl, rfl⟩
   case round =>
    obtain ⟨k, hk, rfl, rfl⟩ := hrel
    by_cases hk0 : k = 0
    ·subst hk0
     have d1 : decide ((c : Int) < 48) = false := decide_eq_false (by omega)
     have d2 : decide ((57 : Int) < (c : Int)) = false := decide_eq_false (by omega)
     have u8 : IntKind.u8.wrap ((c : Int) - 48) = (c : Int) - 48 := IntWalk.u8_in _ (by omega)
     go_wp2
     go_round
     case rel => exact ⟨1, by omega, rfl, by simp⟩
     case measure => simp [intOf]
    ·obtain rfl : k = 1 := by omega
     go_wp2
     go_ret2
     exact ⟨rfl, rfl⟩
 exact enter trivial
theorem cut_one (s : ByteArray) (i : Nat) (hi : i < s.size) : (s.extract i (i + 1)).size = 1 ∧ ∀ h : 0 < (s.extract i (i + 1)).size, (s.extract i (i + 1))[0]'h = s[i]'hi := by
 refine ⟨by rw [ByteArray.size_extract]; omega, fun h => ?_⟩
 rw [ByteArray.getElem_extract]
 simp
set_option maxHeartbeats 2000000 in
set_option maxRecDepth 100000 in
theorem l1Number_one (s : ByteArray) (i c : Nat) (dg : Int) (w : World) (hd : dg = 1 ∨ dg = 2) (hs : s.size ≤ 1000000) (hi : i < s.size) (hc : (s[i]'hi).toNat = c) (h1 : 48 ≤ c) (h2 : c ≤ 57) (hn : dg = 2 → Nd s (i + 1)) :
  Calls Try.prog 65 #[.string s, .int .i64 i, .int .i64 dg] w fun e w' => e = .returned (.tuple #[.int .i64 ((c : Int) - 48), .int .i64 ((i + 1 : Nat) : Int)]) ∧ w = w' := by
 obtain ⟨x1, x2⟩ := cut_one s i hi
 have hnum := hide (fun (w : World) => l19Num_one (s.extract i (i + 1)) c w x1 (fun h => by rw [x2 h, hc]) h1 h2)
 have d1 : decide ((48 : Int) ≤ (c : Int)) = true := decide_eq_true (by omega)
 have d2 : decide ((c : Int) ≤ 57) = true := decide_eq_true (by omega)
 have hn' := hide hn
 have hc' := hide hc
 have hd' := hide hd
 clear x1 x2 hn hd
 have hdl : 1 ≤ dg ∧ dg ≤ 2 := by rcases hd'.out with h | h <;> omega
 go_enter Try.func65, Try.ntmps65
 go_wp2
 go_loop [8] (fun v => ∃ k : Nat, k ≤ 1 ∧ v = .int .i64 (i + k : Nat)) (fun v => i + 1 - (intOf v).toNat)
 case atStart => exact ⟨0, by omega, rfl⟩
 case round =>
  obtain ⟨k, hk, rfl⟩ := hrel
  by_cases hk0 : k = 0
  ·subst hk0
   go_wp2
   go_round
   case rel => exact ⟨1, by omega, rfl⟩
   case measure => simp [intOf]
  ·obtain rfl : k = 1 := by omega
   clear hk hk0
   by_cases hl : i + 1 < s.size
   ·rcases hd'.out with rfl | rfl
    ·go_wp2_with (go_at_call 79; refine (hnum.out _).mono ?_; rintro e w1 ⟨rfl, rfl⟩)
     go_ret2
     exact ⟨rfl, rfl⟩
    ·have hnd := hn'.out rfl hl
     obtain ⟨c2, hc2⟩ : ∃ c2, (s[i + 1]'hl).toNat = c2 := ⟨_, rfl⟩
     rw [hc2] at hnd
     by_cases h5 : c2 < 48
     ·have e1 : decide ((48 : Int) ≤ (c2 : Int)) = false := decide_eq_false (by omega)
      go_wp2_with (go_at_call 79; refine (hnum.out _).mono ?_; rintro e w1 ⟨rfl, rfl⟩)
      go_ret2
      exact ⟨rfl, rfl⟩
     ·have e1 : decide ((48 : Int) ≤ (c2 : Int)) = true := decide_eq_true (by omega)
      have e2 : decide ((c2 : Int) ≤ 57) = false := decide_eq_false (by omega)
      go_wp2_with (go_at_call 79; refine (hnum.out _).mono ?_; rintro e w1 ⟨rfl, rfl⟩)
      go_ret2
      exact ⟨rfl, rfl⟩
   ·go_wp2_with (go_at_call 79; refine (hnum.out _).mono ?_; rintro e w1 ⟨rfl, rfl⟩)
    go_ret2
    exact ⟨rfl, rfl⟩
open Go.RowKit
def ParsedT (w : World) (k n : Int) (ks : List Tm) (j : Nat) (e : Ending) (w' : World) : Prop :=
 ∃ (m : Nat) (A : Option Addr) (c : Nat), m = j ∧ e = .returned (.tuple #[.agg #[.int .i64 k, .int .i64 n, .slice A ks.length c], .int .i64 m]) ∧ ks.length ≤ 9223372036854775807 ∧ Fresh w.heap.size w' A ks ∧ Below w.heap.size w w'
def ParseOk (k n : Int) (ks : List Tm) (bs : List UInt8) (d : Nat) : Prop :=
 ∀ (s : ByteArray) (i : Nat) (I D : Int) (w : World), s.size ≤ 1000000 → I = i → Has s i bs → Nd s (i + bs.length) → (d : Int) ≤ D → D ≤ 1000 →
  Calls Try.prog 60 #[.string s, .int .i64 I, .int .i64 D] w (ParsedT w k n ks (i + bs.length))
theorem Fresh.node {B : Nat} {w : World} {A : Option Addr} {ks : List Tm} (h : Fresh B w A ks) (hl : ks.length ≤ 9223372036854775807) (k n : Int) (c : Nat) :
  ∃ fp, OwX w [.mk k n ks] [.int .i64 k, .int .i64 n, .slice A ks.length c] fp ∧ fp.Nodup ∧ ∀ b, b ∈ fp → B ≤ b := by
 obtain ⟨fp, h1, h2, h3⟩ := h
 exact ⟨fp, OwX.one (OwT.iff.2 ⟨A, c, rfl, hl, h1⟩), h2, h3⟩
theorem Fresh.node2 {B : Nat} {w1 w2 : World} {A1 A2 : Option Addr} {ks1 ks2 : List Tm} (h1 : Fresh B w1 A1 ks1) (hb : Below w1.heap.size w1 w2) (h2 : Fresh w1.heap.size w2 A2 ks2) (hB : B ≤ w1.heap.size)
  (hl1 : ks1.length ≤ 9223372036854775807) (hl2 : ks2.length ≤ 9223372036854775807) (k1 n1 k2 n2 : Int) (c1 c2 : Nat) :
  ∃ fp, OwX w2 [.mk k1 n1 ks1, .mk k2 n2 ks2] [.int .i64 k1, .int .i64 n1, .slice A1 ks1.length c1, .int .i64 k2, .int .i64 n2, .slice A2 ks2.length c2] fp ∧ fp.Nodup ∧ ∀ b, b ∈ fp → B ≤ b := by
 obtain ⟨f1, a1, a2, a3⟩ := h1
 obtain ⟨f2, b1, b2, b3⟩ := h2
 have hlt := a1.lt
 refine ⟨f1 ++ f2, OwX.cons_iff.2 ⟨[.int .i64 k1, .int .i64 n1, .slice A1 ks1.length c1], [.int .i64 k2, .int .i64 n2, .slice A2 ks2.length c2], f1, f2, rfl, rfl, OwT.iff.2 ⟨A1, c1, rfl, hl1, a1.frame fun b hbf => hb.block b (hlt b hbf)⟩, OwX.one (OwT.iff.2 ⟨A2, c2, rfl, hl2, b1⟩)⟩, ?_, ?_⟩
 ·refine List.nodup_append.2 ⟨a2, b2, fun x hx y hy e => ?_⟩
  have := hlt x hx; have := b3 y hy; omega
 ·intro b hbm
  rcases List.mem_append.1 hbm with h | h
  ·exact a3 b h
  ·have := b3 b h; omega
theorem OwX.below {w w' : World} {ts : List Tm} {xs : List Value} {fp : List Nat} (h : OwX w ts xs fp) (hb : Below w.heap.size w w') : OwX w' ts xs fp := h.frame fun b hbf => hb.block b (h.lt b hbf)
theorem OwX.alloc {w : World} {ts : List Tm} {xs : List Value} {fp : List Nat} (h : OwX w ts xs fp) (o : Obj) : OwX (w.alloc o) ts xs fp := h.frame fun b hb => Below.heap_alloc w o b (h.lt b hb)
theorem Part.empty {B g : Nat} {w : World} (h : Blk w g #[]) (hg : B ≤ g) (ht : ∀ t, w.heap[g]? = some (.cells #[] t (0, 0)) → t = 25) : Part B w (.slice (some ⟨g, 0, none⟩) 0 0) [] := by
 obtain ⟨t, h⟩ := h
 have := ht t h
 subst this
 exact ⟨[], [], ⟨by simp, .inr ⟨g, 0, #[], rfl, hg, h, Nat.le_refl _, by simp [maxLen], by simp, by simp⟩⟩, OwX.nil, List.nodup_nil, by simp, by simp⟩
theorem Part.empty_ {B g : Nat} {w : World} (hg : g = w.heap.size) (hB : B ≤ g) : Part B (w.alloc (.cells #[] 25)) (.slice (some ⟨g, 0, none⟩) 0 0) [] := by
 subst hg
 exact ⟨[], [], ⟨by simp, .inr ⟨_, 0, #[], rfl, hB, heap_alloc_new w _, Nat.le_refl _, by simp [maxLen], by simp, by simp⟩⟩, OwX.nil, List.nodup_nil, by simp, by simp⟩
set_option maxHeartbeats 2000000 in
set_option maxRecDepth 100000 in
theorem prefix_any {k : Int} {c : UInt8} {k1 n1 : Int} {ks1 : List Tm} {b : List UInt8} {d : Nat} (h : PreK k c) (ih : ParseOk k1 n1 ks1 b d) (s : ByteArray) (i : Nat) (I D : Int) (w : World) (hs : s.size ≤ 1000000) (hI : I = i) (hh : Has s i (c :: b)) (hn : Nd s (i + 1 + b.length)) (hD : (d : Int) + 1 ≤ D) (hD2 : D ≤ 1000) :
  Calls Try.prog 66 #[.string s, .int .i64 I, .int .i64 D] w (ParsedT w k 0 [.mk k1 n1 ks1] (i + 1 + b.length)) := by
 subst hI
 obtain ⟨⟨hi, hc⟩, hh2⟩ := hh.cons
 have hpar := hide (fun w => ih s (i + 1) ((i : Int) + 1) (D - 1) w hs (by omega) hh2 hn (by omega) (by omega))
 clear ih hh hh2 hn
 have enter : ∀ x : Nat, (s[i]'hi).toNat = x → (x = c.toNat) → Calls Try.prog 66 #[.string s, .int .i64 i, .int .i64 D] w (ParsedT w k 0 [.mk k1 n1 ks1] (i + 1 + b.length)) := by
  intro x he hx
  clear hc
  rcases h with ⟨rfl, rfl⟩ | ⟨rfl, rfl⟩ | ⟨rfl, rfl⟩ | ⟨rfl, rfl⟩
  all_goals
   subst hx
   go_enter Try.func66, Try.ntmps66
   go_wp2_with (first
    | (go_at_call 46; refine (l1Node_any (B := w.heap.size + 1) (us := [.mk k1 n1 ks1]) _ (by simp; omega) ((hO.alloc _).alloc _) hnd hge (by simp) _ 1 (Blk.new_ _ 25 _ (by simp))).mono ?_; rintro e w2 ⟨A2, c2, rfl, hf2, hb2⟩; replace hZ := ((hZ.alloc _).alloc _).keep hb2; have d0 := hZ.at_ (i := 0) rfl; have d1 := hZ.at_ (i := 1) rfl; have d2 := hZ.at_ (i := 2) rfl; have e0 := hZ.frozen 0; have e1 := hZ.frozen 1; have e2 := hZ.frozen 2; have g2 : Below w.heap.size w w2 := ((g1.alloc (by omega) _).alloc (by simp; omega) _).trans (hb2.mono (by simp; omega)))
    | (go_at_call 60; refine (hpar.out _).mono ?_; rintro e w1 ⟨m, A1, c1, hm, rfl, hl1, hf1, hb1⟩; have hm' := hide hm; clear hm; obtain ⟨fp, hO, hnd, hge⟩ := (hf1.mono (B' := w.heap.size + 1) (by simp)).node hl1 k1 n1 c1; have hZ := (Blk.new_ w 25 #[.int .i64 0, .int .i64 0, .slice none 0 0] rfl).keep hb1; have g1 : Below w.heap.size w w1 := ((Below.refl _ _).alloc (Nat.le_refl _) _).trans (hb1.mono (by simp)); have s1 := g1.size))
   refine bodyPost_ret (v := _) ?_ rfl ⟨m, A2, c2, hm'.out, rfl, by simp, ?_, ((g2.setCell (by simp) _).setCell (by simp) _).setCell (by simp) _⟩
   ·simp [results, Try.results66, go_sem, d0, d1, d2]
   ·exact (((hf2.setCell (by simp) _).setCell (by simp) _).setCell (by simp) _).mono (by omega)
 exact enter _ rfl (by rw [hc])
theorem Has.lt {s : ByteArray} {i : Nat} {c : UInt8} {bs : List UInt8} (h : Has s i (c :: bs)) : i < s.size := h.cons.1.1
set_option maxHeartbeats 4000000 in
set_option maxRecDepth 100000 in
theorem round_any {k : Int} {c : UInt8} {k1 n1 : Int} {ks1 : List Tm} {x : List UInt8} {k2 n2 : Int} {ks2 : List Tm} {y : List UInt8} {d : Nat} (h : RndK k c) (ih1 : ParseOk k1 n1 ks1 x d) (ih2 : ParseOk k2 n2 ks2 y d) (s : ByteArray) (i : Nat) (I D : Int) (w : World) (hs : s.size ≤ 1000000) (hI : I = i) (hh : Has s i (x ++ c :: (y ++ [41]))) (hD : (d : Int) ≤ D) (hD2 : D ≤ 1000) :
  Calls Try.prog 67 #[.string s, .int .i64 I, .int .i64 D] w (ParsedT w k 0 [.mk k1 n1 ks1, .mk k2 n2 ks2] (i + x.length + 1 + y.length + 1)) := by
 subst hI
 obtain ⟨hh1, hh2⟩ := hh.app
 obtain ⟨⟨hi, hc⟩, hh3⟩ := hh2.cons
 obtain ⟨hh4, hh5⟩ := hh3.app
 obtain ⟨⟨hi2, hc2⟩, _⟩ := hh5.cons
 have hnd1 : Nd s (i + x.length) := .of hh2 (by rcases h with ⟨_, rfl⟩ | ⟨_, rfl⟩ | ⟨_, rfl⟩ <;> decide)
 have hnd2 : Nd s (i + x.length + 1 + y.length) := .of hh5 (by decide)
 have enter : ∀ (j1 j2 : Nat) (hi : j1 < s.size) (hi2 : j2 < s.size) (z z2 : Nat), (s[j1]'hi).toNat = z → z = c.toNat → (s[j2]'hi2).toNat = z2 → z2 = 41 → (∀ w, Calls Try.prog 60 #[.string s, .int .i64 i, .int .i64 D] w (ParsedT w k1 n1 ks1 j1)) →
   (∀ w (I : Int), I = (j1 + 1 : Nat) → Calls Try.prog 60 #[.string s, .int .i64 I, .int .i64 D] w (ParsedT w k2 n2 ks2 j2)) → Calls Try.prog 67 #[.string s, .int .i64 i, .int .i64 D] w (ParsedT w k 0 [.mk k1 n1 ks1, .mk k2 n2 ks2] (j2 + 1)) := by
  clear hc hc2 hi hi2 hh hh1 hh2 hh3 hh4 hh5 hnd1 hnd2 ih1 ih2
  intro j1 j2 hi hi2 z z2 he hx he2 hx2 hp1 hp2
  have hpar1 := hide hp1
  have hpar2 := hide hp2
  clear hp1 hp2
  subst hx2
  rcases h with ⟨rfl, rfl⟩ | ⟨rfl, rfl⟩ | ⟨rfl, rfl⟩
  all_goals
   subst hx
   go_enter Try.func67, Try.ntmps67
   go_wp2_with (first
    | (go_at_call 46; (refine (l1Node_any (B := w.heap.size + 1) (us := [.mk k1 n1 ks1, .mk k2 n2 ks2]) _ (by simp; omega) ((hO2.alloc _).alloc _) hnd hge (by simp) _ 2 (Blk.new_ _ 25 _ (by simp))).mono ?_); rintro e w4 ⟨A4, c4, rfl, hf4, hb4⟩; replace hZ := ((hZ.alloc _).alloc _).keep hb4; have d0 := hZ.at_ (i := 0) rfl; have d1 := hZ.at_ (i := 1) rfl; have d2 := hZ.at_ (i := 2) rfl; have e0 := hZ.frozen 0; have e1 := hZ.frozen 1; have e2 := hZ.frozen 2; have g4 : Below w.heap.size w w4 := ((g3.alloc (by omega) _).alloc (by simp; omega) _).trans (hb4.mono (by simp; omega)))
    | (go_at_call 60; have _t := tok; refine (hpar2.out _ _ (by omega)).mono ?_; rintro e w3 ⟨m2, A2, c2, hm2, rfl, hl2, hf2, hb2⟩; subst hm2; clear tok; obtain ⟨fp, hO2, hnd, hge⟩ := (hf1.alloc _).node2 hb2 hf2 (by simp; omega) hl1 hl2 k1 n1 k2 n2 c1 c2; replace hZ := (hZ.alloc _).keep hb2; have hX1 := (Blk.new_ w1 25 #[.int .i64 k1, .int .i64 n1, .slice A1 ks1.length c1] rfl).keep hb2; have x0 := hX1.at_ (i := 0) rfl; have x1 := hX1.at_ (i := 1) rfl; have x2 := hX1.at_ (i := 2) rfl; have lx := hX1.lt; have lz := hZ.lt; have g3 : Below w.heap.size w w3 := (g1.alloc (by omega) _).trans (hb2.mono (by simp; omega)); have s3 := g3.size; have s13 : w1.heap.size + 1 ≤ w3.heap.size := (by have := hb2.size; simpa using this))
    | (go_at_call 60; refine (hpar1.out _).mono ?_; rintro e w1 ⟨m, A1, c1, hm, rfl, hl1, hf1, hb1⟩; subst hm; have tok : True := trivial; replace hf1 := hf1.mono (B' := w.heap.size + 1) (by simp); have hZ := (Blk.new_ w 25 #[.int .i64 0, .int .i64 0, .slice none 0 0] rfl).keep hb1; have g1 : Below w.heap.size w w1 := ((Below.refl _ _).alloc (Nat.le_refl _) _).trans (hb1.mono (by simp)); have s1 := g1.size; have s1' := hZ.lt))
   refine bodyPost_ret (v := _) ?_ rfl ⟨m2 + 1, A4, c4, rfl, rfl, by simp, ?_, ((g4.setCell (by simp) _).setCell (by simp) _).setCell (by simp) _⟩
   ·simp [results, Try.results67, go_sem, d0, d1, d2]
   ·exact (((hf4.setCell (by simp) _).setCell (by simp) _).setCell (by simp) _).mono (by omega)
 exact enter _ _ hi hi2 _ _ rfl (by rw [hc]) rfl (by rw [hc2]; rfl) (fun w => ih1 s i i D w hs rfl hh1 hnd1 hD hD2) (fun w I hI => ih2 s (i + x.length + 1) I D w hs hI hh4 hnd2 hD hD2)
open Go.RowKit
def ParsedL (w : World) (ts : List Tm) (j : Nat) (e : Ending) (w' : World) : Prop :=
 ∃ (m : Nat) (A : Option Addr) (c : Nat), m = j ∧ e = .returned (.tuple #[.slice A ts.length c, .int .i64 m]) ∧ Fresh w.heap.size w' A ts ∧ Below w.heap.size w w'
theorem ser_step {c : UInt8} {xs : List (List UInt8)} {j : Nat} {x : List UInt8} (hj : j < xs.length) (hx : xs[j] = x) :
  ser c (xs.drop j) = x ++ (if j + 1 < xs.length then 44 else c) :: ser c (xs.drop (j + 1)) := by
 rw [List.drop_eq_getElem_cons hj, hx]
 by_cases h : j + 1 < xs.length
 ·rw [if_pos h, List.drop_eq_getElem_cons h, ser_more]
 ·rw [if_neg h, List.drop_eq_nil_of_le (by omega : xs.length ≤ j + 1), ser_one]
  simp [ser]
set_option maxHeartbeats 4000000 in
set_option maxRecDepth 100000 in
theorem series_any {d : Nat} (c : UInt8) (hcd : c.toNat < 48 ∨ 57 < c.toNat) (ts : List Tm) (xs : List (List UInt8)) (hl : xs.length = ts.length) (hl4 : ts.length ≤ 4)
  (ih : ∀ (j : Nat) (k n : Int) (ks : List Tm) (x : List UInt8), ts[j]? = some (.mk k n ks) → xs[j]? = some x → ParseOk k n ks x d)
  (s : ByteArray) (i : Nat) (I D : Int) (w : World) (hs : s.size ≤ 1000000) (hI : I = i) (hh : Has s i (ser c xs)) (hD : (d : Int) ≤ D) (hD2 : D ≤ 1000) :
  Calls Try.prog 80 #[.string s, .int .i64 I, .int .i64 D, .int .i64 ts.length, .int .u8 c.toNat] w (ParsedL w ts (i + (ser c xs).length)) := by
 subst hI
 have hl' := hide hl
 have hh' := hide hh
 have ih' := hide ih
 clear hl hh ih
 obtain ⟨cv, hcv⟩ : ∃ cv, c.toNat = cv := ⟨_, rfl⟩
 rw [hcv] at hcd ⊢
 have hcv' := hide hcv
 clear hcv
 go_enter Try.func80, Try.ntmps80
 go_wp2_with fail
 go_loopw [1, 12, 13] (fun a v jv wr => ∃ (j p : Nat), j ≤ ts.length ∧ jv = .int .i64 j ∧ a = .int .i64 p ∧ Part w.heap.size wr v (ts.take j) ∧ Has s p (ser c (xs.drop j)) ∧ p + (ser c (xs.drop j)).length = i + (ser c xs).length ∧ Below w.heap.size w wr) (fun _ _ jv _ => ts.length - (intOf jv).toNat)
 case atStart => exact ⟨0, i, Nat.zero_le _, rfl, rfl, Part.empty_ rfl (Nat.le_refl _), hh'.out, by simp, (Below.refl _ _).alloc (Nat.le_refl _) _⟩
 case round =>
  obtain ⟨j, p, hj, rfl, rfl, hp, hs1, hs2, hb⟩ := hrel
  have hs2' := hide hs2
  clear hs2
  by_cases hlt : j < ts.length
  ·have hlx : j < xs.length := by have := hl'.out; omega
   obtain ⟨k1, n1, ks1, hk1⟩ : ∃ k n ks, ts[j] = .mk k n ks := by cases h : ts[j]; exact ⟨_, _, _, rfl⟩
   obtain ⟨x, hx⟩ : ∃ x, xs[j] = x := ⟨_, rfl⟩
   have hst := ser_step (c := c) hlx hx
   rw [hst] at hs1
   obtain ⟨hh1, hh2⟩ := hs1.app
   obtain ⟨⟨hi, hc⟩, hh3⟩ := hh2.cons
   have hnd : Nd s (p + x.length) := .of hh2 (by split; decide; rw [hcv'.out]; exact hcd)
   obtain ⟨j1, hj1⟩ : ∃ j1, j1 = p + x.length := ⟨_, rfl⟩
   have hi1 : j1 < s.size := by omega
   have he1 : (s[j1]'hi1).toNat = if j + 1 < ts.length then 44 else cv := by
    subst hj1
    rw [hc, ← hl'.out]
    split
    ·rfl
    ·exact hcv'.out
   have hpar := hide (fun w => show Calls Try.prog 60 #[.string s, .int .i64 p, .int .i64 D] w (ParsedT w k1 n1 ks1 j1) by rw [hj1]; exact ih'.out j k1 n1 ks1 x (by rw [List.getElem?_eq_getElem hlt, hk1]) (by rw [List.getElem?_eq_getElem hlx, hx]) s p p D w hs rfl hh1 hnd hD hD2)
   have hend : Hid (j1 + 1 + (ser c (xs.drop (j + 1))).length = i + (ser c xs).length) := by
    have := hs2'.out; rw [hst] at this; simp only [List.length_append, List.length_cons] at this; show _ = _; omega
   have hk1' := hide hk1
   have hh3' := hide (hj1 ▸ hh3)
   clear hh1 hh2 hh3 hst hs1 hnd hk1 hc hi hj1 hx hlx
   by_cases hmore : j + 1 < ts.length
   ·rw [if_pos hmore] at he1
    have q1 : decide ((j : Int) + 1 < (ts.length : Int)) = true := decide_eq_true (by omega)
    have q2 : (((j : Int) + 1) == (ts.length : Int)) = false := beq_eq_false_iff_ne.2 (by omega)
    go_wp2_with (first
     | (at_builtin; refine wpList_append_built (B := w.heap.size) (m := j) (k := k1) (n := n1) (c := c1) hp (hb1.alloc hb1.size _) (by have := hb.size; omega) (hf1.alloc _) hl1 (by rw [List.length_take]; omega) (by omega) rfl _ _ rfl rfl (by show Value.slice (some ⟨w1.heap.size + 1, 0, none⟩) 1 1 = _; simp) ?_; intro A2 c2 w2 hp2 hb2 hg2)
     | (go_at_call 60; refine (hpar.out _).mono ?_; rintro e w1 ⟨m, A1, c1, hm, rfl, hl1, hf1, hb1⟩; subst hm))
    go_roundw
    case rel => exact ⟨j + 1, m + 1, by omega, by go_num, by go_num, by rw [List.take_succ_eq_append_getElem hlt, hk1'.out]; exact hp2, hh3'.out, hend.out, (hb.trans (hb1.mono hb.size)).trans (((Below.refl _ _).alloc (by have := hb.size; have := hb1.size; omega) _).trans hb2)⟩
    case measure => simp [intOf]; omega
   ·rw [if_neg hmore] at he1
    have q1 : decide ((j : Int) + 1 < (ts.length : Int)) = false := decide_eq_false (by omega)
    have q2 : (((j : Int) + 1) == (ts.length : Int)) = true := by rw [show ((j : Int) + 1) = (ts.length : Int) by omega]; exact beq_self_eq_true _
    go_wp2_with (first
     | (at_builtin; refine wpList_append_built (B := w.heap.size) (m := j) (k := k1) (n := n1) (c := c1) hp (hb1.alloc hb1.size _) (by have := hb.size; omega) (hf1.alloc _) hl1 (by rw [List.length_take]; omega) (by omega) rfl _ _ rfl rfl (by show Value.slice (some ⟨w1.heap.size + 1, 0, none⟩) 1 1 = _; simp) ?_; intro A2 c2 w2 hp2 hb2 hg2)
     | (go_at_call 60; refine (hpar.out _).mono ?_; rintro e w1 ⟨m, A1, c1, hm, rfl, hl1, hf1, hb1⟩; subst hm))
    go_roundw
    case rel => exact ⟨j + 1, m + 1, by omega, by go_num, by go_num, by rw [List.take_succ_eq_append_getElem hlt, hk1'.out]; exact hp2, hh3'.out, hend.out, (hb.trans (hb1.mono hb.size)).trans (((Below.refl _ _).alloc (by have := hb.size; have := hb1.size; omega) _).trans hb2)⟩
    case measure => simp [intOf]; omega
  ·have hjl : j = ts.length := by omega
   subst hjl
   rw [List.take_length] at hp
   obtain ⟨Ar, cr, rfl, hfr⟩ := hp.fresh
   have hx0 : ser c (xs.drop ts.length) = [] := by rw [← hl'.out, List.drop_length]; rfl
   have hfin := hide (show p = i + (ser c xs).length by have := hs2'.out; rw [hx0] at this; simpa using this)
   clear hs1 hx0
   go_wp2_with fail
   go_ret2
   exact ⟨p, Ar, cr, hfin.out, rfl, hfr, hb⟩
end Go.Proofs.Ytddkehjdjfmhmaa
