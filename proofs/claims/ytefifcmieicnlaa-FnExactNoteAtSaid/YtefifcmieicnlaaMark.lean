/-
  markTerm, heldTerm of the laws: marks written all over a term of our own, and read again. No condition.
-/
import Derived.Test.YtefifcmieicnlaaOwn
import Derived.Test.YtefifcmieicnlaaCount
import Derived.WalkSpells
import Derived.WalkLawsBesides
namespace Go.Proofs.Ytefifcmieicnlaa
open Go.RowKit
set_option linter.unusedSimpArgs false
set_option linter.unusedVariables false

/-- nothing but the blocks of a list has turned -/
structure OnlyIn (fp : List Nat) (w w' : World) : Prop where
  os : w'.os = w.os
  tape : w'.tape = w.tape
  output : w'.output = w.output
  size : w.heap.size ≤ w'.heap.size
  block : ∀ b, b < w.heap.size → b ∉ fp → w'.heap[b]? = w.heap[b]?
theorem OnlyIn.refl (fp : List Nat) (w : World) : OnlyIn fp w w := ⟨rfl, rfl, rfl, Nat.le_refl _, fun _ _ _ => rfl⟩
theorem OnlyIn.trans {fp : List Nat} {a b c : World} (h : OnlyIn fp a b) (k : OnlyIn fp b c) : OnlyIn fp a c :=
  ⟨k.os.trans h.os, k.tape.trans h.tape, k.output.trans h.output, Nat.le_trans h.size k.size, fun i hi hn => (k.block i (Nat.lt_of_lt_of_le hi h.size) hn).trans (h.block i hi hn)⟩
theorem OnlyIn.mono {fp fq : List Nat} {w w' : World} (h : OnlyIn fp w w') (hs : ∀ b, b ∈ fp → b ∈ fq) : OnlyIn fq w w' := ⟨h.os, h.tape, h.output, h.size, fun b hb hn => h.block b hb fun hm => hn (hs b hm)⟩
theorem OnlyIn.setCell {fp : List Nat} {a w : World} (h : OnlyIn fp a w) {p : Addr} (hp : p.block ∈ fp) (u : Value) : OnlyIn fp a (w.setCell p u) :=
  ⟨h.os, h.tape, h.output, by simpa [World.setCell] using h.size, fun i hi hn => (Below.heap_setCell w p u i (fun e => hn (e ▸ hp))).trans (h.block i hi hn)⟩
theorem OnlyIn.below {fp : List Nat} {w w' : World} {B : Nat} (h : OnlyIn fp w w') (hB : B ≤ w.heap.size) (hf : ∀ b, b ∈ fp → B ≤ b) : Below B w w' :=
  ⟨h.os, h.tape, h.output, h.size, fun b hb => h.block b (by omega) fun hm => by have := hf b hm; omega⟩
theorem OnlyIn.allocd {fp : List Nat} {w w' : World} {o : Obj} (h : OnlyIn fp (w.alloc o) w') : OnlyIn fp w w' :=
  ⟨h.os, h.tape, h.output, Nat.le_trans (by simp) h.size, fun b hb hn => (h.block b (by simp; omega) hn).trans (Below.heap_alloc w o b hb)⟩

theorem OwX.split {w : World} {t : Tm} {us : List Tm} : ∀ {ts : List Tm} {xs : List Value} {fp : List Nat}, OwX w (ts ++ t :: us) xs fp →
    ∃ x0 x1 x2 f0 f1 f2, xs = x0 ++ (x1 ++ x2) ∧ fp = f0 ++ (f1 ++ f2) ∧ OwX w ts x0 f0 ∧ OwT w t x1 f1 ∧ OwX w us x2 f2
  | [], xs, fp, h => by
    obtain ⟨x1, x2, f1, f2, rfl, rfl, h1, h2⟩ := OwX.cons_iff.1 h
    exact ⟨[], x1, x2, [], f1, f2, rfl, rfl, OwX.nil, h1, h2⟩
  | s :: ts, xs, fp, h => by
    obtain ⟨y1, y2, e1, e2, rfl, rfl, k1, k2⟩ := OwX.cons_iff.1 h
    obtain ⟨x0, x1, x2, f0, f1, f2, rfl, rfl, h0, h1, h2⟩ := OwX.split k2
    exact ⟨y1 ++ x0, x1, x2, e1 ++ f0, f1, f2, by rw [List.append_assoc], by rw [List.append_assoc], OwX.cons_iff.2 ⟨y1, x0, e1, f0, rfl, rfl, k1, h0⟩, h1, h2⟩
theorem OwX.join {w : World} {t : Tm} {us ts : List Tm} {x0 x1 x2 : List Value} {f0 f1 f2 : List Nat} (h0 : OwX w ts x0 f0) (h1 : OwT w t x1 f1) (h2 : OwX w us x2 f2) : OwX w (ts ++ t :: us) (x0 ++ (x1 ++ x2)) (f0 ++ (f1 ++ f2)) :=
  h0.append (OwX.cons_iff.2 ⟨x1, x2, f1, f2, rfl, rfl, h1, h2⟩)

mutual
/-- marks, counted up -/
def markT : Int → Tm → Tm | m, .mk _ _ ks => .mk m (m + 1) (markL (m + 2) ks)
def markL : Int → List Tm → List Tm | _, [] => [] | m, t :: ts => markT m t :: markL (m + 2 * t.size) ts
end
theorem markL_length : ∀ (ts : List Tm) (m : Int), (markL m ts).length = ts.length
  | [], m => by simp [markL]
  | t :: ts, m => by rw [markL, List.length_cons, List.length_cons, markL_length ts]
theorem markL_append : ∀ (ts us : List Tm) (m : Int), markL m (ts ++ us) = markL m ts ++ markL (m + 2 * sizes ts) us
  | [], us, m => by simp [markL, sizes]
  | t :: ts, us, m => by
    rw [List.cons_append, markL, markL, markL_append ts us, List.cons_append, sizes]
    congr 3
    push_cast
    omega
theorem mark_sizes : (∀ t m, (markT m t).size = t.size) ∧ (∀ ts m, sizes (markL m ts) = sizes ts) := by
  refine Tm.ind2 (fun k n ks ih m => ?_) (fun m => by simp [markL]) (fun t ts h1 h2 m => ?_)
  · rw [markT, Tm.size, Tm.size, ih]
  · rw [markL, sizes, sizes, h1, h2]

theorem take3 {cur : Array Value} {n j : Nat} {x0 x1 x2 : List Value} (h : cur.toList.take n = x0 ++ (x1 ++ x2)) (h0 : x0.length = j) (i : Nat) (v : Value) (hi : x1[i]? = some v) : cur[j + i]? = some v := by
  have hlt : i < x1.length := (List.getElem?_eq_some_iff.1 hi).1
  have h2 : (cur.toList.take n)[j + i]? = some v := by
    rw [h, List.getElem?_append_right (by omega), List.getElem?_append_left (by omega), h0, Nat.add_sub_cancel_left]
    exact hi
  rw [List.getElem?_take] at h2
  split at h2
  · simpa using h2
  · cases h2
theorem set3 {cur : Array Value} {n j : Nat} {x0 x2 : List Value} {a b c a' b' : Value} (h : cur.toList.take n = x0 ++ ([a, b, c] ++ x2)) (h0 : x0.length = j) :
    ((cur.setIfInBounds j a').setIfInBounds (j + 1) b').toList.take n = x0 ++ ([a', b', c] ++ x2) := by
  rw [Array.toList_setIfInBounds, Array.toList_setIfInBounds, List.take_set, List.take_set, h]
  subst h0
  simp [List.set_append]

def MarkPost (w : World) (A : Option Addr) (ts : List Tm) (fp : List Nat) (m : Int) (e : Ending) (w' : World) : Prop :=
  e = .returned (.int .i64 (m + 2 * sizes ts)) ∧ Ow w' A (markL m ts) fp ∧ OnlyIn fp w w'

set_option maxHeartbeats 2000000 in
set_option maxRecDepth 100000 in
theorem markTermS_any (N : Nat) : ∀ (ks : List Tm) (A : Option Addr) (c : Nat) (fp : List Nat) (m : Int) (w : World), sizes ks < N → sizes ks ≤ 1099511627776 → 0 ≤ m → m + 2 * sizes ks ≤ 4398046511104 → Ow w A ks fp → fp.Nodup →
    Calls Try.prog 31 #[.slice A ks.length c, .int .i64 m] w (MarkPost w A ks fp m) := by
  induction N with
  | zero => intro ks A c fp m w hN; exact absurd hN (Nat.not_lt_zero _)
  | succ N ih =>
  intro ks A c fp m w hN hM hm0 hm1 hO hn
  have hlen := length_le_sizes ks
  rcases hO with ⟨rfl, rfl⟩ | ⟨g, cur0, ety, f, hne, rfl, hg0, rfl, hx0⟩
  · go_enter Try.func31, Try.ntmps31
    go_wp2_with fail
    refine Go.wp_loop_rounds 1 ?_
    rw [Go.rounds_succ]
    go_wp2_with fail
    go_ret
    exact ⟨ret_int (by simp [sizes]), .inl ⟨by simp [markL], rfl⟩, OnlyIn.refl _ _⟩
  · go_enter Try.func31, Try.ntmps31
    go_wp2_with fail
    go_loopw [1, 5] (fun mv i wr => ∃ (j : Nat) (cur : Array Value), j ≤ ks.length ∧ i = .int .i64 j ∧ mv = .int .i64 (m + 2 * sizes (ks.take j)) ∧ wr.heap[g]? = some (.cells cur ety (0, 0)) ∧
        Hid (OwX wr (markL m (ks.take j) ++ ks.drop j) (cur.toList.take (ks.length * 3)) f) ∧ OnlyIn (g :: f) w wr)
      (fun _ i _ => ks.length - (intOf i).toNat)
    case atStart => exact ⟨0, cur0, Nat.zero_le _, rfl, by simp [sizes], hg0, hide (by simpa [markL] using hx0), OnlyIn.refl _ _⟩
    case round =>
      obtain ⟨j, cur, hj, rfl, rfl, hg, hx, hon⟩ := hrel
      have hsl := sizes_take_le ks j
      by_cases hlt : j < ks.length
      · have hdrop : ks.drop j = ks[j] :: ks.drop (j + 1) := List.drop_eq_getElem_cons hlt
        have hx' := hx.out
        rw [hdrop] at hx'
        obtain ⟨x0, x1, x2, f0, f1, f2, hxs, hff, k0, k1, k2⟩ := OwX.split hx'
        have hst := sizes_take ks j hlt
        have hsz := sizes_le (List.getElem_mem hlt)
        obtain ⟨k', n', ks', hkj⟩ : ∃ k' n' ks', ks[j] = Tm.mk k' n' ks' := by cases ks[j]; exact ⟨_, _, _, rfl⟩
        rw [hkj] at k1 hst hsz
        obtain ⟨Aj, cj, rfl, hlj, hOj⟩ := OwT.iff.1 k1
        simp only [Tm.size] at hst hsz
        have hx0l : x0.length = j * 3 := by rw [k0.length, markL_length, List.length_take, Nat.min_eq_left (Nat.le_of_lt hlt)]
        have hB : Blk wr g cur := ⟨_, hg⟩
        have c0 : wr.cell? ⟨g, j * 3, none⟩ = some (.int .i64 k') := hB.at_ (take3 hxs hx0l 0 _ rfl)
        have c1 : wr.cell? ⟨g, j * 3 + 1, none⟩ = some (.int .i64 n') := hB.at_ (take3 hxs hx0l 1 _ rfl)
        have c2 : wr.cell? ⟨g, j * 3 + 2, none⟩ = some (.slice Aj ks'.length cj) := hB.at_ (take3 hxs hx0l 2 _ rfl)
        have z0 := hB.frozen (j * 3)
        have z1 := hB.frozen (j * 3 + 1)
        have hn1 := (List.nodup_cons.1 hn).1
        have hnf := (List.nodup_cons.1 hn).2
        have hnf1 : f1.Nodup := by rw [hff] at hnf; exact (List.nodup_append.1 (List.nodup_append.1 hnf).2.1).1
        have hg1 : g ∉ f1 := fun hm => hn1 (by rw [hff]; simp [hm])
        have hset := hide (set3 (a' := .int .i64 (m + 2 * sizes (ks.take j))) (b' := .int .i64 (m + 2 * sizes (ks.take j) + 1)) hxs hx0l)
        have h5 := hide hxs
        have h6 := hide hff
        have h7 := hide hkj
        have h8 := hide hst
        have h9 := hide (And.intro hx0l hdrop)
        have hsl2 : sizes (ks.take j) + (sizes ks' + 1) ≤ sizes ks := by have := sizes_take_le ks (j + 1); omega
        clear hxs hff hkj hst hx0l hdrop hx' hx k1 hx0 hg0
        have hOj2 : ∀ (v1 v2 : Value), Ow ((wr.setCell ⟨g, j * 3, none⟩ v1).setCell ⟨g, j * 3 + 1, none⟩ v2) Aj ks' f1 := fun v1 v2 => hOj.frame fun b hb => (Below.heap_setCell _ _ _ b (fun e => hg1 (by have e : b = g := e; rw [← e]; exact hb))).trans (Below.heap_setCell _ _ _ b (fun e => hg1 (by have e : b = g := e; rw [← e]; exact hb)))
        go_wp2_with (go_at_call 31; refine (ih ks' Aj cj f1 (m + 2 * sizes (ks.take j) + 1 + 1) _ (by omega) (by omega) (by omega) (by omega) (hOj2 _ _) hnf1).mono ?_; rintro e w3 ⟨rfl, hO3, hon3⟩)
        have hgs : ((wr.setCell ⟨g, j * 3, none⟩ (.int .i64 (m + 2 * sizes (ks.take j)))).setCell ⟨g, j * 3 + 1, none⟩ (.int .i64 (m + 2 * sizes (ks.take j) + 1))).heap[g]? = some (.cells ((cur.setIfInBounds (j * 3) (.int .i64 (m + 2 * sizes (ks.take j)))).setIfInBounds (j * 3 + 1) (.int .i64 (m + 2 * sizes (ks.take j) + 1))) ety (0, 0)) := by
          simp [World.setCell, Array.getElem?_modify, hg]
        have hlt3 : ∀ b, b ∈ f → b < wr.heap.size := fun b hb => by
          have := hb
          rw [h6.out] at this
          rcases List.mem_append.1 this with h | h
          · exact k0.lt b h
          · rcases List.mem_append.1 h with h | h
            · exact hOj.lt b h
            · exact k2.lt b h
        have hfr : ∀ b, b ∈ f → b ∉ f1 → w3.heap[b]? = wr.heap[b]? := fun b hb hb1 => by
          have hbg : b ≠ g := fun e => hn1 (e ▸ hb)
          exact (hon3.block b (by simp [World.setCell]; exact hlt3 b hb) hb1).trans ((Below.heap_setCell _ _ _ b hbg).trans (Below.heap_setCell _ _ _ b hbg))
        have hg3 := (hon3.block g (by simp [World.setCell]; exact (Array.getElem?_eq_some_iff.1 hg).1) hg1).trans hgs
        have hnf' := hnf
        rw [h6.out] at hnf'
        have hd0 : ∀ b, b ∈ f0 → b ∉ f1 := fun b h0 h1 => (List.nodup_append.1 hnf').2.2 b h0 b (by simp [h1]) rfl
        have hd2 : ∀ b, b ∈ f2 → b ∉ f1 := fun b h2 h1 => (List.nodup_append.1 (List.nodup_append.1 hnf').2.1).2.2 b h1 b h2 rfl
        have hon4 : OnlyIn (g :: f) w w3 := (((hon.setCell (by simp) _).setCell (by simp) _)).trans (hon3.mono fun b hb => by rw [h6.out]; simp [hb])
        have hres : OwX w3 (markL m (ks.take (j + 1)) ++ ks.drop (j + 1)) (((cur.setIfInBounds (j * 3) (.int .i64 (m + 2 * sizes (ks.take j)))).setIfInBounds (j * 3 + 1) (.int .i64 (m + 2 * sizes (ks.take j) + 1))).toList.take (ks.length * 3)) f := by
          rw [hset.out, List.take_succ_eq_append_getElem hlt, markL_append, h7.out, markL, markL, List.append_assoc, h6.out, markT]
          refine OwX.join (k0.frame fun b hb => hfr b (by rw [h6.out]; simp [hb]) (hd0 b hb)) (OwT.iff.2 ⟨Aj, cj, ?_, by rw [markL_length]; exact hlj, ?_⟩) (k2.frame fun b hb => hfr b (by rw [h6.out]; simp [hb]) (hd2 b hb))
          · rw [markL_length]
          · rw [show m + 2 * (sizes (ks.take j) : Int) + 2 = m + 2 * sizes (ks.take j) + 1 + 1 from by omega]
            exact hO3
        go_roundw
        case rel => exact ⟨j + 1, _, hlt, by go_num, by rw [h8.out]; push_cast; congr 1; omega, hg3, hide hres, hon4⟩
        case measure => simp [intOf]; omega
      · have hjl : j = ks.length := by omega
        subst hjl
        have hx' := hx.out
        rw [List.take_length, List.drop_length, List.append_nil] at hx'
        go_wp2_with fail
        go_ret
        refine ⟨ret_int (by rw [List.take_length]), .inr ⟨g, cur, ety, f, ?_, rfl, hg, rfl, by rw [markL_length]; exact hx'⟩, hon⟩
        intro e
        have := markL_length ks m
        rw [e] at this
        simp at this
        exact hne (List.eq_nil_of_length_eq_zero this.symm)
end Go.Proofs.Ytefifcmieicnlaa
