/-
  Contracts of the functions that the law reaches, and plain lemmas. No condition.
-/
import Derived.Test.YtodkenpmhhbppaaK1
import Derived.Test.YtodkenpmhhbppaaK4
import Derived.Test.YtodkenpmhhbppaaK5
import Derived.Test.YtodkenpmhhbppaaK6
import Derived.Test.YtodkenpmhhbppaaK10
import Derived.WalkSpells
import Derived.WalkLawsBesides
namespace Go.Proofs.Ytodkenpmhhbppaa
set_option linter.unusedSimpArgs false
set_option linter.unusedVariables false
open Go.RowKit
/-- nothing but the blocks of a list has turned -/
structure OnlyIn (fp : List Nat) (w w' : World) : Prop where
  os : w'.os = w.os
  tape : w'.tape = w.tape
  output : w'.output = w.output
  size : w.heap.size ≤ w'.heap.size
  block : ∀ b, b < w.heap.size → b ∉ fp → w'.heap[b]? = w.heap[b]?
theorem OnlyIn.refl (fp : List Nat) (w : World) : OnlyIn fp w w := ⟨rfl, rfl, rfl, Nat.le_refl _, fun _ _ _ => rfl⟩
theorem OnlyIn.trans {fp : List Nat} {a b c : World} (h : OnlyIn fp a b) (k : OnlyIn fp b c) : OnlyIn fp a c :=
  ⟨k.os.trans h.os, k.tape.trans h.tape, k.output.trans h.output, Nat.le_trans h.size k.size, fun i hi hn => (k.block i (Nat.lt_of_lt_of_le hi h.size) hn).trans (h.block i hi hn)⟩
theorem OnlyIn.mono {fp fq : List Nat} {w w' : World} (h : OnlyIn fp w w') (hs : ∀ b, b ∈ fp → b ∈ fq) : OnlyIn fq w w' := ⟨h.os, h.tape, h.output, h.size, fun b hb hn => h.block b hb fun hm => hn (hs b hm)⟩
theorem OnlyIn.setCell {fp : List Nat} {a w : World} (h : OnlyIn fp a w) {p : Addr} (hp : p.block ∈ fp) (u : Value) : OnlyIn fp a (w.setCell p u) :=
  ⟨h.os, h.tape, h.output, by simpa [World.setCell] using h.size, fun i hi hn => (Below.heap_setCell w p u i (fun e => hn (e ▸ hp))).trans (h.block i hi hn)⟩
theorem OnlyIn.below {fp : List Nat} {w w' : World} {B : Nat} (h : OnlyIn fp w w') (hB : B ≤ w.heap.size) (hf : ∀ b, b ∈ fp → B ≤ b) : Below B w w' :=
  ⟨h.os, h.tape, h.output, h.size, fun b hb => h.block b (by omega) fun hm => by have := hf b hm; omega⟩
theorem OwX.split {w : World} {t : Tm} {us : List Tm} : ∀ {ts : List Tm} {xs : List Value} {fp : List Nat}, OwX w (ts ++ t :: us) xs fp →
    ∃ x0 x1 x2 f0 f1 f2, xs = x0 ++ (x1 ++ x2) ∧ fp = f0 ++ (f1 ++ f2) ∧ OwX w ts x0 f0 ∧ OwT w t x1 f1 ∧ OwX w us x2 f2
  | [], xs, fp, h => by
    obtain ⟨x1, x2, f1, f2, rfl, rfl, h1, h2⟩ := OwX.cons_iff.1 h
    exact ⟨[], x1, x2, [], f1, f2, rfl, rfl, OwX.nil, h1, h2⟩
  | s :: ts, xs, fp, h => by
    obtain ⟨y1, y2, e1, e2, rfl, rfl, k1, k2⟩ := OwX.cons_iff.1 h
    obtain ⟨x0, x1, x2, f0, f1, f2, rfl, rfl, h0, h1, h2⟩ := OwX.split k2
    exact ⟨y1 ++ x0, x1, x2, e1 ++ f0, f1, f2, by rw [List.append_assoc], by rw [List.append_assoc], OwX.cons_iff.2 ⟨y1, x0, e1, f0, rfl, rfl, k1, h0⟩, h1, h2⟩
theorem OwX.join {w : World} {t : Tm} {us ts : List Tm} {x0 x1 x2 : List Value} {f0 f1 f2 : List Nat} (h0 : OwX w ts x0 f0) (h1 : OwT w t x1 f1) (h2 : OwX w us x2 f2) : OwX w (ts ++ t :: us) (x0 ++ (x1 ++ x2)) (f0 ++ (f1 ++ f2)) :=
  h0.append (OwX.cons_iff.2 ⟨x1, x2, f1, f2, rfl, rfl, h1, h2⟩)
open Go.RowKit
mutual
/-- equal at every level -/
def tmEq : Tm → Tm → Bool
  | .mk k n ks, .mk k' n' ks' => k == k' && n == n' && tmsEq ks ks'
def tmsEq : List Tm → List Tm → Bool
  | [], [] => true
  | t :: ts, u :: us => tmEq t u && tmsEq ts us
  | _, _ => false
end
theorem tmEq_both : (∀ t u, tmEq t u = true ↔ t = u) ∧ (∀ ts us, tmsEq ts us = true ↔ ts = us) := by
  refine Tm.ind2 (fun k n ks ih u => ?_) (fun us => ?_) (fun t ts h1 h2 us => ?_)
  · obtain ⟨k', n', ks'⟩ := u
    simp only [tmEq, Bool.and_eq_true, beq_iff_eq, ih, Tm.mk.injEq, and_assoc]
  · cases us <;> simp [tmsEq]
  · cases us with
    | nil => simp [tmsEq]
    | cons u us => simp only [tmsEq, Bool.and_eq_true, h1, h2, List.cons.injEq]
theorem tmEq_iff {t u : Tm} : tmEq t u = true ↔ t = u := tmEq_both.1 t u
theorem tmsEq_iff {ts us : List Tm} : tmsEq ts us = true ↔ ts = us := tmEq_both.2 ts us
theorem tmEq_self (t : Tm) : tmEq t t = true := tmEq_iff.2 rfl
theorem tmsEq_self (ts : List Tm) : tmsEq ts ts = true := tmsEq_iff.2 rfl
theorem tmsEq_false {ts us : List Tm} (h : ts ≠ us) : tmsEq ts us = false := by
  cases e : tmsEq ts us with
  | false => rfl
  | true => exact absurd (tmsEq_iff.1 e) h
open Go.RowKit
theorem tmEq_head {k n k' n' : Int} {ks ls : List Tm} (h : ¬ (k = k' ∧ n = n' ∧ ks.length = ls.length)) : tmEq (.mk k n ks) (.mk k' n' ls) = false := by
  cases e : tmEq (.mk k n ks) (.mk k' n' ls) with
  | false => rfl
  | true => have := tmEq_iff.1 e; injection this with h1 h2 h3; exact absurd ⟨h1, h2, by rw [h3]⟩ h
theorem tmEq_kids {k n : Int} {ks ls : List Tm} : tmEq (.mk k n ks) (.mk k n ls) = tmsEq ks ls := by
  by_cases h : ks = ls
  · subst h; rw [tmEq_self, tmsEq_self]
  · rw [tmsEq_false h]
    cases e : tmEq (.mk k n ks) (.mk k n ls) with
    | false => rfl
    | true => have := tmEq_iff.1 e; injection this with h1 h2 h3; exact absurd h3 h
set_option maxHeartbeats 2000000 in
set_option maxRecDepth 100000 in
theorem sSame_any (N : Nat) : ∀ (k n : Int) (ks : List Tm) (A : Option Addr) (c : Nat) (k' n' : Int) (ls : List Tm) (B : Option Addr) (d : Nat) (w : World), sizes ks < N → ks.length ≤ 9223372036854775807 → ls.length ≤ 9223372036854775807 → Rd w A 0 ks → Rd w B 0 ls →
      Calls Try.prog 130 #[.agg #[.int .i64 k, .int .i64 n, .slice A ks.length c], .agg #[.int .i64 k', .int .i64 n', .slice B ls.length d]] w fun e w' => e = .returned (.bool (tmEq (.mk k n ks) (.mk k' n' ls))) ∧ Below w.heap.size w w' := by
  induction N with
  | zero => intro k n ks A c k' n' ls B d w hN; exact absurd hN (Nat.not_lt_zero _)
  | succ N ih =>
  intro k n ks A c k' n' ls B d w hN hl hl' hr hr'
  have hb2 : ∀ o o', Below w.heap.size w ((w.alloc o).alloc o') := fun o o' => ((Below.refl _ _).alloc (Nat.le_refl _) _).alloc (by simp) _
  by_cases hk : k = k'
  · subst hk
    by_cases hn : n = n'
    · subst hn
      by_cases hlen : ks.length = ls.length
      · rw [tmEq_kids]
        have q1 : (k != k) = false := by simp
        have q2 : (n != n) = false := by simp
        have q3 : ((ks.length : Int) != (ls.length : Int)) = false := by simp [hlen]
        have hH := hide hlen
        have hle : ls.length ≤ ks.length := by omega
        have hge : ks.length ≤ ls.length := by omega
        clear hlen
        go_enter Try.func130, Try.ntmps130
        go_wp2_with fail
        go_loopw [5] (fun i wr => ∃ j : Nat, j ≤ ks.length ∧ i = .int .i64 j ∧ Hid (ks.take j = ls.take j) ∧ Blk wr w.heap.size #[.int .i64 k, .int .i64 n, .slice A ks.length c] ∧ Blk wr (w.heap.size + 1) #[.int .i64 k, .int .i64 n, .slice B ls.length d] ∧ Below w.heap.size w wr) (fun i _ => ks.length - (intOf i).toNat)
        case atStart => exact ⟨0, Nat.zero_le _, rfl, hide (by simp), (Blk.new_ _ _ _ rfl).alloc _, Blk.new_ _ _ _ (by simp), hb2 _ _⟩
        case round =>
          obtain ⟨j, hj, rfl, heq, hB1, hB2, hb⟩ := hrel
          have b2 := hB1.at_ (i := 2) rfl
          by_cases hlt : j < ks.length
          · have hlt' : j < ls.length := by omega
            obtain ⟨b, off, k1, n1, ks1, A1, c1, rfl, hkj, hc1, hc2, hc3, hl1, hr1⟩ := (hr.below hb).at_ hlt
            obtain ⟨b2, off2, k2, n2, ks2, A2, c2, rfl, hkj2, hd1, hd2, hd3, hl2, hr2⟩ := (hr'.below hb).at_ hlt'
            have hsz := sizes_le (List.getElem_mem hlt)
            rw [hkj] at hsz
            simp only [Tm.size] at hsz
            have H3 := hide hkj
            have H4 := hide hkj2
            clear hkj hkj2
            go_wp2_with fail
            have r1 := rule_of hc1
            have r2 := rule_of hc2
            have r3 := rule_of hc3
            have r4 := rule_of hd1
            have r5 := rule_of hd2
            have r6 := rule_of hd3
            have r7 := hB1.rule (i := 2) rfl
            have r8 := hB2.rule (i := 2) rfl
            refine wp_region_firstY (fun w' => Below wr.heap.size wr w') [0, 1, 2, 3, 4, 5, 6, 7, 8, 9] [] [10, 11] [_, _, _, _, _, _, _, _, _, _] [] [_, _] (by kernel_rfl) (by kernel_rfl) rfl rfl rfl (fun _ _ d _ _ h => by cases d <;> exact h) (Below.refl _ _).drew ?_
            repeat (first | ((refine takeY_skip (a' := ?_) ?_ ?_ ?_); (rotate_left); (· (simp [Region.wanted, yielded]; done)); (· (simp only [List.getElem_toArray, List.getElem_cons_zero, List.getElem_cons_succ, Act.put, List.setIfInBounds_toArray, List.set_cons_zero, List.set_cons_succ]; exact rfl))) | ((refine takeY_step (v := ?_) (a' := ?_) ?_ ?_ ?_ ?_); (rotate_left 2); (· (simp [Region.wanted, yielded]; done)); (· (intro w' hS'; go_simp; try (with_reducible rfl))); (· (simp only [List.getElem_toArray, List.getElem_cons_zero, List.getElem_cons_succ, Act.put, List.setIfInBounds_toArray, List.set_cons_zero, List.set_cons_succ]; exact rfl))))
            refine takeY_nil (then_nil ?_)
            clear r1 r2 r3 r4 r5 r6 r7 r8
            cases hte : tmEq (.mk k1 n1 ks1) (.mk k2 n2 ks2) with
            | false =>
              have hte' := hide hte
              clear hte
              go_wp2_with (go_at_call 130; refine (ih k1 n1 ks1 A1 c1 k2 n2 ks2 A2 c2 _ (by omega) hl1 hl2 hr1.drew hr2.drew).mono ?_; rw [hte'.out]; rintro e w1 ⟨rfl, hb1⟩)
              go_ret
              refine ⟨ret_bool (tmsEq_false fun e => ?_).symm, hb.drew.trans (hb1.mono (by simpa using hb.size))⟩
              have := hte'.out
              subst e
              rw [← H3.out, ← H4.out, tmEq_self] at this
              cases this
            | true =>
              have hte' := hide hte
              clear hte
              go_wp2_with (go_at_call 130; refine (ih k1 n1 ks1 A1 c1 k2 n2 ks2 A2 c2 _ (by omega) hl1 hl2 hr1.drew hr2.drew).mono ?_; rw [hte'.out]; rintro e w1 ⟨rfl, hb1⟩)
              replace hb1 : Below wr.heap.size wr w1 := (Below.refl _ _).drew.trans hb1
              go_roundw
              case rel => exact ⟨j + 1, by omega, by go_num, hide (by rw [List.take_succ_eq_append_getElem hlt, List.take_succ_eq_append_getElem hlt', heq.out, H3.out, H4.out, tmEq_iff.1 hte'.out]), hB1.keep hb1, hB2.keep hb1, hb.trans (hb1.mono hb.size)⟩
              case measure => simp [intOf]; omega
          · go_wp2_with fail
            go_ret
            have hjl : j = ks.length := by omega
            have h5 := heq.out
            rw [hjl, List.take_length, hH.out, List.take_length] at h5
            exact ⟨ret_bool (tmsEq_iff.2 h5).symm, hb⟩
      · have q1 : (k != k) = false := by simp
        have q2 : (n != n) = false := by simp
        have q3 : ((ks.length : Int) != (ls.length : Int)) = true := by simp; omega
        rw [tmEq_head (by rintro ⟨-, -, h⟩; exact hlen h)]
        clear hlen
        go_enter Try.func130, Try.ntmps130
        go_wp2_with fail
        go_ret
        exact ⟨rfl, hb2 _ _⟩
    · have q1 : (k != k) = false := by simp
      have q2 : (n != n') = true := by simpa using hn
      rw [tmEq_head (by rintro ⟨-, h, -⟩; exact hn h)]
      clear hn
      go_enter Try.func130, Try.ntmps130
      go_wp2_with fail
      go_ret
      exact ⟨rfl, hb2 _ _⟩
  · have q1 : (k != k') = true := by simpa using hk
    rw [tmEq_head (by rintro ⟨h, -⟩; exact hk h)]
    clear hk
    go_enter Try.func130, Try.ntmps130
    go_wp2_with fail
    go_ret
    exact ⟨rfl, hb2 _ _⟩
set_option maxHeartbeats 2000000 in
set_option maxRecDepth 100000 in
theorem iSame_of {N : Nat} (ih : ∀ (ks : List Tm) (A : Option Addr) (c : Nat) (ls : List Tm) (B : Option Addr) (d : Nat) (w : World), sizes ks < N → ks.length ≤ 9223372036854775807 → ls.length ≤ 9223372036854775807 → Rd w A 0 ks → Rd w B 0 ls →
      Calls Try.prog 64 #[.slice A ks.length c, .slice B ls.length d, .func (.func 19) #[] #[]] w fun e w' => e = .returned (.bool (tmsEq ks ls)) ∧ Below w.heap.size w w')
    (k n : Int) (ks : List Tm) (A : Option Addr) (c : Nat) (k' n' : Int) (ls : List Tm) (B : Option Addr) (d : Nat) (w : World) (hN : sizes ks < N) (hl : ks.length ≤ 9223372036854775807) (hl' : ls.length ≤ 9223372036854775807) (hr : Rd w A 0 ks) (hr' : Rd w B 0 ls) :
    Calls Try.prog 19 #[.agg #[.int .i64 k, .int .i64 n, .slice A ks.length c], .agg #[.int .i64 k', .int .i64 n', .slice B ls.length d]] w fun e w' => e = .returned (.bool (tmEq (.mk k n ks) (.mk k' n' ls))) ∧ Below w.heap.size w w' := by
  have hb2 : ∀ o o', Below w.heap.size w ((w.alloc o).alloc o') := fun o o' => ((Below.refl _ _).alloc (Nat.le_refl _) _).alloc (by simp) _
  by_cases hk : k = k'
  · subst hk
    by_cases hn : n = n'
    · subst hn
      rw [tmEq_kids]
      generalize ht : tmsEq ks ls = b
      have ht' := hide ht
      clear ht
      go_enter Try.func19, Try.ntmps19
      go_wp2_with (go_at_call 64; refine (ih ks A c ls B d _ hN hl hl' ((hr.alloc _).alloc _) ((hr'.alloc _).alloc _)).mono ?_; rw [ht'.out]; rintro e w1 ⟨rfl, hb1⟩; replace hb1 : Below w.heap.size w w1 := (hb2 _ _).trans (hb1.mono (by simp; omega)))
      go_ret
      exact ⟨rfl, hb1⟩
    · have q2 : (n == n') = false := by simpa using hn
      rw [tmEq_head (by rintro ⟨-, h, -⟩; exact hn h)]
      clear hn
      go_enter Try.func19, Try.ntmps19
      go_wp2_with fail
      go_ret
      exact ⟨rfl, hb2 _ _⟩
  · have q1 : (k == k') = false := by simpa using hk
    rw [tmEq_head (by rintro ⟨h, -⟩; exact hk h)]
    clear hk
    go_enter Try.func19, Try.ntmps19
    go_wp2_with fail
    go_ret
    exact ⟨rfl, hb2 _ _⟩
set_option maxHeartbeats 2000000 in
set_option maxRecDepth 100000 in
theorem iSames_any (N : Nat) : ∀ (ks : List Tm) (A : Option Addr) (c : Nat) (ls : List Tm) (B : Option Addr) (d : Nat) (w : World), sizes ks < N → ks.length ≤ 9223372036854775807 → ls.length ≤ 9223372036854775807 → Rd w A 0 ks → Rd w B 0 ls →
      Calls Try.prog 64 #[.slice A ks.length c, .slice B ls.length d, .func (.func 19) #[] #[]] w fun e w' => e = .returned (.bool (tmsEq ks ls)) ∧ Below w.heap.size w w' := by
  induction N with
  | zero => intro ks A c ls B d w hN; exact absurd hN (Nat.not_lt_zero _)
  | succ N ih =>
  intro ks A c ls B d w hN hl hl' hr hr'
  have hrun := run_enter Try.func19 (by kernel_rfl) (by kernel_rfl)
  by_cases hlen : ks.length = ls.length
  · have hq : ((ks.length : Int) != (ls.length : Int)) = false := by simp [hlen]
    have hH := hide hlen
    have hle : ls.length ≤ ks.length := by omega
    have hge : ks.length ≤ ls.length := by omega
    clear hlen
    go_enter Try.func64, Try.ntmps64
    go_wp2_with fail
    go_loopw [17] (fun i wr => ∃ j : Nat, j ≤ ks.length ∧ i = .int .i64 j ∧ Hid (ks.take j = ls.take j) ∧ Below w.heap.size w wr) (fun i _ => ks.length - (intOf i).toNat)
    case atStart => exact ⟨0, Nat.zero_le _, rfl, hide (by simp), Below.refl _ _⟩
    case round =>
      obtain ⟨j, hj, rfl, heq, hb⟩ := hrel
      by_cases hlt : j < ks.length
      · have hlt' : j < ls.length := by omega
        obtain ⟨b, off, k1, n1, ks1, A1, c1, rfl, hkj, hc1, hc2, hc3, hl1, hr1⟩ := (hr.below hb).at_ hlt
        obtain ⟨b2, off2, k2, n2, ks2, A2, c2, rfl, hkj2, hd1, hd2, hd3, hl2, hr2⟩ := (hr'.below hb).at_ hlt'
        have hbl := World.block_lt_of_cell? _ _ hc1
        have hbl2 := World.block_lt_of_cell? _ _ hd1
        have hsz := sizes_le (List.getElem_mem hlt)
        rw [hkj] at hsz
        simp only [Tm.size] at hsz
        have H3 := hide hkj
        have H4 := hide hkj2
        clear hkj hkj2
        have hx : ∀ o o', Below wr.heap.size wr ((wr.alloc o).alloc o') := fun o o' => ((Below.refl _ _).alloc (Nat.le_refl _) _).alloc (by simp) _
        cases hte : tmEq (.mk k1 n1 ks1) (.mk k2 n2 ks2) with
        | false =>
          have hte' := hide hte
          clear hte
          go_wp2_with (go_at_call 19; refine (iSame_of ih k1 n1 ks1 A1 c1 k2 n2 ks2 A2 c2 _ (by omega) hl1 hl2 ((hr1.alloc _).alloc _) ((hr2.alloc _).alloc _)).mono ?_; rw [hte'.out]; rintro e w1 ⟨rfl, hb1⟩; replace hb1 : Below wr.heap.size wr w1 := (hx _ _).trans (hb1.mono (by simp; omega)))
          go_ret
          refine ⟨ret_bool (tmsEq_false fun e => ?_).symm, hb.trans (hb1.mono hb.size)⟩
          have := hte'.out
          subst e
          rw [← H3.out, ← H4.out, tmEq_self] at this
          cases this
        | true =>
          have hte' := hide hte
          clear hte
          go_wp2_with (go_at_call 19; refine (iSame_of ih k1 n1 ks1 A1 c1 k2 n2 ks2 A2 c2 _ (by omega) hl1 hl2 ((hr1.alloc _).alloc _) ((hr2.alloc _).alloc _)).mono ?_; rw [hte'.out]; rintro e w1 ⟨rfl, hb1⟩; replace hb1 : Below wr.heap.size wr w1 := (hx _ _).trans (hb1.mono (by simp; omega)))
          go_roundw
          case rel => exact ⟨j + 1, by omega, by go_num, hide (by rw [List.take_succ_eq_append_getElem hlt, List.take_succ_eq_append_getElem hlt', heq.out, H3.out, H4.out, tmEq_iff.1 hte'.out]), hb.trans (hb1.mono hb.size)⟩
          case measure => simp [intOf]; omega
      · go_wp2_with fail
        go_ret
        have hjl : j = ks.length := by omega
        have h5 := heq.out
        rw [hjl, List.take_length, hH.out, List.take_length] at h5
        exact ⟨ret_bool (tmsEq_iff.2 h5).symm, hb⟩
  · have hq : ((ks.length : Int) != (ls.length : Int)) = true := by simp; omega
    rw [tmsEq_false (fun e => hlen (by rw [e]))]
    clear hlen
    go_enter Try.func64, Try.ntmps64
    go_wp2_with fail
    go_ret
    exact ⟨rfl, Below.refl _ _⟩
theorem iSame_any (k n : Int) (ks : List Tm) (A : Option Addr) (c : Nat) (k' n' : Int) (ls : List Tm) (B : Option Addr) (d : Nat) (w : World) (hl : ks.length ≤ 9223372036854775807) (hl' : ls.length ≤ 9223372036854775807) (hr : Rd w A 0 ks) (hr' : Rd w B 0 ls) :
    Calls Try.prog 19 #[.agg #[.int .i64 k, .int .i64 n, .slice A ks.length c], .agg #[.int .i64 k', .int .i64 n', .slice B ls.length d]] w fun e w' => e = .returned (.bool (tmEq (.mk k n ks) (.mk k' n' ls))) ∧ Below w.heap.size w w' :=
  iSame_of (N := sizes ks + 1) (iSames_any _) k n ks A c k' n' ls B d w (Nat.lt_succ_self _) hl hl' hr hr'
open Go.RowKit
/-- a row of terms at a block, whose terms lie in blocks of their own from lo on -/
def Tab (w : World) (lo g : Nat) (G : List Tm) : Prop :=
  g < lo ∧ ∃ cur f, w.heap[g]? = some (.cells cur 25 (0, 0)) ∧ cur.size = G.length * 3 ∧ OwX w G cur.toList f ∧ f.Nodup ∧ ∀ b, b ∈ f → lo ≤ b
variable {w w' w0 : World} {lo g : Nat} {G : List Tm}
theorem Tab.only {fp : List Nat} (h : Tab w lo g G) (ho : OnlyIn fp w w') (hfp : ∀ b, b ∈ fp → b ≠ g ∧ b < lo) : Tab w' lo g G := by
  obtain ⟨h0, cur, f, h1, h2, h3, h4, h5⟩ := h
  refine ⟨h0, cur, f, (ho.block g (Array.getElem?_eq_some_iff.1 h1).1 (fun hm => (hfp g hm).1 rfl)).trans h1, h2, h3.frame fun b hb => ho.block b (h3.lt b hb) fun hm => ?_, h4, h5⟩
  have := (hfp b hm).2; have := h5 b hb; omega
theorem Tab.keep (h : Tab w lo g G) (hb : Below w.heap.size w w') : Tab w' lo g G := by
  obtain ⟨h0, cur, f, h1, h2, h3, h4, h5⟩ := h
  exact ⟨h0, cur, f, (hb.block g (Array.getElem?_eq_some_iff.1 h1).1).trans h1, h2, h3.frame fun b hm => hb.block b (h3.lt b hm), h4, h5⟩
theorem Tab.alloc (h : Tab w lo g G) (o : Obj) : Tab (w.alloc o) lo g G := h.keep ((Below.refl _ _).alloc (Nat.le_refl _) _)
theorem Tab.drew (h : Tab w lo g G) : Tab w.drew lo g G := h.keep (Below.refl _ _).drew
theorem Tab.setCell (h : Tab w lo g G) {p : Addr} (hp : p.block ≠ g) (hl : p.block < lo) (u : Value) : Tab (w.setCell p u) lo g G := by
  obtain ⟨h0, cur, f, h1, h2, h3, h4, h5⟩ := h
  exact ⟨h0, cur, f, (Below.heap_setCell w p u g (fun e => hp e.symm)).trans h1, h2, h3.frame fun b hb => Below.heap_setCell w p u b (fun e => by have := h5 b hb; omega), h4, h5⟩
theorem Tab.lt (h : Tab w lo g G) : g < w.heap.size := by
  obtain ⟨h0, cur, f, h1, _⟩ := h
  exact (Array.getElem?_eq_some_iff.1 h1).1
theorem Tab.frozen (h : Tab w lo g G) (j : Nat) : w.frozen? ⟨g, j, none⟩ = false := by
  obtain ⟨h0, cur, f, h1, h2, _⟩ := h
  simp [World.frozen?, h1]
theorem Tab.rd (h : Tab w lo g G) : Rd w (some ⟨g, 0, none⟩) 0 G := by
  obtain ⟨h0, cur, f, h1, h2, h3, h4, h5⟩ := h
  refine own_rd.2 _ _ _ h3 g 0 0 fun j u hu => ?_
  rw [show 0 + 0 * 3 + j = j by omega, cell_of_row w g j cur 25 (0, 0) h1]
  simpa using hu
/-- one place is laid anew -/
theorem Tab.put (h : Tab w0 lo g G) (hb : Below w0.heap.size w0 w) (hlo : lo ≤ w0.heap.size) {k m : Int} {ks : List Tm} {A : Option Addr} {c j : Nat} (hfr : Fresh w0.heap.size w A ks) (hl : ks.length ≤ 9223372036854775807) (hj : j < G.length) :
    Tab (((w.setCell ⟨g, j * 3, none⟩ (.int .i64 k)).setCell ⟨g, j * 3 + 1, none⟩ (.int .i64 m)).setCell ⟨g, j * 3 + 2, none⟩ (.slice A ks.length c)) lo g (G.set j (.mk k m ks)) := by
  obtain ⟨h0, cur, f, h1, h2, h3, h4, h5⟩ := h
  obtain ⟨fp, k1, k2, k3⟩ := hfr
  have hg0 := (Array.getElem?_eq_some_iff.1 h1).1
  have hg : w.heap[g]? = some (.cells cur 25 (0, 0)) := (hb.block g hg0).trans h1
  have far : ∀ b, b ≠ g → (((w.setCell ⟨g, j * 3, none⟩ (.int .i64 k)).setCell ⟨g, j * 3 + 1, none⟩ (.int .i64 m)).setCell ⟨g, j * 3 + 2, none⟩ (.slice A ks.length c)).heap[b]? = w.heap[b]? := fun b hbg => by
    rw [Below.heap_setCell _ _ _ _ hbg, Below.heap_setCell _ _ _ _ hbg, Below.heap_setCell _ _ _ _ hbg]
  have hsp : G = G.take j ++ G[j] :: G.drop (j + 1) := by rw [← List.drop_eq_getElem_cons hj, List.take_append_drop]
  have hsp2 : G.set j (.mk k m ks) = G.take j ++ Tm.mk k m ks :: G.drop (j + 1) := by rw [List.set_eq_take_append_cons_drop, if_pos hj]
  have h3' := h3
  rw [hsp] at h3'
  obtain ⟨x0, x1, x2, f0, f1, f2, hx, hf, o0, o1, o2⟩ := OwX.split h3'
  have l0 : x0.length = j * 3 := by rw [o0.length, List.length_take, Nat.min_eq_left (Nat.le_of_lt hj)]
  have l1 := o1.length
  obtain ⟨p, q, r, rfl⟩ : ∃ p q r, x1 = [p, q, r] := by
    match x1, l1 with
    | [p, q, r], _ => exact ⟨p, q, r, rfl⟩
  subst hf
  have lt0 : ∀ b, b ∈ f0 ++ (f1 ++ f2) → b < w0.heap.size := fun b hb => h3.lt b hb
  have nd := List.nodup_append.1 h4
  have nd2 := List.nodup_append.1 nd.2.1
  refine ⟨h0, ((cur.setIfInBounds (j * 3) (.int .i64 k)).setIfInBounds (j * 3 + 1) (.int .i64 m)).setIfInBounds (j * 3 + 2) (.slice A ks.length c), f0 ++ (fp ++ f2), ?_, by simpa using h2, ?_, ?_, ?_⟩
  · simp [World.setCell, Array.getElem?_modify, hg]
  · have e : (((cur.setIfInBounds (j * 3) (.int .i64 k)).setIfInBounds (j * 3 + 1) (.int .i64 m)).setIfInBounds (j * 3 + 2) (.slice A ks.length c)).toList = x0 ++ ([.int .i64 k, .int .i64 m, .slice A ks.length c] ++ x2) := by
      simp only [Array.toList_setIfInBounds, hx, ← l0]
      simp [List.set_append]
    rw [e, hsp2]
    have keep : ∀ b, b ∈ f0 ++ (f1 ++ f2) → (((w.setCell ⟨g, j * 3, none⟩ (.int .i64 k)).setCell ⟨g, j * 3 + 1, none⟩ (.int .i64 m)).setCell ⟨g, j * 3 + 2, none⟩ (.slice A ks.length c)).heap[b]? = w0.heap[b]? := fun b hm => by
      rw [far b (by have := h5 b hm; omega)]; exact hb.block b (lt0 b hm)
    exact OwX.join (o0.frame fun b hm => keep b (by simp [hm])) (OwT.iff.2 ⟨A, c, rfl, hl, k1.frame fun b hm => far b (by have := k3 b hm; omega)⟩) (o2.frame fun b hm => keep b (by simp [hm]))
  · refine List.nodup_append.2 ⟨nd.1, List.nodup_append.2 ⟨k2, nd2.2.1, fun x hx y hy e => ?_⟩, fun x hx y hy e => ?_⟩
    · have := k3 x hx; have := lt0 y (by simp [hy]); omega
    · rcases List.mem_append.1 hy with hy | hy
      · have := k3 y hy; have := lt0 x (by simp [hx]); omega
      · exact nd.2.2 x hx y (List.mem_append.2 (.inr hy)) e
  · intro b hm
    rcases List.mem_append.1 hm with hm | hm
    · exact h5 b (by simp [hm])
    · rcases List.mem_append.1 hm with hm | hm
      · have := k3 b hm; omega
      · exact h5 b (by simp [hm])
theorem Tab.fresh (h : Tab w lo g G) {B : Nat} (hB : B ≤ g) : Fresh B w (some ⟨g, 0, none⟩) G := by
  obtain ⟨h0, cur, f, h1, h2, h3, h4, h5⟩ := h
  by_cases hts : G = []
  · subst hts; exact Fresh.nil
  · refine ⟨g :: f, .inr ⟨g, cur, _, f, hts, rfl, h1, rfl, by rw [List.take_of_length_le (by simp [h2])]; exact h3⟩, List.nodup_cons.2 ⟨fun hm => by have := h5 g hm; omega, h4⟩, fun b hb => ?_⟩
    rcases List.mem_cons.1 hb with rfl | hb
    · exact hB
    · have := h5 b hb; omega
abbrev St := List Tm × List Bool
def zeroT : Tm := .mk 0 0 []
def Tm.kids : Tm → List Tm | .mk _ _ ks => ks
mutual
/-- what matching answers, and the places behind it -/
def mt (m : Nat) (add : Int) : Int → Tm → Tm → St → Bool × St
  | d, .mk k n ks, u, st =>
    if k = 1 ∧ d ≤ n then
      (if n < d + m then
        (match shiftI (-d) 0 u with
          | none => (false, st)
          | some low => if st.2.getD (n - d).toNat false = true then (tmEq (st.1.getD (n - d).toNat zeroT) low, st) else (true, (st.1.set (n - d).toNat low, st.2.set (n - d).toNat true)))
      else (u.k == 1 && u.n == n - m + add, st))
    else if u.k = k ∧ u.n = n ∧ u.kids.length = ks.length then mtL m add k d 0 ks u.kids st else (false, st)
def mtL (m : Nat) (add : Int) : Int → Int → Nat → List Tm → List Tm → St → Bool × St
  | k, d, i, t :: ts, u :: us, st => if (mt m add (d + under k i) t u st).1 = true then mtL m add k d (i + 1) ts us (mt m add (d + under k i) t u st).2 else (false, (mt m add (d + under k i) t u st).2)
  | _, _, _, _, _, st => (true, st)
end
theorem mtL_append (m : Nat) (add k d : Int) : ∀ (ts us ts' us' : List Tm) (i : Nat) (st : St), ts.length = us.length → mtL m add k d i (ts ++ ts') (us ++ us') st = if (mtL m add k d i ts us st).1 = true then mtL m add k d (i + ts.length) ts' us' (mtL m add k d i ts us st).2 else (false, (mtL m add k d i ts us st).2)
  | [], [], ts', us', i, st, _ => by simp [mtL]
  | t :: ts, u :: us, ts', us', i, st, h => by
    rw [List.cons_append, List.cons_append, mtL, mtL]
    split
    · rw [mtL_append m add k d ts us ts' us' (i + 1) _ (by simpa using h), List.length_cons, show i + 1 + ts.length = i + (ts.length + 1) from by omega]
    · simp
  | [], _ :: _, _, _, _, _, h => by simp at h
  | _ :: _, [], _, _, _, _, h => by simp at h
theorem mtL_take (m : Nat) (add k d : Int) {ks us : List Tm} {j : Nat} (hj : j < ks.length) (hl : ks.length = us.length) {st st1 : St} (h : mtL m add k d 0 (ks.take j) (us.take j) st = (true, st1)) :
    mtL m add k d 0 (ks.take (j + 1)) (us.take (j + 1)) st = mt m add (d + under k j) ks[j] (us[j]'(by omega)) st1 := by
  rw [List.take_succ_eq_append_getElem hj, List.take_succ_eq_append_getElem (by omega : j < us.length), mtL_append m add k d _ _ _ _ _ _ (by simp; omega), h]
  simp only [if_true, List.length_take, Nat.min_eq_left (Nat.le_of_lt hj), Nat.zero_add]
  rw [mtL, show ∀ (i : Nat) (s : St), mtL m add k d i [] [] s = (true, s) from fun i s => by simp [mtL]]
  cases e : mt m add (d + under k j) ks[j] (us[j]'(by omega)) st1 with
  | mk b s => cases b <;> simp
theorem mtL_no (m : Nat) (add k d : Int) {ks us : List Tm} {j : Nat} (hj : j < ks.length) (hl : ks.length = us.length) {st st1 : St} (h : mtL m add k d 0 (ks.take (j + 1)) (us.take (j + 1)) st = (false, st1)) :
    mtL m add k d 0 ks us st = (false, st1) := by
  have h1 := List.take_append_drop (j + 1) ks
  have h2 := List.take_append_drop (j + 1) us
  rw [← h1, ← h2, mtL_append m add k d _ _ _ _ _ _ (by simp; omega), h]
  simp
theorem mt_length (m : Nat) (add : Int) (t : Tm) : ∀ (d : Int) (u : Tm) (st : St), (mt m add d t u st).2.1.length = st.1.length ∧ (mt m add d t u st).2.2.length = st.2.length := by
  refine Tm.rec (motive_1 := fun t => ∀ (d : Int) (u : Tm) (st : St), (mt m add d t u st).2.1.length = st.1.length ∧ (mt m add d t u st).2.2.length = st.2.length)
    (motive_2 := fun ts => ∀ (k d : Int) (i : Nat) (us : List Tm) (st : St), (mtL m add k d i ts us st).2.1.length = st.1.length ∧ (mtL m add k d i ts us st).2.2.length = st.2.length) ?_ ?_ ?_ t
  · intro k n ks ih d u st
    rw [mt]
    split
    · split
      · split
        · exact ⟨rfl, rfl⟩
        · split <;> simp
      · exact ⟨rfl, rfl⟩
    · split
      · exact ih k d 0 _ _
      · exact ⟨rfl, rfl⟩
  · intro k d i us st; simp [mtL]
  · intro t ts h1 h2 k d i us st
    cases us with
    | nil => simp [mtL]
    | cons u us =>
      rw [mtL]
      split
      · have := h2 k d (i + 1) us (mt m add (d + under k i) t u st).2
        have := h1 (d + under k i) u st
        omega
      · exact h1 _ _ _
theorem validT_kid {k n : Int} {ks : List Tm} (h : validT (.mk k n ks) = true) {t : Tm} (ht : t ∈ ks) : validT t = true := by
  simp only [validT, Bool.and_eq_true, decide_eq_true_eq] at h ⊢
  obtain ⟨q, hq, _, _, _, hk⟩ := shape_pos h.1
  refine ⟨shape_up (by omega) t (hk t ht), ?_⟩
  have := sizes_le ht
  rw [Tm.size] at h
  omega
/-- the cells of a row of truth values -/
def bools (S : List Bool) : Array Value := (S.map Value.bool).toArray
theorem bools_set (S : List Bool) (j : Nat) (b : Bool) : (bools S).setIfInBounds j (.bool b) = bools (S.set j b) := by simp [bools, List.map_set]
theorem bools_get {S : List Bool} {j : Nat} (h : j < S.length) : (bools S)[j]? = some (.bool (S.getD j false)) := by simp [bools, List.getElem?_eq_getElem h]
open Go.RowKit
/-- a list in blocks of its own, which lie between two numbers -/
structure OwF (w : World) (A : Option Addr) (ks : List Tm) (fp : List Nat) (lo hi : Nat) : Prop where
  ow : Ow w A ks fp
  nodup : fp.Nodup
  lo : ∀ b, b ∈ fp → lo ≤ b
  hi : ∀ b, b ∈ fp → b < hi
variable {w w' : World} {A : Option Addr} {ks : List Tm} {fp fq : List Nat} {lo hi : Nat}
theorem OwF.rd (h : OwF w A ks fp lo hi) : Rd w A 0 ks := h.ow.rd
theorem OwF.keep (h : OwF w A ks fp lo hi) (hb : Below w.heap.size w w') : OwF w' A ks fp lo hi := ⟨h.ow.frame fun b hm => hb.block b (h.ow.lt b hm), h.nodup, h.lo, h.hi⟩
theorem OwF.alloc (h : OwF w A ks fp lo hi) (o : Obj) : OwF (w.alloc o) A ks fp lo hi := ⟨h.ow.frame fun b hm => Below.heap_alloc w o b (h.ow.lt b hm), h.nodup, h.lo, h.hi⟩
theorem OwF.drew (h : OwF w A ks fp lo hi) : OwF w.drew A ks fp lo hi := ⟨h.ow.frame fun b hm => rfl, h.nodup, h.lo, h.hi⟩
theorem OwF.only (h : OwF w A ks fp lo hi) (ho : OnlyIn fq w w') (hd : ∀ b, b ∈ fp → b ∉ fq) : OwF w' A ks fp lo hi := ⟨h.ow.frame fun b hm => ho.block b (h.ow.lt b hm) (hd b hm), h.nodup, h.lo, h.hi⟩
/-- blocks that end where others begin -/
theorem OwF.apart {A' : Option Addr} {ks' : List Tm} {lo' hi' : Nat} (h : OwF w A ks fp lo hi) (h' : OwF w' A' ks' fq lo' hi') (hh : hi ≤ lo') : ∀ b, b ∈ fp → b ∉ fq := fun b h1 h2 => by have := h.hi b h1; have := h'.lo b h2; omega
theorem OwF.out (h : OwF w A ks fp lo hi) {g : Nat} (hg : g < lo ∨ hi ≤ g) : g ∉ fp := fun h1 => by have := h.lo g h1; have := h.hi g h1; omega
theorem Blk.only {g : Nat} {cs : Array Value} (h : Blk w g cs) (ho : OnlyIn fq w w') (hg : g ∉ fq) : Blk w' g cs := by have hl := h.lt; obtain ⟨t, h⟩ := h; exact ⟨t, (ho.block g hl hg).trans h⟩
theorem OwF.below (h : OwF w A ks fp lo hi) (ho : OnlyIn fp w w') (hlo : lo ≤ w.heap.size) : Below lo w w' := ho.below hlo h.lo
end Go.Proofs.Ytodkenpmhhbppaa
