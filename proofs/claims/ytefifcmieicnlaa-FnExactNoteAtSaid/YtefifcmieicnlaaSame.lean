/-
  TermSame of the reference and of the implementation. No condition.
-/
import Derived.Test.YtefifcmieicnlaaLaw
import Derived.Test.YtefifcmieicnlaaReg2
import Derived.Test.YtefifcmieicnlaaChanged
import Derived.Test.YtefifcmieicnlaaTypeForm
import Derived.WalkSpells
import Derived.WalkLawsBesides
namespace Go.Proofs.Ytefifcmieicnlaa
open Go.RowKit
set_option linter.unusedSimpArgs false
set_option linter.unusedVariables false

theorem tmEq_head {k n k' n' : Int} {ks ls : List Tm} (h : ¬ (k = k' ∧ n = n' ∧ ks.length = ls.length)) : tmEq (.mk k n ks) (.mk k' n' ls) = false := by
  cases e : tmEq (.mk k n ks) (.mk k' n' ls) with
  | false => rfl
  | true => have := tmEq_iff.1 e; injection this with h1 h2 h3; exact absurd ⟨h1, h2, by rw [h3]⟩ h
theorem tmEq_kids {k n : Int} {ks ls : List Tm} : tmEq (.mk k n ks) (.mk k n ls) = tmsEq ks ls := by
  by_cases h : ks = ls
  · subst h; rw [tmEq_self, tmsEq_self]
  · rw [tmsEq_false h]
    cases e : tmEq (.mk k n ks) (.mk k n ls) with
    | false => rfl
    | true => have := tmEq_iff.1 e; injection this with h1 h2 h3; exact absurd h3 h

set_option maxHeartbeats 2000000 in
set_option maxRecDepth 100000 in
theorem sSame_any (N : Nat) : ∀ (k n : Int) (ks : List Tm) (A : Option Addr) (c : Nat) (k' n' : Int) (ls : List Tm) (B : Option Addr) (d : Nat) (w : World), sizes ks < N → ks.length ≤ 9223372036854775807 → ls.length ≤ 9223372036854775807 → Rd w A 0 ks → Rd w B 0 ls →
      Calls Try.prog 120 #[.agg #[.int .i64 k, .int .i64 n, .slice A ks.length c], .agg #[.int .i64 k', .int .i64 n', .slice B ls.length d]] w fun e w' => e = .returned (.bool (tmEq (.mk k n ks) (.mk k' n' ls))) ∧ Below w.heap.size w w' := by
  induction N with
  | zero => intro k n ks A c k' n' ls B d w hN; exact absurd hN (Nat.not_lt_zero _)
  | succ N ih =>
  intro k n ks A c k' n' ls B d w hN hl hl' hr hr'
  have hb2 : ∀ o o', Below w.heap.size w ((w.alloc o).alloc o') := fun o o' => ((Below.refl _ _).alloc (Nat.le_refl _) _).alloc (by simp) _
  by_cases hk : k = k'
  · subst hk
    by_cases hn : n = n'
    · subst hn
      by_cases hlen : ks.length = ls.length
      · rw [tmEq_kids]
        have q1 : (k != k) = false := by simp
        have q2 : (n != n) = false := by simp
        have q3 : ((ks.length : Int) != (ls.length : Int)) = false := by simp [hlen]
        have hH := hide hlen
        have hle : ls.length ≤ ks.length := by omega
        have hge : ks.length ≤ ls.length := by omega
        clear hlen
        go_enter Try.func120, Try.ntmps120
        go_wp2_with fail
        go_loopw [5] (fun i wr => ∃ j : Nat, j ≤ ks.length ∧ i = .int .i64 j ∧ Hid (ks.take j = ls.take j) ∧ Blk wr w.heap.size #[.int .i64 k, .int .i64 n, .slice A ks.length c] ∧ Blk wr (w.heap.size + 1) #[.int .i64 k, .int .i64 n, .slice B ls.length d] ∧ Below w.heap.size w wr) (fun i _ => ks.length - (intOf i).toNat)
        case atStart => exact ⟨0, Nat.zero_le _, rfl, hide (by simp), (Blk.new_ _ _ _ rfl).alloc _, Blk.new_ _ _ _ (by simp), hb2 _ _⟩
        case round =>
          obtain ⟨j, hj, rfl, heq, hB1, hB2, hb⟩ := hrel
          have b2 := hB1.at_ (i := 2) rfl
          by_cases hlt : j < ks.length
          · have hlt' : j < ls.length := by omega
            obtain ⟨b, off, k1, n1, ks1, A1, c1, rfl, hkj, hc1, hc2, hc3, hl1, hr1⟩ := (hr.below hb).at_ hlt
            obtain ⟨b2, off2, k2, n2, ks2, A2, c2, rfl, hkj2, hd1, hd2, hd3, hl2, hr2⟩ := (hr'.below hb).at_ hlt'
            have hsz := sizes_le (List.getElem_mem hlt)
            rw [hkj] at hsz
            simp only [Tm.size] at hsz
            have H3 := hide hkj
            have H4 := hide hkj2
            clear hkj hkj2
            go_wp2_with fail
            have r1 := rule_of hc1
            have r2 := rule_of hc2
            have r3 := rule_of hc3
            have r4 := rule_of hd1
            have r5 := rule_of hd2
            have r6 := rule_of hd3
            have r7 := hB1.rule (i := 2) rfl
            have r8 := hB2.rule (i := 2) rfl
            refine wp_region_firstY (fun w' => Below wr.heap.size wr w') [0, 1, 2, 3, 4, 5, 6, 7, 8, 9] [] [10, 11] [_, _, _, _, _, _, _, _, _, _] [] [_, _] (by kernel_rfl) (by kernel_rfl) rfl rfl rfl (fun _ _ d _ _ h => by cases d <;> exact h) (Below.refl _ _).drew ?_
            repeat (first | ((refine takeY_skip (a' := ?_) ?_ ?_ ?_); (rotate_left); (· (simp [Region.wanted, yielded]; done)); (· (simp only [List.getElem_toArray, List.getElem_cons_zero, List.getElem_cons_succ, Act.put, List.setIfInBounds_toArray, List.set_cons_zero, List.set_cons_succ]; exact rfl))) | ((refine takeY_step (v := ?_) (a' := ?_) ?_ ?_ ?_ ?_); (rotate_left 2); (· (simp [Region.wanted, yielded]; done)); (· (intro w' hS'; go_simp; try (with_reducible rfl))); (· (simp only [List.getElem_toArray, List.getElem_cons_zero, List.getElem_cons_succ, Act.put, List.setIfInBounds_toArray, List.set_cons_zero, List.set_cons_succ]; exact rfl))))
            refine takeY_nil (then_nil ?_)
            clear r1 r2 r3 r4 r5 r6 r7 r8
            cases hte : tmEq (.mk k1 n1 ks1) (.mk k2 n2 ks2) with
            | false =>
              have hte' := hide hte
              clear hte
              go_wp2_with (go_at_call 120; refine (ih k1 n1 ks1 A1 c1 k2 n2 ks2 A2 c2 _ (by omega) hl1 hl2 hr1.drew hr2.drew).mono ?_; rw [hte'.out]; rintro e w1 ⟨rfl, hb1⟩)
              go_ret
              refine ⟨ret_bool (tmsEq_false fun e => ?_).symm, hb.drew.trans (hb1.mono (by simpa using hb.size))⟩
              have := hte'.out
              subst e
              rw [← H3.out, ← H4.out, tmEq_self] at this
              cases this
            | true =>
              have hte' := hide hte
              clear hte
              go_wp2_with (go_at_call 120; refine (ih k1 n1 ks1 A1 c1 k2 n2 ks2 A2 c2 _ (by omega) hl1 hl2 hr1.drew hr2.drew).mono ?_; rw [hte'.out]; rintro e w1 ⟨rfl, hb1⟩)
              replace hb1 : Below wr.heap.size wr w1 := (Below.refl _ _).drew.trans hb1
              go_roundw
              case rel => exact ⟨j + 1, by omega, by go_num, hide (by rw [List.take_succ_eq_append_getElem hlt, List.take_succ_eq_append_getElem hlt', heq.out, H3.out, H4.out, tmEq_iff.1 hte'.out]), hB1.keep hb1, hB2.keep hb1, hb.trans (hb1.mono hb.size)⟩
              case measure => simp [intOf]; omega
          · go_wp2_with fail
            go_ret
            have hjl : j = ks.length := by omega
            have h5 := heq.out
            rw [hjl, List.take_length, hH.out, List.take_length] at h5
            exact ⟨ret_bool (tmsEq_iff.2 h5).symm, hb⟩
      · have q1 : (k != k) = false := by simp
        have q2 : (n != n) = false := by simp
        have q3 : ((ks.length : Int) != (ls.length : Int)) = true := by simp; omega
        rw [tmEq_head (by rintro ⟨-, -, h⟩; exact hlen h)]
        clear hlen
        go_enter Try.func120, Try.ntmps120
        go_wp2_with fail
        go_ret
        exact ⟨rfl, hb2 _ _⟩
    · have q1 : (k != k) = false := by simp
      have q2 : (n != n') = true := by simpa using hn
      rw [tmEq_head (by rintro ⟨-, h, -⟩; exact hn h)]
      clear hn
      go_enter Try.func120, Try.ntmps120
      go_wp2_with fail
      go_ret
      exact ⟨rfl, hb2 _ _⟩
  · have q1 : (k != k') = true := by simpa using hk
    rw [tmEq_head (by rintro ⟨h, -⟩; exact hk h)]
    clear hk
    go_enter Try.func120, Try.ntmps120
    go_wp2_with fail
    go_ret
    exact ⟨rfl, hb2 _ _⟩

set_option maxHeartbeats 2000000 in
set_option maxRecDepth 100000 in
theorem iSame_of {N : Nat} (ih : ∀ (ks : List Tm) (A : Option Addr) (c : Nat) (ls : List Tm) (B : Option Addr) (d : Nat) (w : World), sizes ks < N → ks.length ≤ 9223372036854775807 → ls.length ≤ 9223372036854775807 → Rd w A 0 ks → Rd w B 0 ls →
      Calls Try.prog 94 #[.slice A ks.length c, .slice B ls.length d, .func (.func 48) #[] #[]] w fun e w' => e = .returned (.bool (tmsEq ks ls)) ∧ Below w.heap.size w w')
    (k n : Int) (ks : List Tm) (A : Option Addr) (c : Nat) (k' n' : Int) (ls : List Tm) (B : Option Addr) (d : Nat) (w : World) (hN : sizes ks < N) (hl : ks.length ≤ 9223372036854775807) (hl' : ls.length ≤ 9223372036854775807) (hr : Rd w A 0 ks) (hr' : Rd w B 0 ls) :
    Calls Try.prog 48 #[.agg #[.int .i64 k, .int .i64 n, .slice A ks.length c], .agg #[.int .i64 k', .int .i64 n', .slice B ls.length d]] w fun e w' => e = .returned (.bool (tmEq (.mk k n ks) (.mk k' n' ls))) ∧ Below w.heap.size w w' := by
  have hb2 : ∀ o o', Below w.heap.size w ((w.alloc o).alloc o') := fun o o' => ((Below.refl _ _).alloc (Nat.le_refl _) _).alloc (by simp) _
  by_cases hk : k = k'
  · subst hk
    by_cases hn : n = n'
    · subst hn
      rw [tmEq_kids]
      generalize ht : tmsEq ks ls = b
      have ht' := hide ht
      clear ht
      go_enter Try.func48, Try.ntmps48
      go_wp2_with (go_at_call 94; refine (ih ks A c ls B d _ hN hl hl' ((hr.alloc _).alloc _) ((hr'.alloc _).alloc _)).mono ?_; rw [ht'.out]; rintro e w1 ⟨rfl, hb1⟩; replace hb1 : Below w.heap.size w w1 := (hb2 _ _).trans (hb1.mono (by simp; omega)))
      go_ret
      exact ⟨rfl, hb1⟩
    · have q2 : (n == n') = false := by simpa using hn
      rw [tmEq_head (by rintro ⟨-, h, -⟩; exact hn h)]
      clear hn
      go_enter Try.func48, Try.ntmps48
      go_wp2_with fail
      go_ret
      exact ⟨rfl, hb2 _ _⟩
  · have q1 : (k == k') = false := by simpa using hk
    rw [tmEq_head (by rintro ⟨h, -⟩; exact hk h)]
    clear hk
    go_enter Try.func48, Try.ntmps48
    go_wp2_with fail
    go_ret
    exact ⟨rfl, hb2 _ _⟩

set_option maxHeartbeats 2000000 in
set_option maxRecDepth 100000 in
theorem iSames_any (N : Nat) : ∀ (ks : List Tm) (A : Option Addr) (c : Nat) (ls : List Tm) (B : Option Addr) (d : Nat) (w : World), sizes ks < N → ks.length ≤ 9223372036854775807 → ls.length ≤ 9223372036854775807 → Rd w A 0 ks → Rd w B 0 ls →
      Calls Try.prog 94 #[.slice A ks.length c, .slice B ls.length d, .func (.func 48) #[] #[]] w fun e w' => e = .returned (.bool (tmsEq ks ls)) ∧ Below w.heap.size w w' := by
  induction N with
  | zero => intro ks A c ls B d w hN; exact absurd hN (Nat.not_lt_zero _)
  | succ N ih =>
  intro ks A c ls B d w hN hl hl' hr hr'
  have hrun := run_enter Try.func48 (by kernel_rfl) (by kernel_rfl)
  by_cases hlen : ks.length = ls.length
  · have hq : ((ks.length : Int) != (ls.length : Int)) = false := by simp [hlen]
    have hH := hide hlen
    have hle : ls.length ≤ ks.length := by omega
    have hge : ks.length ≤ ls.length := by omega
    clear hlen
    go_enter Try.func94, Try.ntmps94
    go_wp2_with fail
    go_loopw [17] (fun i wr => ∃ j : Nat, j ≤ ks.length ∧ i = .int .i64 j ∧ Hid (ks.take j = ls.take j) ∧ Below w.heap.size w wr) (fun i _ => ks.length - (intOf i).toNat)
    case atStart => exact ⟨0, Nat.zero_le _, rfl, hide (by simp), Below.refl _ _⟩
    case round =>
      obtain ⟨j, hj, rfl, heq, hb⟩ := hrel
      by_cases hlt : j < ks.length
      · have hlt' : j < ls.length := by omega
        obtain ⟨b, off, k1, n1, ks1, A1, c1, rfl, hkj, hc1, hc2, hc3, hl1, hr1⟩ := (hr.below hb).at_ hlt
        obtain ⟨b2, off2, k2, n2, ks2, A2, c2, rfl, hkj2, hd1, hd2, hd3, hl2, hr2⟩ := (hr'.below hb).at_ hlt'
        have hbl := World.block_lt_of_cell? _ _ hc1
        have hbl2 := World.block_lt_of_cell? _ _ hd1
        have hsz := sizes_le (List.getElem_mem hlt)
        rw [hkj] at hsz
        simp only [Tm.size] at hsz
        have H3 := hide hkj
        have H4 := hide hkj2
        clear hkj hkj2
        have hx : ∀ o o', Below wr.heap.size wr ((wr.alloc o).alloc o') := fun o o' => ((Below.refl _ _).alloc (Nat.le_refl _) _).alloc (by simp) _
        cases hte : tmEq (.mk k1 n1 ks1) (.mk k2 n2 ks2) with
        | false =>
          have hte' := hide hte
          clear hte
          go_wp2_with (go_at_call 48; refine (iSame_of ih k1 n1 ks1 A1 c1 k2 n2 ks2 A2 c2 _ (by omega) hl1 hl2 ((hr1.alloc _).alloc _) ((hr2.alloc _).alloc _)).mono ?_; rw [hte'.out]; rintro e w1 ⟨rfl, hb1⟩; replace hb1 : Below wr.heap.size wr w1 := (hx _ _).trans (hb1.mono (by simp; omega)))
          go_ret
          refine ⟨ret_bool (tmsEq_false fun e => ?_).symm, hb.trans (hb1.mono hb.size)⟩
          have := hte'.out
          subst e
          rw [← H3.out, ← H4.out, tmEq_self] at this
          cases this
        | true =>
          have hte' := hide hte
          clear hte
          go_wp2_with (go_at_call 48; refine (iSame_of ih k1 n1 ks1 A1 c1 k2 n2 ks2 A2 c2 _ (by omega) hl1 hl2 ((hr1.alloc _).alloc _) ((hr2.alloc _).alloc _)).mono ?_; rw [hte'.out]; rintro e w1 ⟨rfl, hb1⟩; replace hb1 : Below wr.heap.size wr w1 := (hx _ _).trans (hb1.mono (by simp; omega)))
          go_roundw
          case rel => exact ⟨j + 1, by omega, by go_num, hide (by rw [List.take_succ_eq_append_getElem hlt, List.take_succ_eq_append_getElem hlt', heq.out, H3.out, H4.out, tmEq_iff.1 hte'.out]), hb.trans (hb1.mono hb.size)⟩
          case measure => simp [intOf]; omega
      · go_wp2_with fail
        go_ret
        have hjl : j = ks.length := by omega
        have h5 := heq.out
        rw [hjl, List.take_length, hH.out, List.take_length] at h5
        exact ⟨ret_bool (tmsEq_iff.2 h5).symm, hb⟩
  · have hq : ((ks.length : Int) != (ls.length : Int)) = true := by simp; omega
    rw [tmsEq_false (fun e => hlen (by rw [e]))]
    clear hlen
    go_enter Try.func94, Try.ntmps94
    go_wp2_with fail
    go_ret
    exact ⟨rfl, Below.refl _ _⟩
theorem iSame_any (k n : Int) (ks : List Tm) (A : Option Addr) (c : Nat) (k' n' : Int) (ls : List Tm) (B : Option Addr) (d : Nat) (w : World) (hl : ks.length ≤ 9223372036854775807) (hl' : ls.length ≤ 9223372036854775807) (hr : Rd w A 0 ks) (hr' : Rd w B 0 ls) :
    Calls Try.prog 48 #[.agg #[.int .i64 k, .int .i64 n, .slice A ks.length c], .agg #[.int .i64 k', .int .i64 n', .slice B ls.length d]] w fun e w' => e = .returned (.bool (tmEq (.mk k n ks) (.mk k' n' ls))) ∧ Below w.heap.size w w' :=
  iSame_of (N := sizes ks + 1) (iSames_any _) k n ks A c k' n' ls B d w (Nat.lt_succ_self _) hl hl' hr hr'
end Go.Proofs.Ytefifcmieicnlaa
