/-
  Texts that are common to the laws: Same, OwnT. No condition.
-/
import Derived.Test.YtgmljpmnfncceaaK1
import Derived.Test.YtgmljpmnfncceaaK2
import Derived.WalkSpells
import Derived.WalkLawsBesides

namespace Go.Proofs.Ytgmljpmnfncceaa
open Go.RowKit
set_option linter.unusedSimpArgs false
set_option linter.unusedVariables false

theorem tmEq_head {k n k' n' : Int} {ks ls : List Tm} (h : ¬ (k = k' ∧ n = n' ∧ ks.length = ls.length)) : tmEq (.mk k n ks) (.mk k' n' ls) = false := by
  cases e : tmEq (.mk k n ks) (.mk k' n' ls) with
  | false => rfl
  | true => have := tmEq_iff.1 e; injection this with h1 h2 h3; exact absurd ⟨h1, h2, by rw [h3]⟩ h
theorem tmEq_kids {k n : Int} {ks ls : List Tm} : tmEq (.mk k n ks) (.mk k n ls) = tmsEq ks ls := by
  by_cases h : ks = ls
  · subst h; rw [tmEq_self, tmsEq_self]
  · rw [tmsEq_false h]
    cases e : tmEq (.mk k n ks) (.mk k n ls) with
    | false => rfl
    | true => have := tmEq_iff.1 e; injection this with h1 h2 h3; exact absurd h3 h

set_option maxHeartbeats 2000000 in
set_option maxRecDepth 100000 in
theorem sSame_any (N : Nat) : ∀ (k n : Int) (ks : List Tm) (A : Option Addr) (c : Nat) (k' n' : Int) (ls : List Tm) (B : Option Addr) (d : Nat) (w : World), sizes ks < N → ks.length ≤ 9223372036854775807 → ls.length ≤ 9223372036854775807 → Rd w A 0 ks → Rd w B 0 ls →
      Calls Try.prog 53 #[.agg #[.int .i64 k, .int .i64 n, .slice A ks.length c], .agg #[.int .i64 k', .int .i64 n', .slice B ls.length d]] w fun e w' => e = .returned (.bool (tmEq (.mk k n ks) (.mk k' n' ls))) ∧ Below w.heap.size w w' := by
  induction N with
  | zero => intro k n ks A c k' n' ls B d w hN; exact absurd hN (Nat.not_lt_zero _)
  | succ N ih =>
  intro k n ks A c k' n' ls B d w hN hl hl' hr hr'
  have hb2 : ∀ o o', Below w.heap.size w ((w.alloc o).alloc o') := fun o o' => ((Below.refl _ _).alloc (Nat.le_refl _) _).alloc (by simp) _
  by_cases hk : k = k'
  · subst hk
    by_cases hn : n = n'
    · subst hn
      by_cases hlen : ks.length = ls.length
      · rw [tmEq_kids]
        have q1 : (k != k) = false := by simp
        have q2 : (n != n) = false := by simp
        have q3 : ((ks.length : Int) != (ls.length : Int)) = false := by simp [hlen]
        have hH := hide hlen
        have hle : ls.length ≤ ks.length := by omega
        have hge : ks.length ≤ ls.length := by omega
        clear hlen
        go_enter Try.func53, Try.ntmps53
        go_wp2_with fail
        go_loopw [5] (fun i wr => ∃ j : Nat, j ≤ ks.length ∧ i = .int .i64 j ∧ Hid (ks.take j = ls.take j) ∧ Blk wr w.heap.size #[.int .i64 k, .int .i64 n, .slice A ks.length c] ∧ Blk wr (w.heap.size + 1) #[.int .i64 k, .int .i64 n, .slice B ls.length d] ∧ Below w.heap.size w wr) (fun i _ => ks.length - (intOf i).toNat)
        case atStart => exact ⟨0, Nat.zero_le _, rfl, hide (by simp), (Blk.new_ _ _ _ rfl).alloc _, Blk.new_ _ _ _ (by simp), hb2 _ _⟩
        case round =>
          obtain ⟨j, hj, rfl, heq, hB1, hB2, hb⟩ := hrel
          have b2 := hB1.at_ (i := 2) rfl
          by_cases hlt : j < ks.length
          · have hlt' : j < ls.length := by omega
            obtain ⟨b, off, k1, n1, ks1, A1, c1, rfl, hkj, hc1, hc2, hc3, hl1, hr1⟩ := (hr.below hb).at_ hlt
            obtain ⟨b2, off2, k2, n2, ks2, A2, c2, rfl, hkj2, hd1, hd2, hd3, hl2, hr2⟩ := (hr'.below hb).at_ hlt'
            have hsz := sizes_le (List.getElem_mem hlt)
            rw [hkj] at hsz
            simp only [Tm.size] at hsz
            have H3 := hide hkj
            have H4 := hide hkj2
            clear hkj hkj2
            go_wp2_with fail
            have r1 := rule_of hc1
            have r2 := rule_of hc2
            have r3 := rule_of hc3
            have r4 := rule_of hd1
            have r5 := rule_of hd2
            have r6 := rule_of hd3
            have r7 := hB1.rule (i := 2) rfl
            have r8 := hB2.rule (i := 2) rfl
            refine wp_region_firstY (fun w' => Below wr.heap.size wr w') [0, 1, 2, 3, 4, 5, 6, 7, 8, 9] [] [10, 11] [_, _, _, _, _, _, _, _, _, _] [] [_, _] (by kernel_rfl) (by kernel_rfl) rfl rfl rfl (fun _ _ d _ _ h => by cases d <;> exact h) (Below.refl _ _).drew ?_
            repeat (first | ((refine takeY_skip (a' := ?_) ?_ ?_ ?_); (rotate_left); (· (simp [Region.wanted, yielded]; done)); (· (simp only [List.getElem_toArray, List.getElem_cons_zero, List.getElem_cons_succ, Act.put, List.setIfInBounds_toArray, List.set_cons_zero, List.set_cons_succ]; exact rfl))) | ((refine takeY_step (v := ?_) (a' := ?_) ?_ ?_ ?_ ?_); (rotate_left 2); (· (simp [Region.wanted, yielded]; done)); (· (intro w' hS'; go_simp; try (with_reducible rfl))); (· (simp only [List.getElem_toArray, List.getElem_cons_zero, List.getElem_cons_succ, Act.put, List.setIfInBounds_toArray, List.set_cons_zero, List.set_cons_succ]; exact rfl))))
            refine takeY_nil (then_nil ?_)
            clear r1 r2 r3 r4 r5 r6 r7 r8
            cases hte : tmEq (.mk k1 n1 ks1) (.mk k2 n2 ks2) with
            | false =>
              have hte' := hide hte
              clear hte
              go_wp2_with (go_at_call 53; refine (ih k1 n1 ks1 A1 c1 k2 n2 ks2 A2 c2 _ (by omega) hl1 hl2 hr1.drew hr2.drew).mono ?_; rw [hte'.out]; rintro e w1 ⟨rfl, hb1⟩)
              go_ret
              refine ⟨ret_bool (tmsEq_false fun e => ?_).symm, hb.drew.trans (hb1.mono (by simpa using hb.size))⟩
              have := hte'.out
              subst e
              rw [← H3.out, ← H4.out, tmEq_self] at this
              cases this
            | true =>
              have hte' := hide hte
              clear hte
              go_wp2_with (go_at_call 53; refine (ih k1 n1 ks1 A1 c1 k2 n2 ks2 A2 c2 _ (by omega) hl1 hl2 hr1.drew hr2.drew).mono ?_; rw [hte'.out]; rintro e w1 ⟨rfl, hb1⟩)
              replace hb1 : Below wr.heap.size wr w1 := (Below.refl _ _).drew.trans hb1
              go_roundw
              case rel => exact ⟨j + 1, by omega, by go_num, hide (by rw [List.take_succ_eq_append_getElem hlt, List.take_succ_eq_append_getElem hlt', heq.out, H3.out, H4.out, tmEq_iff.1 hte'.out]), hB1.keep hb1, hB2.keep hb1, hb.trans (hb1.mono hb.size)⟩
              case measure => simp [intOf]; omega
          · go_wp2_with fail
            go_ret
            have hjl : j = ks.length := by omega
            have h5 := heq.out
            rw [hjl, List.take_length, hH.out, List.take_length] at h5
            exact ⟨ret_bool (tmsEq_iff.2 h5).symm, hb⟩
      · have q1 : (k != k) = false := by simp
        have q2 : (n != n) = false := by simp
        have q3 : ((ks.length : Int) != (ls.length : Int)) = true := by simp; omega
        rw [tmEq_head (by rintro ⟨-, -, h⟩; exact hlen h)]
        clear hlen
        go_enter Try.func53, Try.ntmps53
        go_wp2_with fail
        go_ret
        exact ⟨rfl, hb2 _ _⟩
    · have q1 : (k != k) = false := by simp
      have q2 : (n != n') = true := by simpa using hn
      rw [tmEq_head (by rintro ⟨-, h, -⟩; exact hn h)]
      clear hn
      go_enter Try.func53, Try.ntmps53
      go_wp2_with fail
      go_ret
      exact ⟨rfl, hb2 _ _⟩
  · have q1 : (k != k') = true := by simpa using hk
    rw [tmEq_head (by rintro ⟨h, -⟩; exact hk h)]
    clear hk
    go_enter Try.func53, Try.ntmps53
    go_wp2_with fail
    go_ret
    exact ⟨rfl, hb2 _ _⟩

set_option maxHeartbeats 2000000 in
set_option maxRecDepth 100000 in
theorem iSame_of {N : Nat} (ih : ∀ (ks : List Tm) (A : Option Addr) (c : Nat) (ls : List Tm) (B : Option Addr) (d : Nat) (w : World), sizes ks < N → ks.length ≤ 9223372036854775807 → ls.length ≤ 9223372036854775807 → Rd w A 0 ks → Rd w B 0 ls →
      Calls Try.prog 46 #[.slice A ks.length c, .slice B ls.length d, .func (.func 18) #[] #[]] w fun e w' => e = .returned (.bool (tmsEq ks ls)) ∧ Below w.heap.size w w')
    (k n : Int) (ks : List Tm) (A : Option Addr) (c : Nat) (k' n' : Int) (ls : List Tm) (B : Option Addr) (d : Nat) (w : World) (hN : sizes ks < N) (hl : ks.length ≤ 9223372036854775807) (hl' : ls.length ≤ 9223372036854775807) (hr : Rd w A 0 ks) (hr' : Rd w B 0 ls) :
    Calls Try.prog 18 #[.agg #[.int .i64 k, .int .i64 n, .slice A ks.length c], .agg #[.int .i64 k', .int .i64 n', .slice B ls.length d]] w fun e w' => e = .returned (.bool (tmEq (.mk k n ks) (.mk k' n' ls))) ∧ Below w.heap.size w w' := by
  have hb2 : ∀ o o', Below w.heap.size w ((w.alloc o).alloc o') := fun o o' => ((Below.refl _ _).alloc (Nat.le_refl _) _).alloc (by simp) _
  by_cases hk : k = k'
  · subst hk
    by_cases hn : n = n'
    · subst hn
      rw [tmEq_kids]
      generalize ht : tmsEq ks ls = b
      have ht' := hide ht
      clear ht
      go_enter Try.func18, Try.ntmps18
      go_wp2_with (go_at_call 46; refine (ih ks A c ls B d _ hN hl hl' ((hr.alloc _).alloc _) ((hr'.alloc _).alloc _)).mono ?_; rw [ht'.out]; rintro e w1 ⟨rfl, hb1⟩; replace hb1 : Below w.heap.size w w1 := (hb2 _ _).trans (hb1.mono (by simp; omega)))
      go_ret
      exact ⟨rfl, hb1⟩
    · have q2 : (n == n') = false := by simpa using hn
      rw [tmEq_head (by rintro ⟨-, h, -⟩; exact hn h)]
      clear hn
      go_enter Try.func18, Try.ntmps18
      go_wp2_with fail
      go_ret
      exact ⟨rfl, hb2 _ _⟩
  · have q1 : (k == k') = false := by simpa using hk
    rw [tmEq_head (by rintro ⟨h, -⟩; exact hk h)]
    clear hk
    go_enter Try.func18, Try.ntmps18
    go_wp2_with fail
    go_ret
    exact ⟨rfl, hb2 _ _⟩

set_option maxHeartbeats 2000000 in
set_option maxRecDepth 100000 in
theorem iSames_any (N : Nat) : ∀ (ks : List Tm) (A : Option Addr) (c : Nat) (ls : List Tm) (B : Option Addr) (d : Nat) (w : World), sizes ks < N → ks.length ≤ 9223372036854775807 → ls.length ≤ 9223372036854775807 → Rd w A 0 ks → Rd w B 0 ls →
      Calls Try.prog 46 #[.slice A ks.length c, .slice B ls.length d, .func (.func 18) #[] #[]] w fun e w' => e = .returned (.bool (tmsEq ks ls)) ∧ Below w.heap.size w w' := by
  induction N with
  | zero => intro ks A c ls B d w hN; exact absurd hN (Nat.not_lt_zero _)
  | succ N ih =>
  intro ks A c ls B d w hN hl hl' hr hr'
  have hrun := run_enter Try.func18 (by kernel_rfl) (by kernel_rfl)
  by_cases hlen : ks.length = ls.length
  · have hq : ((ks.length : Int) != (ls.length : Int)) = false := by simp [hlen]
    have hH := hide hlen
    have hle : ls.length ≤ ks.length := by omega
    have hge : ks.length ≤ ls.length := by omega
    clear hlen
    go_enter Try.func46, Try.ntmps46
    go_wp2_with fail
    go_loopw [17] (fun i wr => ∃ j : Nat, j ≤ ks.length ∧ i = .int .i64 j ∧ Hid (ks.take j = ls.take j) ∧ Below w.heap.size w wr) (fun i _ => ks.length - (intOf i).toNat)
    case atStart => exact ⟨0, Nat.zero_le _, rfl, hide (by simp), Below.refl _ _⟩
    case round =>
      obtain ⟨j, hj, rfl, heq, hb⟩ := hrel
      by_cases hlt : j < ks.length
      · have hlt' : j < ls.length := by omega
        obtain ⟨b, off, k1, n1, ks1, A1, c1, rfl, hkj, hc1, hc2, hc3, hl1, hr1⟩ := (hr.below hb).at_ hlt
        obtain ⟨b2, off2, k2, n2, ks2, A2, c2, rfl, hkj2, hd1, hd2, hd3, hl2, hr2⟩ := (hr'.below hb).at_ hlt'
        have hbl := World.block_lt_of_cell? _ _ hc1
        have hbl2 := World.block_lt_of_cell? _ _ hd1
        have hsz := sizes_le (List.getElem_mem hlt)
        rw [hkj] at hsz
        simp only [Tm.size] at hsz
        have H3 := hide hkj
        have H4 := hide hkj2
        clear hkj hkj2
        have hx : ∀ o o', Below wr.heap.size wr ((wr.alloc o).alloc o') := fun o o' => ((Below.refl _ _).alloc (Nat.le_refl _) _).alloc (by simp) _
        cases hte : tmEq (.mk k1 n1 ks1) (.mk k2 n2 ks2) with
        | false =>
          have hte' := hide hte
          clear hte
          go_wp2_with (go_at_call 18; refine (iSame_of ih k1 n1 ks1 A1 c1 k2 n2 ks2 A2 c2 _ (by omega) hl1 hl2 ((hr1.alloc _).alloc _) ((hr2.alloc _).alloc _)).mono ?_; rw [hte'.out]; rintro e w1 ⟨rfl, hb1⟩; replace hb1 : Below wr.heap.size wr w1 := (hx _ _).trans (hb1.mono (by simp; omega)))
          go_ret
          refine ⟨ret_bool (tmsEq_false fun e => ?_).symm, hb.trans (hb1.mono hb.size)⟩
          have := hte'.out
          subst e
          rw [← H3.out, ← H4.out, tmEq_self] at this
          cases this
        | true =>
          have hte' := hide hte
          clear hte
          go_wp2_with (go_at_call 18; refine (iSame_of ih k1 n1 ks1 A1 c1 k2 n2 ks2 A2 c2 _ (by omega) hl1 hl2 ((hr1.alloc _).alloc _) ((hr2.alloc _).alloc _)).mono ?_; rw [hte'.out]; rintro e w1 ⟨rfl, hb1⟩; replace hb1 : Below wr.heap.size wr w1 := (hx _ _).trans (hb1.mono (by simp; omega)))
          go_roundw
          case rel => exact ⟨j + 1, by omega, by go_num, hide (by rw [List.take_succ_eq_append_getElem hlt, List.take_succ_eq_append_getElem hlt', heq.out, H3.out, H4.out, tmEq_iff.1 hte'.out]), hb.trans (hb1.mono hb.size)⟩
          case measure => simp [intOf]; omega
      · go_wp2_with fail
        go_ret
        have hjl : j = ks.length := by omega
        have h5 := heq.out
        rw [hjl, List.take_length, hH.out, List.take_length] at h5
        exact ⟨ret_bool (tmsEq_iff.2 h5).symm, hb⟩
  · have hq : ((ks.length : Int) != (ls.length : Int)) = true := by simp; omega
    rw [tmsEq_false (fun e => hlen (by rw [e]))]
    clear hlen
    go_enter Try.func46, Try.ntmps46
    go_wp2_with fail
    go_ret
    exact ⟨rfl, Below.refl _ _⟩
theorem iSame_any (k n : Int) (ks : List Tm) (A : Option Addr) (c : Nat) (k' n' : Int) (ls : List Tm) (B : Option Addr) (d : Nat) (w : World) (hl : ks.length ≤ 9223372036854775807) (hl' : ls.length ≤ 9223372036854775807) (hr : Rd w A 0 ks) (hr' : Rd w B 0 ls) :
    Calls Try.prog 18 #[.agg #[.int .i64 k, .int .i64 n, .slice A ks.length c], .agg #[.int .i64 k', .int .i64 n', .slice B ls.length d]] w fun e w' => e = .returned (.bool (tmEq (.mk k n ks) (.mk k' n' ls))) ∧ Below w.heap.size w w' :=
  iSame_of (N := sizes ks + 1) (iSames_any _) k n ks A c k' n' ls B d w (Nat.lt_succ_self _) hl hl' hr hr'
end Go.Proofs.Ytgmljpmnfncceaa

namespace Go.Proofs.Ytgmljpmnfncceaa
open Go.RowKit
set_option linter.unusedSimpArgs false
set_option linter.unusedVariables false

theorem got_mono {w w' : World} {k n : Int} {ks : List Tm} {e : Ending} {w2 : World} (hb : Below w.heap.size w w') (h : GotT w' k n ks e w2) : GotT w k n ks e w2 := by
  obtain ⟨A, c, h1, h2, h3, h4⟩ := h
  exact ⟨A, c, h1, h2, h3.mono hb.size, hb.trans (h4.mono hb.size)⟩

set_option maxHeartbeats 1000000 in
set_option maxRecDepth 100000 in
theorem own_any (N : Nat) : ∀ (k n : Int) (ks : List Tm) (A : Option Addr) (c : Nat) (w : World), sizes ks < N → sizes ks ≤ 1099511627776 → Rd w A 0 ks →
    Calls Try.prog 41 #[.agg #[.int .i64 k, .int .i64 n, .slice A ks.length c]] w (GotT w k n ks) := by
  induction N with
  | zero => intro k n ks A c w hN; exact absurd hN (Nat.not_lt_zero _)
  | succ N ih =>
  intro k n ks A c w hN hM hr
  have hlen := length_le_sizes ks
  go_enter Try.func41, Try.ntmps41
  go_wp2_with fail
  go_loopw [14] (fun i wr => ∃ (j : Nat) (v : Value), j ≤ ks.length ∧ i = .int .i64 j ∧ Part (w.heap.size + 3) wr v (ks.take j) ∧ Blk wr (w.heap.size + 1 + 1) #[.int .i64 k, .int .i64 n, v] ∧ Blk wr (w.heap.size + 1) #[.int .i64 0, .int .i64 0, .slice none 0 0] ∧ Below w.heap.size w wr)
    (fun i _ => ks.length - (intOf i).toNat)
  case atStart => exact ⟨0, _, Nat.zero_le _, rfl, Part.nil, Blk.new_ _ _ _ (by simp), (Blk.new_ _ _ _ (by simp)).alloc _, (((Below.refl _ _).alloc (by simp) _).alloc (by simp) _).alloc (by simp; omega) _⟩
  case round =>
    obtain ⟨j, v, hj, rfl, hp, hB3, hB2, hb⟩ := hrel
    by_cases hlt : j < ks.length
    · obtain ⟨b, off, k', n', ks', A', c', rfl, hkj, hc1, hc2, hc3, hl', hr'⟩ := (hr.below hb).at_ hlt
      have hbl := World.block_lt_of_cell? _ _ hc1
      have hsz := sizes_le (List.getElem_mem hlt)
      rw [hkj] at hsz
      simp only [Tm.size] at hsz
      have H3 := hide hkj
      clear hkj
      have hz := hB3.lt
      have c2 : wr.cell? ⟨w.heap.size + 1 + 1, 2, none⟩ = some v := hB3.at_ rfl
      go_wp2_with fail
      refine name_world ?_
      intro wx hwx
      have hXB : Blk wx wr.heap.size #[.int .i64 k', .int .i64 n', .slice A' ks'.length c'] := by rw [hwx]; exact Blk.new_ _ _ _ rfl
      have hpx : Part (w.heap.size + 3) wx v (ks.take j) := by rw [hwx]; exact hp.alloc _
      have hrx : Rd wx A' 0 ks' := by rw [hwx]; exact hr'.alloc _
      have hB3x : Blk wx (w.heap.size + 1 + 1) #[.int .i64 k, .int .i64 n, v] := by rw [hwx]; exact hB3.alloc _
      have hB2x : Blk wx (w.heap.size + 1) #[.int .i64 0, .int .i64 0, .slice none 0 0] := by rw [hwx]; exact hB2.alloc _
      have hbx : Below w.heap.size w wx := by rw [hwx]; exact hb.alloc hb.size _
      have hs1 : wr.heap.size < wx.heap.size := by rw [hwx]; simp
      have hs2 : w.heap.size + 1 + 1 < wx.heap.size := by omega
      have x2 := hB3x.rule (i := 2) rfl
      have y0 := hXB.rule (i := 0) rfl
      have y1 := hXB.rule (i := 1) rfl
      have y2 := hXB.rule (i := 2) rfl
      clear hwx
      refine wp_region_first (fun w' => Below wx.heap.size wx w') [0, 1, 2] [3, 4] [5, 6, 7] [_, _, _] [_, _] [_, _, _] (by kernel_rfl) (by kernel_rfl) rfl rfl rfl (fun _ _ d _ _ h => by cases d <;> exact h) (Below.refl _ _).drew ?_
      repeat (first | ((refine take_skip (a' := ?_) ?_ ?_ ?_); (rotate_left); (· (simp [Region.wanted, yielded]; done)); (· (simp only [Act.put, List.setIfInBounds_toArray, List.set_cons_zero, List.set_cons_succ]; exact rfl))) | ((refine take_step (v := ?_) (a' := ?_) ?_ ?_ ?_ ?_); (rotate_left 2); (· (simp [Region.wanted, yielded]; done)); (· (intro w' hS'; go_simp; try (with_reducible rfl))); (· (simp only [Act.put, List.setIfInBounds_toArray, List.set_cons_zero, List.set_cons_succ]; exact rfl))))
      refine take_nil (then_cons ?_)
      go_wp2_with (go_at_call 41; refine (ih k' n' ks' A' c' _ (by omega) (by omega) hrx.drew).mono ?_; rintro e w1 ⟨A1, c1, rfl, hl1, hf1, hb1⟩)
      have hx1 : Below wx.heap.size wx w1 := (Below.refl wx.heap.size wx).drew.trans hb1
      refine mid_intro hx1 (then_cons ?_)
      go_wp2_with fail
      refine mid_intro (hx1.alloc hx1.size _) (then_nil ?_)
      refine wpList_append_built (B := w.heap.size + 3) (m := j) hpx.drew hb1 (by simp; omega) hf1 hl1 (by simp; omega) (by omega) rfl (.tmp 19) (.tmp 22) rfl rfl rfl ?_
      intro A2 c2 w2 hp2 hb2 hg2
      have q3 : Blk w2 (w.heap.size + 1 + 1) #[.int .i64 k, .int .i64 n, v] := (hB3x.below hx1 (by omega)).below hb2 (by omega)
      have q2 : Blk w2 (w.heap.size + 1) #[.int .i64 0, .int .i64 0, .slice none 0 0] := (hB2x.below hx1 (by omega)).below hb2 (by omega)
      have c3 : w2.cell? ⟨w.heap.size + 1 + 1, 2, none⟩ = some v := q3.at_ rfl
      have z3 := q3.frozen 2
      have hbf : Below w.heap.size w w2 := (hbx.trans (hx1.mono (by omega))).trans (hb2.mono (by omega))
      clear x2 y0 y1 y2 hpx hrx hB3x hB2x hbx
      go_wp2_with fail
      go_roundw
      case rel => exact ⟨j + 1, _, by omega, by go_num, by rw [List.take_succ_eq_append_getElem hlt, H3.out]; exact hp2.setCell (by simp) _, q3.set_ 2 _, q2.far (by simp) _, hbf.setCell (by simp; omega) _⟩
      case measure => simp [intOf]; omega
    · have hjl : j = ks.length := by omega
      subst hjl
      rw [List.take_length] at hp
      obtain ⟨Ar, cr, rfl, hfr⟩ := hp.fresh
      have c0 : wr.cell? ⟨w.heap.size + 1 + 1, 0, none⟩ = some (.int .i64 k) := hB3.at_ rfl
      have c1 : wr.cell? ⟨w.heap.size + 1 + 1, 1, none⟩ = some (.int .i64 n) := hB3.at_ rfl
      have c2 : wr.cell? ⟨w.heap.size + 1 + 1, 2, none⟩ = some (.slice Ar ks.length cr) := hB3.at_ rfl
      have d0 : wr.cell? ⟨w.heap.size + 1, 0, none⟩ = some (.int .i64 0) := hB2.at_ rfl
      have d1 : wr.cell? ⟨w.heap.size + 1, 1, none⟩ = some (.int .i64 0) := hB2.at_ rfl
      have d2 : wr.cell? ⟨w.heap.size + 1, 2, none⟩ = some (.slice none 0 0) := hB2.at_ rfl
      have e0 := hB2.frozen 0
      have e1 := hB2.frozen 1
      have e2 := hB2.frozen 2
      go_wp2_with fail
      refine bodyPost_ret (v := .agg #[.int .i64 k, .int .i64 n, .slice Ar ks.length cr]) (by simp [results, Try.results41, go_sem, d0, d1, d2]) rfl ⟨Ar, cr, rfl, by omega, ?_, ?_⟩
      · exact (((hfr.setCell (by simp) _).setCell (by simp) _).setCell (by simp) _).mono (by omega)
      · exact ((hb.setCell (by simp) _).setCell (by simp) _).setCell (by simp) _

set_option maxHeartbeats 1000000 in
set_option maxRecDepth 100000 in
theorem ownAll_any (ks : List Tm) (A : Option Addr) (c : Nat) (w : World) (hM : sizes ks ≤ 1099511627776) (hr : Rd w A 0 ks) :
    Calls Try.prog 29 #[.slice A ks.length c] w (GotL w ks) := by
  have hlen := length_le_sizes ks
  go_enter Try.func29, Try.ntmps29
  go_wp2_with fail
  go_loopw [3, 8] (fun v i wr => ∃ (j : Nat), j ≤ ks.length ∧ i = .int .i64 j ∧ Part w.heap.size wr v (ks.take j) ∧ Below w.heap.size w wr)
    (fun _ i _ => ks.length - (intOf i).toNat)
  case atStart => exact ⟨0, Nat.zero_le _, rfl, Part.nil, Below.refl _ _⟩
  case round =>
    obtain ⟨j, hj, rfl, hp, hb⟩ := hrel
    by_cases hlt : j < ks.length
    · obtain ⟨b, off, k', n', ks', A', c', rfl, hkj, hc1, hc2, hc3, hl', hr'⟩ := (hr.below hb).at_ hlt
      have hsz := sizes_le (List.getElem_mem hlt)
      rw [hkj] at hsz
      simp only [Tm.size] at hsz
      have H3 := hide hkj
      clear hkj
      go_wp2_with (first | (go_at_call 41; refine (own_any (sizes ks' + 1) k' n' ks' A' c' _ (by omega) (by omega) (hr'.alloc _)).mono ?_; rintro e w1 ⟨A1, c1, rfl, hl1, hf1, hb1⟩) | (at_builtin; refine wpList_append_built (B := w.heap.size) (m := j) (hp.alloc _) hb1 (by simp; have := hb.size; omega) hf1 hl1 (by simp; omega) (by omega) rfl _ _ rfl rfl rfl ?_; intro A2 c2 w2 hp2 hb2 hg2))
      go_roundw
      case rel => exact ⟨j + 1, by omega, by go_num, by rw [List.take_succ_eq_append_getElem hlt, H3.out]; exact hp2, (hb.trans (((Below.refl _ _).alloc (Nat.le_refl _) _).trans (hb1.mono (by simp)) |>.mono hb.size)).trans hb2⟩
      case measure => simp [intOf]; omega
    · have hjl : j = ks.length := by omega
      subst hjl
      rw [List.take_length] at hp
      obtain ⟨Ar, cr, rfl, hfr⟩ := hp.fresh
      go_wp2_with fail
      go_ret
      exact ⟨Ar, cr, rfl, hfr, hb⟩
end Go.Proofs.Ytgmljpmnfncceaa
