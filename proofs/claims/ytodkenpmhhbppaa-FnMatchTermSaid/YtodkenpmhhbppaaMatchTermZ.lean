/-
  The statement FnMatchTermSaid, proved.
-/
import Derived.Test.YtodkenpmhhbppaaK1
import Derived.Test.YtodkenpmhhbppaaK2
import Derived.Test.YtodkenpmhhbppaaK3
import Derived.Test.YtodkenpmhhbppaaK5
import Derived.Test.YtodkenpmhhbppaaK8
import Derived.Test.YtodkenpmhhbppaaK12
import Derived.Test.YtodkenpmhhbppaaK15

namespace Go.Proofs.Ytodkenpmhhbppaa
open Go.RowKit
set_option linter.unusedSimpArgs false
set_option linter.unusedVariables false

theorem gotLO_pair {w : World} {o : Option (List Tm)} {e : Ending} {w' : World} (h : GotLO w o e w') {L : List Tm} (hL : o.getD [] = L) {b : Bool} (hb : o.isSome = b) :
    ∃ A c, e = .returned (.tuple #[.slice A L.length c, .bool b]) ∧ Fresh w.heap.size w' A L ∧ Below w.heap.size w w' := by
  subst hL hb; exact h
set_option maxHeartbeats 8000000 in
set_option maxRecDepth 100000 in
theorem lawMatchClosed_any (bs : List Int) (A : Option Addr) (c : Nat) (w : World) (hl : bs.length ≤ 9223372036854775807) (hc : bs.length ≤ c) (hr : RdY w A bs) :
    Calls Try.prog 7 #[.slice A bs.length c] w fun e w' => e = .returned (.bool true) ∧ Below w.heap.size w w' := by
  by_cases hbig : 1048576 < bs.length
  · go_enter Try.func7, Try.ntmps7
    go_wp2_with fail
    go_ret
    exact ⟨rfl, Below.refl _ _⟩
  · go_enter Try.func7, Try.ntmps7
    go_wp2_with (go_at_call 32; refine (drawMatch_any bs A c _ hl hc hr).mono ?_; rintro e w1 ⟨k, n, ks, A1, c1, z, ku, nu, us, U1, cu, rfl, hlk, hsk, hlu, hsu, hz1, hz2, hrk, hru, hb1⟩)
    refine name_calls ?_
    intro w2 hw2
    have hX : Blk w2 w1.heap.size #[.int .i64 k, .int .i64 n, .slice A1 ks.length c1] := by rw [hw2]; exact (Blk.new_ _ _ _ rfl).alloc _
    have hU : Blk w2 (w1.heap.size + 1) #[.int .i64 ku, .int .i64 nu, .slice U1 us.length cu] := by rw [hw2]; exact (Blk.new_ _ _ _ (by simp))
    have hrk2 : Rd w2 A1 0 ks := by rw [hw2]; exact ((hrk.alloc _).alloc _)
    have hru2 : Rd w2 U1 0 us := by rw [hw2]; exact ((hru.alloc _).alloc _)
    have g2 : Below w.heap.size w w2 := by rw [hw2]; exact (hb1.alloc hb1.size _).alloc (by have := hb1.size; simp; omega) _
    clear hw2
    obtain ⟨x0, x1, x2⟩ := hX.three
    obtain ⟨u0, u1, u2⟩ := hU.three
    cases hv : validT (.mk k n ks) with
    | true =>
      cases hs : tmEq (.mk k n ks) (.mk ku nu us) with
      | true =>
        have hL := hide (show (matchTS (.mk k n ks) 0 (.mk ku nu us)).getD [] = [] by rw [closed_law]; split <;> rfl)
        have hB := hide (show (matchTS (.mk k n ks) 0 (.mk ku nu us)).isSome = true by rw [closed_law, hv, hs]; rfl)
        have hV := hide hv
        have hS := hide hs
        clear hv hs
        go_wp2_with (first
          | (go_at_call 19; have _t := tok5; refine (iSame_any k n ks A1 c1 ku nu us U1 cu _ hlk hlu (hrk2.keeps K5) (hru2.keeps K5)).mono ?_; rw [hS.out]; rintro e w6 ⟨rfl, hb6⟩; have g6 := g5.trans (hb6.mono g5.size))
          | (go_at_call 34; have _t := tok4; refine (iTermValid_any k n ks A1 c1 _ (by omega) (hrk2.keeps K4)).mono ?_; rw [hV.out]; rintro e w5 ⟨rfl, hb5⟩; replace hX := hX.keep hb5; replace hU := hU.keep hb5; clear x0 x1 x2 u0 u1 u2; obtain ⟨x0, x1, x2⟩ := hX.three; obtain ⟨u0, u1, u2⟩ := hU.three; have g5 := g4.trans (hb5.mono g4.size); have K5 : Keeps w2 w5 := K4.trans (Keeps.of_below hb5); have tok5 := trivial)
          | (go_at_call 33; have _t := tok3; refine (sMatchTerm_any k n ks A1 c1 0 (by decide) ku nu us U1 cu _ (by omega) (by omega) (hrk2.keeps K3) (hru2.keeps K3)).mono ?_; rintro e w4 hgo; obtain ⟨A4, c4, rfl, hf4, hb4⟩ := gotLO_pair hgo hL.out hB.out; clear hgo; replace hX := hX.keep hb4; replace hU := hU.keep hb4; clear x0 x1 x2 u0 u1 u2; obtain ⟨x0, x1, x2⟩ := hX.three; obtain ⟨u0, u1, u2⟩ := hU.three; have g4 := g3.trans (hb4.mono g3.size); have K4 : Keeps w2 w4 := K3.trans (Keeps.of_below hb4); have tok4 := trivial)
          | (go_at_call 29; refine (iMatchTerm_any k n ks A1 c1 0 (by decide) ku nu us U1 cu _ (by omega) (by omega) hrk2 hru2).mono ?_; rintro e w3 hgo; obtain ⟨A3, c3, rfl, hf3, hb3⟩ := gotLO_pair hgo hL.out hB.out; clear hgo; replace hX := hX.keep hb3; replace hU := hU.keep hb3; clear x0 x1 x2 u0 u1 u2; obtain ⟨x0, x1, x2⟩ := hX.three; obtain ⟨u0, u1, u2⟩ := hU.three; have g3 := g2.trans (hb3.mono g2.size); have K3 : Keeps w2 w3 := Keeps.of_below hb3; have tok3 := trivial))
        go_ret
        exact ⟨rfl, g6⟩
      | false =>
        have hL := hide (show (matchTS (.mk k n ks) 0 (.mk ku nu us)).getD [] = [] by rw [closed_law]; split <;> rfl)
        have hB := hide (show (matchTS (.mk k n ks) 0 (.mk ku nu us)).isSome = false by rw [closed_law, hv, hs]; rfl)
        have hV := hide hv
        have hS := hide hs
        clear hv hs
        go_wp2_with (first
          | (go_at_call 19; have _t := tok5; refine (iSame_any k n ks A1 c1 ku nu us U1 cu _ hlk hlu (hrk2.keeps K5) (hru2.keeps K5)).mono ?_; rw [hS.out]; rintro e w6 ⟨rfl, hb6⟩; have g6 := g5.trans (hb6.mono g5.size))
          | (go_at_call 34; have _t := tok4; refine (iTermValid_any k n ks A1 c1 _ (by omega) (hrk2.keeps K4)).mono ?_; rw [hV.out]; rintro e w5 ⟨rfl, hb5⟩; replace hX := hX.keep hb5; replace hU := hU.keep hb5; clear x0 x1 x2 u0 u1 u2; obtain ⟨x0, x1, x2⟩ := hX.three; obtain ⟨u0, u1, u2⟩ := hU.three; have g5 := g4.trans (hb5.mono g4.size); have K5 : Keeps w2 w5 := K4.trans (Keeps.of_below hb5); have tok5 := trivial)
          | (go_at_call 33; have _t := tok3; refine (sMatchTerm_any k n ks A1 c1 0 (by decide) ku nu us U1 cu _ (by omega) (by omega) (hrk2.keeps K3) (hru2.keeps K3)).mono ?_; rintro e w4 hgo; obtain ⟨A4, c4, rfl, hf4, hb4⟩ := gotLO_pair hgo hL.out hB.out; clear hgo; replace hX := hX.keep hb4; replace hU := hU.keep hb4; clear x0 x1 x2 u0 u1 u2; obtain ⟨x0, x1, x2⟩ := hX.three; obtain ⟨u0, u1, u2⟩ := hU.three; have g4 := g3.trans (hb4.mono g3.size); have K4 : Keeps w2 w4 := K3.trans (Keeps.of_below hb4); have tok4 := trivial)
          | (go_at_call 29; refine (iMatchTerm_any k n ks A1 c1 0 (by decide) ku nu us U1 cu _ (by omega) (by omega) hrk2 hru2).mono ?_; rintro e w3 hgo; obtain ⟨A3, c3, rfl, hf3, hb3⟩ := gotLO_pair hgo hL.out hB.out; clear hgo; replace hX := hX.keep hb3; replace hU := hU.keep hb3; clear x0 x1 x2 u0 u1 u2; obtain ⟨x0, x1, x2⟩ := hX.three; obtain ⟨u0, u1, u2⟩ := hU.three; have g3 := g2.trans (hb3.mono g2.size); have K3 : Keeps w2 w3 := Keeps.of_below hb3; have tok3 := trivial))
        go_ret
        exact ⟨rfl, g6⟩
    | false =>
      cases hs : tmEq (.mk k n ks) (.mk ku nu us) with
      | true =>
        have hL := hide (show (matchTS (.mk k n ks) 0 (.mk ku nu us)).getD [] = [] by rw [closed_law]; split <;> rfl)
        have hB := hide (show (matchTS (.mk k n ks) 0 (.mk ku nu us)).isSome = false by rw [closed_law, hv, hs]; rfl)
        have hV := hide hv
        have hS := hide hs
        clear hv hs
        go_wp2_with (first
          | (go_at_call 19; have _t := tok5; refine (iSame_any k n ks A1 c1 ku nu us U1 cu _ hlk hlu (hrk2.keeps K5) (hru2.keeps K5)).mono ?_; rw [hS.out]; rintro e w6 ⟨rfl, hb6⟩; have g6 := g5.trans (hb6.mono g5.size))
          | (go_at_call 34; have _t := tok4; refine (iTermValid_any k n ks A1 c1 _ (by omega) (hrk2.keeps K4)).mono ?_; rw [hV.out]; rintro e w5 ⟨rfl, hb5⟩; replace hX := hX.keep hb5; replace hU := hU.keep hb5; clear x0 x1 x2 u0 u1 u2; obtain ⟨x0, x1, x2⟩ := hX.three; obtain ⟨u0, u1, u2⟩ := hU.three; have g5 := g4.trans (hb5.mono g4.size); have K5 : Keeps w2 w5 := K4.trans (Keeps.of_below hb5); have tok5 := trivial)
          | (go_at_call 33; have _t := tok3; refine (sMatchTerm_any k n ks A1 c1 0 (by decide) ku nu us U1 cu _ (by omega) (by omega) (hrk2.keeps K3) (hru2.keeps K3)).mono ?_; rintro e w4 hgo; obtain ⟨A4, c4, rfl, hf4, hb4⟩ := gotLO_pair hgo hL.out hB.out; clear hgo; replace hX := hX.keep hb4; replace hU := hU.keep hb4; clear x0 x1 x2 u0 u1 u2; obtain ⟨x0, x1, x2⟩ := hX.three; obtain ⟨u0, u1, u2⟩ := hU.three; have g4 := g3.trans (hb4.mono g3.size); have K4 : Keeps w2 w4 := K3.trans (Keeps.of_below hb4); have tok4 := trivial)
          | (go_at_call 29; refine (iMatchTerm_any k n ks A1 c1 0 (by decide) ku nu us U1 cu _ (by omega) (by omega) hrk2 hru2).mono ?_; rintro e w3 hgo; obtain ⟨A3, c3, rfl, hf3, hb3⟩ := gotLO_pair hgo hL.out hB.out; clear hgo; replace hX := hX.keep hb3; replace hU := hU.keep hb3; clear x0 x1 x2 u0 u1 u2; obtain ⟨x0, x1, x2⟩ := hX.three; obtain ⟨u0, u1, u2⟩ := hU.three; have g3 := g2.trans (hb3.mono g2.size); have K3 : Keeps w2 w3 := Keeps.of_below hb3; have tok3 := trivial))
        go_ret
        exact ⟨rfl, g5⟩
      | false =>
        have hL := hide (show (matchTS (.mk k n ks) 0 (.mk ku nu us)).getD [] = [] by rw [closed_law]; split <;> rfl)
        have hB := hide (show (matchTS (.mk k n ks) 0 (.mk ku nu us)).isSome = false by rw [closed_law, hv, hs]; rfl)
        have hV := hide hv
        have hS := hide hs
        clear hv hs
        go_wp2_with (first
          | (go_at_call 19; have _t := tok5; refine (iSame_any k n ks A1 c1 ku nu us U1 cu _ hlk hlu (hrk2.keeps K5) (hru2.keeps K5)).mono ?_; rw [hS.out]; rintro e w6 ⟨rfl, hb6⟩; have g6 := g5.trans (hb6.mono g5.size))
          | (go_at_call 34; have _t := tok4; refine (iTermValid_any k n ks A1 c1 _ (by omega) (hrk2.keeps K4)).mono ?_; rw [hV.out]; rintro e w5 ⟨rfl, hb5⟩; replace hX := hX.keep hb5; replace hU := hU.keep hb5; clear x0 x1 x2 u0 u1 u2; obtain ⟨x0, x1, x2⟩ := hX.three; obtain ⟨u0, u1, u2⟩ := hU.three; have g5 := g4.trans (hb5.mono g4.size); have K5 : Keeps w2 w5 := K4.trans (Keeps.of_below hb5); have tok5 := trivial)
          | (go_at_call 33; have _t := tok3; refine (sMatchTerm_any k n ks A1 c1 0 (by decide) ku nu us U1 cu _ (by omega) (by omega) (hrk2.keeps K3) (hru2.keeps K3)).mono ?_; rintro e w4 hgo; obtain ⟨A4, c4, rfl, hf4, hb4⟩ := gotLO_pair hgo hL.out hB.out; clear hgo; replace hX := hX.keep hb4; replace hU := hU.keep hb4; clear x0 x1 x2 u0 u1 u2; obtain ⟨x0, x1, x2⟩ := hX.three; obtain ⟨u0, u1, u2⟩ := hU.three; have g4 := g3.trans (hb4.mono g3.size); have K4 : Keeps w2 w4 := K3.trans (Keeps.of_below hb4); have tok4 := trivial)
          | (go_at_call 29; refine (iMatchTerm_any k n ks A1 c1 0 (by decide) ku nu us U1 cu _ (by omega) (by omega) hrk2 hru2).mono ?_; rintro e w3 hgo; obtain ⟨A3, c3, rfl, hf3, hb3⟩ := gotLO_pair hgo hL.out hB.out; clear hgo; replace hX := hX.keep hb3; replace hU := hU.keep hb3; clear x0 x1 x2 u0 u1 u2; obtain ⟨x0, x1, x2⟩ := hX.three; obtain ⟨u0, u1, u2⟩ := hU.three; have g3 := g2.trans (hb3.mono g2.size); have K3 : Keeps w2 w3 := Keeps.of_below hb3; have tok3 := trivial))
        go_ret
        exact ⟨rfl, g5⟩
end Go.Proofs.Ytodkenpmhhbppaa

namespace Go.Proofs.Ytodkenpmhhbppaa
open Go.RowKit
set_option linter.unusedSimpArgs false
set_option linter.unusedVariables false

/-- what is known so far agrees with a list -/
def Agree (L : List Tm) (st : St) : Prop := st.1.length = L.length ∧ st.2.length = L.length ∧ ∀ i, st.2.getD i false = true → st.1.getD i zeroT = L.getD i zeroT
theorem getD_set_eq {α : Type} {l : List α} {i : Nat} (x d : α) (h : i < l.length) : (l.set i x).getD i d = x := by
  simp [List.getD_eq_getElem?_getD, h]
theorem getD_set_ne {α : Type} {l : List α} {i j : Nat} (x d : α) (h : i ≠ j) : (l.set i x).getD j d = l.getD j d := by
  simp [List.getD_eq_getElem?_getD, List.getElem?_set_ne h]
theorem getD_true_lt {l : List Bool} {i : Nat} (h : l.getD i false = true) : i < l.length := by
  rcases Nat.lt_or_ge i l.length with hl | hl
  · exact hl
  · simp [List.getD_eq_getElem?_getD, List.getElem?_eq_none hl] at h

/-- a match, with a list that holds what was found, gives the term back -/
theorem mt_fill {L : List Tm} (hL6 : L.length ≤ 1000) (p : Tm) : ∀ (q : Nat) (d : Int) (u : Tm) (st st' : St), 0 ≤ d → shape q p = true → validT u = true → mt L.length 0 d p u st = (true, st') → Agree L st' → st.1.length = L.length → st.2.length = L.length → flS L d p = u ∧ Agree L st := by
  refine (Tm.ind2 (p := fun p => ∀ (q : Nat) (d : Int) (u : Tm) (st st' : St), 0 ≤ d → shape q p = true → validT u = true → mt L.length 0 d p u st = (true, st') → Agree L st' → st.1.length = L.length → st.2.length = L.length → flS L d p = u ∧ Agree L st)
    (q := fun ts => ∀ (q : Nat) (k d : Int) (i : Nat) (us : List Tm) (st st' : St), 0 ≤ d → (∀ t, t ∈ ts → shape q t = true) → (∀ u, u ∈ us → validT u = true) → us.length = ts.length → mtL L.length 0 k d i ts us st = (true, st') → Agree L st' → st.1.length = L.length → st.2.length = L.length → flSL L k d i ts = us ∧ Agree L st) ?_ ?_ ?_).1 p
  · intro k n ks ih q d u st st' hd hs hv hm ha hl1 hl2
    obtain ⟨q, rfl, har, _, _, hk⟩ := shape_pos hs
    rw [mt] at hm
    by_cases h : k = 1 ∧ d ≤ n
    · obtain ⟨rfl, hdn⟩ := h
      rw [if_pos ⟨rfl, hdn⟩] at hm
      rw [flS, if_pos ⟨rfl, hdn⟩]
      by_cases hlt : n < d + L.length
      · rw [if_pos hlt] at hm
        rw [if_pos hlt]
        rw [shiftI_down hd hv] at hm
        by_cases hkp : kpS d 0 u = true
        · rw [if_pos hkp] at hm
          simp only at hm
          have hi : (n - d).toNat < L.length := by omega
          have hback := shS_up_down hd u 0 hkp
          split at hm
          · rename_i hf
            injection hm with h1 h2
            subst h2
            have h3 := tmEq_iff.1 h1
            have h4 := ha.2.2 _ hf
            refine ⟨?_, ha⟩
            have : L.getD (n - d).toNat default = L.getD (n - d).toNat zeroT := rfl
            rw [this, ← h4, h3, hback]
          · rename_i hf
            injection hm with h1 h2
            subst h2
            have h4 := ha.2.2 (n - d).toNat (getD_set_eq _ _ (by omega))
            rw [getD_set_eq _ _ (by omega)] at h4
            refine ⟨?_, hl1, hl2, fun j hj => ?_⟩
            · have : L.getD (n - d).toNat default = L.getD (n - d).toNat zeroT := rfl
              rw [this, ← h4, hback]
            · have hne : (n - d).toNat ≠ j := by rintro rfl; exact hf hj
              have := ha.2.2 j (by rw [getD_set_ne _ _ hne]; exact hj)
              rw [getD_set_ne _ _ hne] at this
              exact this
        · rw [if_neg hkp] at hm
          simp at hm
      · rw [if_neg hlt] at hm
        rw [if_neg hlt]
        injection hm with h1 h2
        subst h2
        obtain ⟨ku, nu, us⟩ := u
        simp only [Tm.k, Tm.n, Bool.and_eq_true, beq_iff_eq] at h1
        obtain ⟨rfl, rfl⟩ := h1
        have := valid_var hv
        subst this
        exact ⟨by simp, ha⟩
    · rw [if_neg h] at hm
      rw [flS, if_neg h]
      obtain ⟨ku, nu, us⟩ := u
      split at hm
      · rename_i hh
        obtain ⟨h1, h2, h3⟩ := hh
        have h1 : ku = k := h1
        have h2 : nu = n := h2
        subst h1 h2
        have hx := ih _ _ _ _ _ _ _ hd hk (fun u hu => validT_kid hv hu) h3 hm ha hl1 hl2
        rw [hx.1]
        exact ⟨rfl, hx.2⟩
      · simp at hm
  · intro q k d i us st st' _ _ _ hl hm ha _ _
    have : us = [] := List.eq_nil_of_length_eq_zero hl
    subst this
    rw [mtL] at hm
    · injection hm with _ h2; subst h2; exact ⟨by simp [flSL], ha⟩
    · intro _ _ _ _ h; cases h
  · intro t ts h1 h2 q k d i us st st' hd hs hv hl hm ha hl1 hl2
    cases us with
    | nil => simp at hl
    | cons u us =>
      rw [mtL] at hm
      have hun := under_le k (i : Nat)
      cases hb : mt L.length 0 (d + under k i) t u st with
      | mk b st2 =>
        rw [hb] at hm
        cases b with
        | false => simp at hm
        | true =>
          simp only [if_true] at hm
          have hlen := mt_length L.length 0 t (d + under k i) u st
          rw [hb] at hlen
          obtain ⟨e2, a2⟩ := h2 q k d (i + 1) us st2 st' hd (fun t ht => hs t (by simp [ht])) (fun u hu => hv u (by simp [hu])) (by simpa using hl) hm ha (by rw [← hl1]; exact hlen.1) (by rw [← hl2]; exact hlen.2)
          obtain ⟨e1, a1⟩ := h1 q (d + under k i) u st st2 (by omega) (hs t (by simp)) (hv u (by simp)) hb a2 hl1 hl2
          exact ⟨by rw [flSL, e1, e2], a1⟩
/-- what is found is valid -/
theorem mt_found {m : Nat} (p : Tm) : ∀ (d : Int) (u : Tm) (st : St), (∀ i, st.2.getD i false = true → validT (st.1.getD i zeroT) = true) → st.1.length = m → st.2.length = m → ∀ i, (mt m 0 d p u st).2.2.getD i false = true → validT ((mt m 0 d p u st).2.1.getD i zeroT) = true := by
  refine (Tm.ind2 (p := fun p => ∀ (d : Int) (u : Tm) (st : St), (∀ i, st.2.getD i false = true → validT (st.1.getD i zeroT) = true) → st.1.length = m → st.2.length = m → ∀ i, (mt m 0 d p u st).2.2.getD i false = true → validT ((mt m 0 d p u st).2.1.getD i zeroT) = true)
    (q := fun ts => ∀ (k d : Int) (i : Nat) (us : List Tm) (st : St), (∀ i, st.2.getD i false = true → validT (st.1.getD i zeroT) = true) → st.1.length = m → st.2.length = m → ∀ j, (mtL m 0 k d i ts us st).2.2.getD j false = true → validT ((mtL m 0 k d i ts us st).2.1.getD j zeroT) = true) ?_ ?_ ?_).1 p
  · intro k n ks ih d u st hf h1 h2 i hi
    rw [mt] at hi ⊢
    split at hi
    · rename_i h
      rw [if_pos h]
      split at hi
      · rename_i hlt
        rw [if_pos hlt]
        cases hsh : shiftI (-d) 0 u with
        | none => rw [hsh] at hi; exact hf i hi
        | some low =>
          rw [hsh] at hi
          simp only at hi ⊢
          have hlow : validT low = true := by
            unfold shiftI at hsh
            split at hsh
            · split at hsh
              · rename_i hv; injection hsh with hsh; subst hsh; exact hv
              · cases hsh
            · cases hsh
          split at hi
          · rename_i hfl; rw [if_pos hfl]; exact hf i hi
          · rename_i hfl
            rw [if_neg hfl]
            simp only at hi ⊢
            by_cases hij : (n - d).toNat = i
            · subst hij
              rw [getD_set_eq _ _ (by omega)]; exact hlow
            · rw [getD_set_ne _ _ hij] at hi ⊢
              exact hf i hi
      · rename_i hlt; rw [if_neg hlt]; exact hf i hi
    · rename_i h
      rw [if_neg h]
      split at hi
      · rename_i hh; rw [if_pos hh]; exact ih _ _ _ _ _ hf h1 h2 i hi
      · rename_i hh; rw [if_neg hh]; exact hf i hi
  · intro k d i us st hf _ _ j hj
    rw [mtL] at hj ⊢
    · exact hf j hj
    all_goals (intro _ _ _ _ h; cases h)
  · intro t ts a1 a2 k d i us st hf h1 h2 j hj
    cases us with
    | nil =>
      rw [mtL] at hj ⊢
      · exact hf j hj
      all_goals (intro _ _ _ _ _ h; cases h)
    | cons u us =>
      rw [mtL] at hj ⊢
      have hx := a1 (d + under k i) u st hf h1 h2
      have hlen := mt_length m 0 t (d + under k i) u st
      split at hj
      · rename_i hb; rw [if_pos hb]; exact a2 _ _ _ _ _ hx (hlen.1.trans h1) (hlen.2.trans h2) j hj
      · rename_i hb; rw [if_neg hb]; exact hx j hj

theorem tryS_some {m : Nat} {p u : Tm} {L : List Tm} (h : tryS m 0 p u = some L) : ∃ st, mt m 0 0 p u (List.replicate m zeroT, List.replicate m false) = (true, st) ∧ st.1 = L ∧ st.2.all id = true ∧ L.length = m ∧ st.2.length = m := by
  unfold tryS at h
  split at h
  · rename_i hh
    injection h with h
    have hlen := mt_length m 0 p 0 u (List.replicate m zeroT, List.replicate m false)
    refine ⟨(mt0 m 0 p u).2, Prod.ext hh.1 rfl, h, hh.2, ?_, ?_⟩
    · rw [← h]; simpa [mt0] using hlen.1
    · simpa [mt0] using hlen.2
  · cases h
/-- what matches, filled, is the term -/
theorem match_fill {p : Tm} {z : Int} {u : Tm} {L : List Tm} (h : matchTS p z u = some L) : fillTS p L = some u ∧ (L.length : Int) = z := by
  unfold matchTS at h
  split at h
  · rename_i hh
    obtain ⟨hp, hu, hz0, hz6⟩ := hh
    obtain ⟨st, hm, h1, hall, hl1, hl2⟩ := tryS_some h
    subst h1
    rw [← hl1] at hm hl2
    have hall' := (all_getD st.2).1 hall
    have hfill := mt_fill (L := st.1) (by omega) p 30 0 u _ st (by omega) (validT_shape hp) hu hm ⟨rfl, hl2, fun i _ => rfl⟩ (by simp) (by simp)
    have hfound := mt_found (m := st.1.length) p 0 u (List.replicate st.1.length zeroT, List.replicate st.1.length false) (fun i hi => by simp [List.getD_eq_getElem?_getD, List.getElem?_replicate] at hi; split at hi <;> simp at hi) (by simp) (by simp)
    rw [hm] at hfound
    refine ⟨?_, by omega⟩
    have hany : (st.1.any fun a => !validT a) = false := by
      refine Bool.eq_false_iff.2 fun hc => ?_
      obtain ⟨a, ha, hva⟩ := List.any_eq_true.1 hc
      obtain ⟨i, hi, rfl⟩ := List.getElem_of_mem ha
      have := hfound i (hall' i (by omega))
      simp only [List.getD_eq_getElem?_getD, List.getElem?_eq_getElem hi, Option.getD_some] at this
      rw [this] at hva
      cases hva
    unfold fillTS
    rw [if_pos ⟨hp, by omega, hany, by rw [hfill.1]; exact hu⟩, hfill.1]
  · cases h
end Go.Proofs.Ytodkenpmhhbppaa

namespace Go.Proofs.Ytodkenpmhhbppaa
open Go.RowKit
set_option linter.unusedSimpArgs false
set_option linter.unusedVariables false

set_option maxHeartbeats 8000000 in
set_option maxRecDepth 100000 in
theorem lawMatchTerm_any (bs : List Int) (A : Option Addr) (c : Nat) (w : World) (hl : bs.length ≤ 9223372036854775807) (hc : bs.length ≤ c) (hr : RdY w A bs) :
    Calls Try.prog 9 #[.slice A bs.length c] w fun e w' => e = .returned (.bool true) ∧ Below w.heap.size w w' := by
  by_cases hbig : 1048576 < bs.length
  · go_enter Try.func9, Try.ntmps9
    go_wp2_with fail
    go_ret
    exact ⟨rfl, Below.refl _ _⟩
  · go_enter Try.func9, Try.ntmps9
    go_wp2_with (go_at_call 32; refine (drawMatch_any bs A c _ hl hc hr).mono ?_; rintro e w1 ⟨k, n, ks, A1, c1, z, ku, nu, us, U1, cu, rfl, hlk, hsk, hlu, hsu, hz1, hz2, hrk, hru, hb1⟩)
    refine name_calls ?_
    intro w2 hw2
    have hX : Blk w2 w1.heap.size #[.int .i64 k, .int .i64 n, .slice A1 ks.length c1] := by rw [hw2]; exact (Blk.new_ _ _ _ rfl).alloc _
    have hU : Blk w2 (w1.heap.size + 1) #[.int .i64 ku, .int .i64 nu, .slice U1 us.length cu] := by rw [hw2]; exact (Blk.new_ _ _ _ (by simp))
    have rk : Rd w2 A1 0 ks := by rw [hw2]; exact ((hrk.alloc _).alloc _)
    have ru : Rd w2 U1 0 us := by rw [hw2]; exact ((hru.alloc _).alloc _)
    have gg : Below w.heap.size w w2 := by rw [hw2]; exact (hb1.alloc hb1.size _).alloc (by have := hb1.size; simp; omega) _
    clear hw2
    obtain ⟨x0, x1, x2⟩ := hX.three
    obtain ⟨u0, u1, u2⟩ := hU.three
    have hzw : (Lit.int .i64 z).wf = true := WalkArith.wf_i64 (by omega)
    cases ho : matchTS (.mk k n ks) z (.mk ku nu us) with
    | none =>
      have hL := hide (show (matchTS (.mk k n ks) z (.mk ku nu us)).getD [] = [] by rw [ho]; rfl)
      have hB := hide (show (matchTS (.mk k n ks) z (.mk ku nu us)).isSome = false by rw [ho]; rfl)
      clear ho
      go_wp2_with (first
        | (go_at_call 31; have _t := tok4; refine (dk_same [] A3 c3 A4 c4 _ (by simp) rD rE).mono ?_; rintro e w5 ⟨rfl, hb5⟩; replace hX := hX.keep hb5; replace hU := hU.keep hb5; clear x0 x1 x2 u0 u1 u2; obtain ⟨x0, x1, x2⟩ := hX.three; obtain ⟨u0, u1, u2⟩ := hU.three; replace gg := gg.trans (hb5.mono gg.size); replace rk := rk.below hb5; replace ru := ru.below hb5; replace rD := rD.below hb5; replace rE := rE.below hb5; have tok5 := trivial)
        | (go_at_call 33; have _t := tok3; refine (sMatchTerm_any k n ks A1 c1 z hzw ku nu us U1 cu _ (by omega) (by omega) rk ru).mono ?_; rintro e w4 hgo; obtain ⟨A4, c4, rfl, hf4, hb4⟩ := gotLO_pair hgo hL.out hB.out; clear hgo; replace hX := hX.keep hb4; replace hU := hU.keep hb4; clear x0 x1 x2 u0 u1 u2; obtain ⟨x0, x1, x2⟩ := hX.three; obtain ⟨u0, u1, u2⟩ := hU.three; replace gg := gg.trans (hb4.mono gg.size); replace rk := rk.below hb4; replace ru := ru.below hb4; replace rD := rD.below hb4; have rE := hf4.rd; have tok4 := trivial)
        | (go_at_call 29; refine (iMatchTerm_any k n ks A1 c1 z hzw ku nu us U1 cu _ (by omega) (by omega) rk ru).mono ?_; rintro e w3 hgo; obtain ⟨A3, c3, rfl, hf3, hb3⟩ := gotLO_pair hgo hL.out hB.out; clear hgo; replace hX := hX.keep hb3; replace hU := hU.keep hb3; clear x0 x1 x2 u0 u1 u2; obtain ⟨x0, x1, x2⟩ := hX.three; obtain ⟨u0, u1, u2⟩ := hU.three; replace gg := gg.trans (hb3.mono gg.size); replace rk := rk.below hb3; replace ru := ru.below hb3; have rD := hf3.rd; have tok3 := trivial))
      go_ret
      exact ⟨rfl, gg⟩
    | some L =>
      have hL := hide (show (matchTS (.mk k n ks) z (.mk ku nu us)).getD [] = L by rw [ho]; rfl)
      have hB := hide (show (matchTS (.mk k n ks) z (.mk ku nu us)).isSome = true by rw [ho]; rfl)
      obtain ⟨hfi, hLz⟩ := match_fill ho
      have hsz : sizes L ≤ 2400 := by
        unfold matchTS at ho
        split at ho
        · rename_i hh; exact (tryS_size (by omega) ho).1
        · cases ho
      have hfi := hide (show fillTI (.mk k n ks) L = some (.mk ku nu us) by rw [← fill_same]; exact hfi)
      subst hLz
      have hll := length_le_sizes L
      clear ho
      go_wp2_with (first
        | (go_at_call 19; have _t := tok6; refine (iSame_any ku nu us A6 c6 ku nu us U1 cu _ hl6 hlu (r6.alloc _) (ru.alloc _)).mono ?_; rw [tmEq_self]; rintro e w7 ⟨rfl, hb7⟩; have gl := (gg.alloc gg.size _).trans (hb7.mono (by have := gg.size; simp; omega)))
        | (go_at_call 17; have _t := tok5; refine (iFillTerm_any k n ks A1 c1 L A3 c3 _ (by omega) (by omega) rk rD).mono ?_; rw [hfi.out]; rintro e w6 hgo; obtain ⟨A6, c6, rfl, hl6, hf6, hb6⟩ := gotO_some hgo; clear hgo; replace hX := hX.keep hb6; replace hU := hU.keep hb6; clear x0 x1 x2 u0 u1 u2; obtain ⟨x0, x1, x2⟩ := hX.three; obtain ⟨u0, u1, u2⟩ := hU.three; replace gg := gg.trans (hb6.mono gg.size); replace rk := rk.below hb6; replace ru := ru.below hb6; replace rD := rD.below hb6; replace hU := hU.alloc (.cells #[.int .i64 ku, .int .i64 nu, .slice A6 us.length c6] 25); clear u0 u1 u2; obtain ⟨u0, u1, u2⟩ := hU.three; have lU := hU.lt; have r6 := hf6.rd; have tok6 := trivial)
        | (go_at_call 31; have _t := tok4; refine (dk_same L A3 c3 A4 c4 _ (by omega) rD rE).mono ?_; rintro e w5 ⟨rfl, hb5⟩; replace hX := hX.keep hb5; replace hU := hU.keep hb5; clear x0 x1 x2 u0 u1 u2; obtain ⟨x0, x1, x2⟩ := hX.three; obtain ⟨u0, u1, u2⟩ := hU.three; replace gg := gg.trans (hb5.mono gg.size); replace rk := rk.below hb5; replace ru := ru.below hb5; replace rD := rD.below hb5; replace rE := rE.below hb5; have tok5 := trivial)
        | (go_at_call 33; have _t := tok3; refine (sMatchTerm_any k n ks A1 c1 L.length hzw ku nu us U1 cu _ (by omega) (by omega) rk ru).mono ?_; rintro e w4 hgo; obtain ⟨A4, c4, rfl, hf4, hb4⟩ := gotLO_pair hgo hL.out hB.out; clear hgo; replace hX := hX.keep hb4; replace hU := hU.keep hb4; clear x0 x1 x2 u0 u1 u2; obtain ⟨x0, x1, x2⟩ := hX.three; obtain ⟨u0, u1, u2⟩ := hU.three; replace gg := gg.trans (hb4.mono gg.size); replace rk := rk.below hb4; replace ru := ru.below hb4; replace rD := rD.below hb4; have rE := hf4.rd; have tok4 := trivial)
        | (go_at_call 29; refine (iMatchTerm_any k n ks A1 c1 L.length hzw ku nu us U1 cu _ (by omega) (by omega) rk ru).mono ?_; rintro e w3 hgo; obtain ⟨A3, c3, rfl, hf3, hb3⟩ := gotLO_pair hgo hL.out hB.out; clear hgo; replace hX := hX.keep hb3; replace hU := hU.keep hb3; clear x0 x1 x2 u0 u1 u2; obtain ⟨x0, x1, x2⟩ := hX.three; obtain ⟨u0, u1, u2⟩ := hU.three; replace gg := gg.trans (hb3.mono gg.size); replace rk := rk.below hb3; replace ru := ru.below hb3; have rD := hf3.rd; have tok3 := trivial))
      go_ret
      exact ⟨rfl, gl⟩
end Go.Proofs.Ytodkenpmhhbppaa

namespace Go.Proofs.Ytodkenpmhhbppaa.lMatchTerm
open Go.ChangeShapes Go.WideShapes Go.ChangeAt Go.RowKit
set_option linter.unusedVariables false
set_option linter.unusedSimpArgs false

theorem own : ownKnob Try.prog.godebug = none := by kernel_rfl
theorem laidOut : laidOutB Try.prog = true := by kernel_rfl

set_option maxRecDepth 100000 in
theorem lifted (os : Os) (started : os.Started) (H : Type) (enc : TypeId × Value → H) :
    ReturnsInHanded {} Try.checked os 9 .any (Rows.fnMatchTermSpec.pre6 enc Try.prog Try.f9 Rows.fnMatchTermRow.domain false) (Rows.fnMatchTermSpec.post enc Try.prog Try.f9 false true false false) := by
  refine returnsInHanded_of_change (C := Try.checked) own started (by kernel_rfl) Try.func9
    (ChangeSpec.witness6 (enc := enc) (C := Try.checked) false ⟨#[], #[.slice none 0 0], []⟩ 8 (by kernel_rfl) (by kernel_rfl) (by kernel_rfl) (by kernel_rfl)) ?_
  intro W base args ds gs before hval0 hW hcnd _
  have hval : ∀ (j : Nat) t v, Try.f9.params[j]? = some t → args[j]? = some v → Value.okWide Try.prog W .any base t v := hval0
  have hW' := hW
  obtain ⟨p, q, hA0, hV, rfl, hfz, hnd⟩ := hW
  have hA : DataW.TrodAll enc Try.prog W 0 (fun _ => true) true Try.f9.params.toList args.toList ds p := hA0
  rw [Try.params9] at hA hval
  obtain ⟨v0, vs0, d0, ds0, p0, q0, hargs0, rfl, rfl, h0, r0⟩ := trodAll_cons hA
  obtain ⟨rfl, rfl, rfl⟩ := trodAll_nil r0
  obtain rfl : args = #[v0] := by cases args; simp_all
  obtain ⟨rfl, rfl⟩ := trodVars_none hV
  obtain ⟨xs0, P0, cp0, rfl, hl0, hc0, hr0⟩ := open_code (hval 0 22 v0 rfl rfl) h0
  clear hA0 hval0
  simp only [List.append_nil] at hW' hfz
  have hlt : ∀ x ∈ p0, x.block < W.heap.size := fun x hx => hW'.lt x hx
  refine (lawMatchTerm_any xs0 P0 cp0 W hl0 hc0 hr0).mono fun e W' ⟨he, hb⟩ => ?_
  subst he
  exact ⟨_, rfl, post_below (pa := p0) (pv := []) hW' (fun _ _ _ => (trodAll_cons_mk (shut_bool Try.underlying4 _) trodAll_mk0)) (fun sp hsp => by
      have := (trodAll_cons_mk (WideElems.Trod_stays (sp' := sp) laidOut (by kernel_rfl) (of_decide_eq_true (by kernel_rfl)) h0 (fun x hx => hb.same (hlt x (by simp [hx]))) (fun x hx => hsp x (by simp [hx]))) trodAll_mk0)
      show DataW.TrodAll enc Try.prog W' 0 sp true Try.f9.params.toList [_] [d0] (p0)
      rw [Try.params9]
      simpa using this) (fun _ _ => rfl) (by simp)
    hb (ok_one (by kernel_rfl) rfl (okWide_bool_mk Try.underlying4 _))⟩

theorem holds : Rows.FnMatchTermSaid :=
  OpenClaim.holds_of_wide 9 Try.f9 rfl rfl rfl rfl rfl rfl rfl ⟨rfl, rfl, rfl, rfl, rfl⟩ rfl rfl rfl rfl rfl (by kernel_rfl) Try.func9 (by kernel_rfl)
    (of_decide_eq_true (by kernel_rfl)) (by unfold Func.isWrapper; first | (rw [if_pos (by decide +kernel)]; kernel_rfl) | (rw [if_neg (by decide +kernel)]; exact ⟨rfl, rfl⟩))
    (fun os started H enc _ => lifted os started H enc)
end Go.Proofs.Ytodkenpmhhbppaa.lMatchTerm
