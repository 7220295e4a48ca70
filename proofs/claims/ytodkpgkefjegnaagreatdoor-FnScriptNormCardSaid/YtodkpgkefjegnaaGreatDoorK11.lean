/-
  Contracts of the functions that the law reaches, and plain lemmas. No condition.
-/
import Derived.Test.YtodkpgkefjegnaaGreatDoorK1
import Derived.Test.YtodkpgkefjegnaaGreatDoorK10
import Derived.WalkSpells
import Derived.WalkLawsBesides
import Derived.Laws.DeepStrings4
import Derived.Laws.Concat
import Derived.IntWalk
namespace Go.Proofs.YtodkpgkefjegnaaGreatDoor
set_option linter.unusedSimpArgs false
set_option linter.unusedVariables false
open Go.RowKit
/-- what is wanted of the redex of a successor -/
def Contract3 : Prop := ∀ (n n8 : Int) (t0 t1 t2 m : Tm) (A : Option Addr) (c : Nat) (w : World), sizes [t0, t1, t2, .mk 8 n8 [m]] ≤ 400 → Rd w A 0 [t0, t1, t2, .mk 8 n8 [m]] →
  Calls Tryz.prog 104 #[.agg #[.int .i64 9, .int .i64 n, .slice A ([t0, t1, t2, .mk 8 n8 [m]] : List Tm).length c]] w (GotS (.mk 5 0 [.mk 5 0 [t2, m], .mk 9 0 [t0, t1, t2, m]]) 190000 w)
theorem len1 {ks : List Tm} (h : ks.length = 1) : ∃ a, ks = [a] := List.length_eq_one_iff.1 h
theorem len2 {ks : List Tm} (h : ks.length = 2) : ∃ a b, ks = [a, b] := by
  match ks, h with
  | [a, b], _ => exact ⟨a, b, rfl⟩
theorem len3 {ks : List Tm} (h : ks.length = 3) : ∃ a b c, ks = [a, b, c] := by
  match ks, h with
  | [a, b, c], _ => exact ⟨a, b, c, rfl⟩
theorem len4 {ks : List Tm} (h : ks.length = 4) : ∃ a b c d, ks = [a, b, c, d] := by
  match ks, h with
  | [a, b, c, d], _ => exact ⟨a, b, c, d, rfl⟩
theorem sContract_any (hC : Contract3) (d : Nat) (hd : d ≤ 30) (k n : Int) (ks : List Tm) (A : Option Addr) (c : Nat) (w : World) (hM : sizes ks ≤ 400) (hs : shape d (.mk k n ks) = true) (hx : rdx k ks ≠ 0) (hr : Rd w A 0 ks) :
    Calls Tryz.prog 104 #[.agg #[.int .i64 k, .int .i64 n, .slice A ks.length c]] w (GotS (ctrS (.mk k n ks)) 190000 w) := by
  obtain ⟨d, rfl, ha, _, _, hk⟩ := shape_pos hs
  by_cases h5 : k = 5
  · subst h5
    obtain ⟨a, b, rfl⟩ := len2 (ks := ks) (by have h : arity 5 = 2 := rfl; omega)
    obtain ⟨k0, n0, ls⟩ := a
    have h4 : k0 = 4 := by
      rcases Classical.em (k0 = 4) with h | h
      · exact h
      · exact absurd (by simp [rdx, kat, Tm.k, h]) hx
    subst h4
    obtain ⟨d, rfl, ha0, _, _, hk0⟩ := shape_pos (hk (.mk 4 n0 ls) (by simp))
    obtain ⟨s0, t, rfl⟩ := len2 (ks := ls) (by have h : arity 4 = 2 := rfl; omega)
    obtain ⟨ku, nu, us⟩ := b
    obtain ⟨k1, n1, ks1⟩ := t
    rw [show ctrS _ = sbS (.mk ku nu us) 0 0 (.mk k1 n1 ks1) from by simp [ctrS, rdx, kat, Tm.k, Tm.ks, kidT]]
    exact sContract_apply n n0 s0 _ k1 n1 ku nu us ks1 A c w rfl hM (shape_up (by omega) _ (hk0 _ (by simp))) (shape_up (by omega) _ (hk _ (by simp))) hr
  · by_cases h9 : k = 9
    · subst h9
      obtain ⟨a, b, e, f, rfl⟩ := len4 (ks := ks) (by have h : arity 9 = 4 := rfl; omega)
      obtain ⟨k3, n3, ls⟩ := f
      by_cases h7 : k3 = 7
      · subst h7
        rw [show ctrS _ = b from by simp [ctrS, rdx, kat, Tm.k, Tm.ks, kidT]]
        exact sContract_zero n a b e _ A c w hM (by simp [rdx, kat, Tm.k]) hr
      · have h8 : k3 = 8 := by
          rcases Classical.em (k3 = 8) with h | h
          · exact h
          · exact absurd (by simp [rdx, kat, Tm.k, h, h7]) hx
        subst h8
        obtain ⟨d, rfl, ha0, _, _, hk0⟩ := shape_pos (hk (.mk 8 n3 ls) (by simp))
        obtain ⟨m, rfl⟩ := len1 (ks := ls) (by have h : arity 8 = 1 := rfl; omega)
        rw [show ctrS _ = (.mk 5 0 [.mk 5 0 [e, m], .mk 9 0 [a, b, e, m]]) from by simp [ctrS, rdx, kat, Tm.k, Tm.ks, kidT]]
        exact hC n n3 a b e m A c w hM hr
    · by_cases h12 : k = 12
      · subst h12
        obtain ⟨a, b, e, rfl⟩ := len3 (ks := ks) (by have h : arity 12 = 3 := rfl; omega)
        obtain ⟨k3, n3, ls⟩ := b
        have h8 : k3 = 11 := by
          rcases Classical.em (k3 = 11) with h | h
          · exact h
          · exact absurd (by simp [rdx, kat, Tm.k, h]) hx
        subst h8
        rw [show ctrS _ = e from by simp [ctrS, rdx, kat, Tm.k, Tm.ks, kidT]]
        exact sContract_move n a _ e A c w hM (by simp [rdx, kat, Tm.k]) hr
      · by_cases h15 : k = 15
        · subst h15
          obtain ⟨a, rfl⟩ := len1 (ks := ks) (by have h : arity 15 = 1 := rfl; omega)
          obtain ⟨k3, n3, ls⟩ := a
          have h8 : k3 = 14 := by
            rcases Classical.em (k3 = 14) with h | h
            · exact h
            · exact absurd (by simp [rdx, kat, Tm.k, h]) hx
          subst h8
          obtain ⟨d, rfl, ha0, _, _, hk0⟩ := shape_pos (hk (.mk 14 n3 ls) (by simp))
          obtain ⟨s0, s1, s2, rfl⟩ := len3 (ks := ls) (by have h : arity 14 = 3 := rfl; omega)
          rw [show ctrS _ = s1 from by simp [ctrS, rdx, kat, Tm.k, Tm.ks, kidT]]
          exact sContract_fst n n3 s0 s1 s2 A c w hM hr
        · by_cases h16 : k = 16
          · subst h16
            obtain ⟨a, rfl⟩ := len1 (ks := ks) (by have h : arity 16 = 1 := rfl; omega)
            obtain ⟨k3, n3, ls⟩ := a
            have h8 : k3 = 14 := by
              rcases Classical.em (k3 = 14) with h | h
              · exact h
              · exact absurd (by simp [rdx, kat, Tm.k, h]) hx
            subst h8
            obtain ⟨d, rfl, ha0, _, _, hk0⟩ := shape_pos (hk (.mk 14 n3 ls) (by simp))
            obtain ⟨s0, s1, s2, rfl⟩ := len3 (ks := ls) (by have h : arity 14 = 3 := rfl; omega)
            rw [show ctrS _ = s2 from by simp [ctrS, rdx, kat, Tm.k, Tm.ks, kidT]]
            exact sContract_snd n n3 s0 s1 s2 A c w hM hr
          · exact absurd (rdx_no ks (by omega)) hx
theorem sizes_set : ∀ (ks : List Tm) (j : Nat) (t : Tm), sizes (ks.set j t) ≤ sizes ks + t.size
  | [], j, t => by simp [sizes]
  | a :: ks, 0, t => by simp only [List.set_cons_zero, sizes]; omega
  | a :: ks, j + 1, t => by have := sizes_set ks j t; simp only [List.set_cons_succ, sizes]; omega
theorem rdp_lt {p : Nat → Prop} {w : World} : (∀ t b off i, RdPC p w b off i t → RdPC (fun b => p b ∧ b < w.heap.size) w b off i t) ∧ (∀ ks A i, RdP p w A i ks → RdP (fun b => p b ∧ b < w.heap.size) w A i ks) := by
  refine Tm.ind2 (fun k n ks ih b off i hh => ?_) (fun _ _ _ => RdP.nil) (fun t ts h1 h2 A i hh => ?_)
  · rw [RdPC.iff] at hh ⊢
    obtain ⟨h0, h1, h2, A, c, h3, h4, h5⟩ := hh
    exact ⟨⟨h0, World.block_lt_of_cell? _ _ h1⟩, h1, h2, A, c, h3, h4, ih _ _ h5⟩
  · rw [RdP.cons_iff] at hh ⊢
    obtain ⟨⟨b, off, hA, hc⟩, hr⟩ := hh
    exact ⟨⟨b, off, hA, h1 _ _ _ hc⟩, h2 _ _ hr⟩
theorem RdP.lt_ {p : Nat → Prop} {w : World} {A : Option Addr} {i : Nat} {ks : List Tm} (h : RdP p w A i ks) : RdP (fun b => p b ∧ b < w.heap.size) w A i ks := rdp_lt.2 _ _ _ h
theorem set_at (ks : List Tm) (j : Nat) (v : Tm) : ∀ (i : Nat) (t : Tm), ks[i]? = some t → (ks.set j v)[i]? = some (if i = j then v else t) := by
  intro i t h
  have hl : i < ks.length := (List.getElem?_eq_some_iff.1 h).1
  rw [List.getElem?_set]
  by_cases e : j = i
  · subst e
    rw [if_pos rfl, if_pos hl, if_pos rfl]
  · rw [if_neg e, if_neg (fun h => e h.symm), h]
/-- a step: some term that can be read; in new blocks, if there was a step -/
def Stepped (t0 : Tm) (m : Nat) (w : World) (e : Ending) (w' : World) : Prop :=
  ∃ (k n : Int) (ks : List Tm) (A : Option Addr) (c : Nat) (b : Bool), .mk k n ks = (stepS t0).getD t0 ∧ b = (stepS t0).isSome ∧ e = .returned (.tuple #[.agg #[.int .i64 k, .int .i64 n, .slice A ks.length c], .bool b]) ∧ ks.length ≤ 9223372036854775807 ∧ sizes ks + 1 ≤ m ∧ RdP (fun x => if b = true then w.heap.size ≤ x else x < w.heap.size) w' A 0 ks ∧ Below w.heap.size w w'
theorem some_of {o : Option Tm} {t u : Tm} (h : u = o.getD t) {b : Bool} (hb : b = o.isSome) (hbt : b = true) : o = some u := by
  subst hbt
  cases o with
  | none => cases hb
  | some v => rw [h]; rfl
theorem none_of {o : Option Tm} {b : Bool} (hb : b = o.isSome) (hbt : b = false) : o = none := by
  subst hbt
  cases o with
  | none => rfl
  | some v => cases hb
theorem stepSL_at : ∀ (ks : List Tm) (j : Nat) (h : j < ks.length) (u : Tm), (∀ i, (hi : i < ks.length) → i < j → stepS ks[i] = none) → stepS ks[j] = some u → stepSL ks = some (ks.set j u)
  | t :: ts, 0, h, u, hn, hs => by rw [stepSL]; simp only [List.getElem_cons_zero] at hs; rw [hs]; rfl
  | t :: ts, j + 1, h, u, hn, hs => by
    have h0 : stepS t = none := hn 0 (by simp) (by omega)
    rw [stepSL, h0, stepSL_at ts j (by simpa using h) u (fun i hi hij => hn (i + 1) (by simpa using hi) (by omega)) (by simpa using hs)]; rfl
theorem stepSL_no : ∀ (ks : List Tm), (∀ i, (hi : i < ks.length) → stepS ks[i] = none) → stepSL ks = none
  | [], _ => rfl
  | t :: ts, hn => by
    have h0 : stepS t = none := hn 0 (by simp)
    rw [stepSL, h0, stepSL_no ts (fun i hi => hn (i + 1) (by simpa using hi))]; rfl
set_option maxHeartbeats 4000000 in
set_option maxRecDepth 100000 in
theorem sStep_any (hC : Contract3) (N : Nat) : ∀ (d : Nat) (k n : Int) (ks : List Tm) (A : Option Addr) (c : Nat) (w : World), d ≤ 30 → sizes ks < N → sizes ks ≤ 400 → shape d (.mk k n ks) = true → Rd w A 0 ks →
    Calls Tryz.prog 66 #[.agg #[.int .i64 k, .int .i64 n, .slice A ks.length c], .bool false] w (Stepped (.mk k n ks) (190000 + 401 * d) w) := by
  induction N with
  | zero => intro d k n ks A c w _ hN; exact absurd hN (Nat.not_lt_zero _)
  | succ N ih =>
  intro d k n ks A c w hd hN hM hs hr
  have hlen := length_le_sizes ks
  obtain ⟨d, rfl, ha, _, _, hk⟩ := shape_pos hs
  have hk' := hide hk
  have ha' := hide ha
  have hs' := hide hs
  clear hk ha hs
  by_cases hx : rdx k ks = 0
  · have hrd := hide hx
    clear hx
    go_enter Tryz.func66, Tryz.ntmps66
    go_wp2_with (go_at_call 103; refine (sRedex_any k n ks A c _ (by omega) ha'.out ((hr.alloc _).alloc _)).mono ?_; rw [hrd.out]; rintro e w1 ⟨rfl, hb1⟩; have hB : Blk w1 w.heap.size #[.int .i64 k, .int .i64 n, .slice A ks.length c] := ((Blk.new_ w 25 _ rfl).alloc _).keep hb1; have hZ : Blk w1 (w.heap.size + 1) #[.int .i64 0, .int .i64 0, .slice none 0 0] := (Blk.new_ _ 25 _ (by simp)).keep hb1; have g1 : Below w.heap.size w w1 := (((Below.refl _ _).alloc (Nat.le_refl _) _).alloc (by simp) _).trans (hb1.mono (by simp; omega)))
    go_loopw [6] (fun jv wr => ∃ j : Nat, j ≤ ks.length ∧ Hid (∀ i, (hi : i < ks.length) → i < j → stepS ks[i] = none) ∧ jv = .int .i64 j ∧ Blk wr (w.heap.size + 1) #[.int .i64 0, .int .i64 0, .slice none 0 0] ∧ Blk wr w.heap.size #[.int .i64 k, .int .i64 n, .slice A ks.length c] ∧ Below w.heap.size w wr)
      (fun jv _ => ks.length - (intOf jv).toNat)
    case atStart => exact ⟨0, Nat.zero_le _, hide (fun i hi h => absurd h (by omega)), rfl, hZ, hB, g1⟩
    case round =>
      clear hZ hB g1
      obtain ⟨j, hj, hnj, rfl, hZ, hB, g1⟩ := hrel
      obtain ⟨x0, x1, x2⟩ := hB.three
      have sr := g1.size
      have lz0 := hZ.lt
      by_cases hlt : j < ks.length
      · obtain ⟨b, off, k', n', ks', A', c', rfl, hkj, hc1, hc2, hc3, hl', hr'⟩ := (hr.below g1).at_ hlt
        have hsz := sizes_le (List.getElem_mem hlt)
        have hsk := hk'.out _ (List.getElem_mem hlt)
        rw [hkj] at hsz hsk
        simp only [Tm.size] at hsz
        have H4 := hide hsk
        have H5 := hide hkj
        clear hkj hsk
        have bl : b < wr.heap.size := World.block_lt_of_cell? _ _ hc1
        go_wp2_with (first
          | (go_at_call 66; refine (ih d k' n' ks' A' c' _ (by omega) (by omega) (by omega) H4.out hr').mono ?_; rintro e w2 ⟨k2, n2, ks2, A2, c2, bb, hv2, hv3, rfl, hl2, hs2, hr2, hb2⟩; replace hv2 := hide hv2; replace hv3 := hide hv3; have hrw := ((hr.below g1).below hb2).alloc (.cells #[.int .i64 k2, .int .i64 n2, .slice A2 ks2.length c2] 25); replace hZ := (hZ.keep hb2).alloc (.cells #[.int .i64 k2, .int .i64 n2, .slice A2 ks2.length c2] 25); replace hB := (hB.keep hb2).alloc (.cells #[.int .i64 k2, .int .i64 n2, .slice A2 ks2.length c2] 25); replace g1 := (g1.trans (hb2.mono g1.size)).alloc (by have := hb2.size; omega) (.cells #[.int .i64 k2, .int .i64 n2, .slice A2 ks2.length c2] 25); have hr2' := hr2.alloc (.cells #[.int .i64 k2, .int .i64 n2, .slice A2 ks2.length c2] 25); have s2 := hb2.size; have hK2 := Blk.new_ w2 25 #[.int .i64 k2, .int .i64 n2, .slice A2 ks2.length c2] rfl; obtain ⟨y0, y1, y2⟩ := hK2.three; clear x0 x1 x2; obtain ⟨x0, x1, x2⟩ := hB.three; have tok := trivial))
        · have hbb : bb = true := by assumption
          have hrx : RdP (fun x => wr.heap.size ≤ x ∧ x < w2.heap.size) w2 A2 0 ks2 := (hr2.lt_).mono (fun x hx => ⟨by have h1 := hx.1; rw [hbb] at h1; simpa using h1, hx.2⟩)
          refine (sWith_any (p := fun x => wr.heap.size ≤ x ∧ x < w2.heap.size) k n ks _ c j k2 n2 ks2 A2 c2 (ks.set j (.mk k2 n2 ks2)) (by simp) (set_at ks j _) _ (by omega) hl2 hrw (hrx.alloc _) (fun x hx => by have := hx.2; simp; omega)).mono ?_
          rintro e w3 ⟨A3, c3, rfl, hl3, hr3, hb3⟩
          replace hZ := hZ.keep hb3
          obtain ⟨d0, d1, d2⟩ := hZ.three
          have e0 := hZ.frozen 0
          have e1 := hZ.frozen 1
          have e2 := hZ.frozen 2
          replace g1 := g1.trans (hb3.mono g1.size)
          go_wp2_with fail
          have hsz2 := sizes_set ks j (.mk k2 n2 ks2)
          rw [Tm.size] at hsz2
          refine bodyPost_ret (v := .tuple #[.agg #[.int .i64 k, .int .i64 n, .slice A3 (ks.set j (.mk k2 n2 ks2)).length c3], .bool true]) (by simp [results, Tryz.results66, go_sem, d0, d1, d2]) rfl ⟨k, n, ks.set j (.mk k2 n2 ks2), A3, c3, true, (by rw [stepS, if_pos hrd.out, stepSL_at ks j hlt _ hnj.out (by rw [H5.out]; exact some_of hv2.out hv3.out hbb)]; rfl), (by rw [stepS, if_pos hrd.out, stepSL_at ks j hlt _ hnj.out (by rw [H5.out]; exact some_of hv2.out hv3.out hbb)]; rfl), rfl, by simp; omega, by omega, ?_, ?_⟩
          · have hr4 := hr3.mono (q := fun x => w.heap.size + 2 ≤ x) (fun x hx => hx.elim (fun h => by have := h.1; omega) (fun h => by simp at h; omega))
            exact (((hr4.setCell (by simp) _).setCell (by simp) _).setCell (by simp) _).mono (fun x hx => by simp; omega)
          · exact ((g1.setCell (by simp) _).setCell (by simp) _).setCell (by simp) _
        · have hbb : bb = false := by first | assumption | (cases bb with | false => rfl | true => simp_all)
          refine ⟨⟨j + 1, by omega, hide (fun i hi hij => ?_), by go_num, hZ, hB, g1⟩, by simp [intOf]; omega⟩
          by_cases hij2 : i = j
          · subst hij2
            rw [H5.out]
            exact none_of hv3.out hbb
          · exact hnj.out i hi (by omega)
      · have hje : j = ks.length := by omega
        subst hje
        obtain ⟨d0, d1, d2⟩ := hZ.three
        have e0 := hZ.frozen 0
        have e1 := hZ.frozen 1
        have e2 := hZ.frozen 2
        go_wp2_with fail
        refine bodyPost_ret (v := .tuple #[.agg #[.int .i64 k, .int .i64 n, .slice A ks.length c], .bool false]) (by simp [results, Tryz.results66, go_sem, d0, d1, d2]) rfl ⟨k, n, ks, A, c, false, (by rw [stepS, if_pos hrd.out, stepSL_no ks (fun i hi => hnj.out i hi hi)]; rfl), (by rw [stepS, if_pos hrd.out, stepSL_no ks (fun i hi => hnj.out i hi hi)]; rfl), rfl, by omega, by omega, ?_, ?_⟩
        · exact ((((hr.rdp.below g1).setCell (by simp) _).setCell (by simp) _).setCell (by simp) _).mono (fun x hx => by simpa using hx)
        · exact ((g1.setCell (by simp) _).setCell (by simp) _).setCell (by simp) _
  · have hq : (rdx k ks == 0) = false := by simpa using hx
    have hc := hide (fun w A c hr => sContract_any hC (d + 1) hd k n ks A c w hM hs'.out hx hr)
    obtain ⟨rr, hrr⟩ : ∃ rr, rdx k ks = rr := ⟨_, rfl⟩
    rw [hrr] at hq
    have hrd := hide hrr
    have hst := hide (show stepS (.mk k n ks) = some (ctrS (.mk k n ks)) from by rw [stepS, if_neg hx])
    clear hx hrr
    go_enter Tryz.func66, Tryz.ntmps66
    go_wp2_with (first
      | (go_at_call 104; have _t := tok; refine (hc.out _ A c hr1).mono ?_; rintro e w2 ⟨k2, n2, ks2, hv2, ⟨A2, c2, rfl, hl2, hr2, hb2⟩, hs2⟩; replace hv2 := hide hv2; replace hZ := hZ.keep hb2; obtain ⟨d0, d1, d2⟩ := hZ.three; have e0 := hZ.frozen 0; have e1 := hZ.frozen 1; have e2 := hZ.frozen 2; replace g1 := g1.trans (hb2.mono g1.size))
      | (go_at_call 103; refine (sRedex_any k n ks A c _ (by omega) ha'.out ((hr.alloc _).alloc _)).mono ?_; rw [hrd.out]; rintro e w1 ⟨rfl, hb1⟩; have hB : Blk w1 w.heap.size #[.int .i64 k, .int .i64 n, .slice A ks.length c] := ((Blk.new_ w 25 _ rfl).alloc _).keep hb1; have hZ : Blk w1 (w.heap.size + 1) #[.int .i64 0, .int .i64 0, .slice none 0 0] := (Blk.new_ _ 25 _ (by simp)).keep hb1; have g1 : Below w.heap.size w w1 := (((Below.refl _ _).alloc (Nat.le_refl _) _).alloc (by simp) _).trans (hb1.mono (by simp; omega)); have hr1 := hr.below g1; have s1 := hZ.lt; obtain ⟨x0, x1, x2⟩ := hB.three; have tok := trivial))
    refine bodyPost_ret (v := .tuple #[.agg #[.int .i64 k2, .int .i64 n2, .slice A2 ks2.length c2], .bool true]) (by simp [results, Tryz.results66, go_sem, d0, d1, d2]) rfl ⟨k2, n2, ks2, A2, c2, true, (by rw [hst.out, hv2.out]; rfl), (by rw [hst.out]; rfl), rfl, hl2, by omega, ?_, ?_⟩
    · exact ((((hr2.mono (q := fun x => w.heap.size + 2 ≤ x) (fun x hx => hx.elim (fun h => h.elim) (fun h => by omega))).setCell (by simp) _).setCell (by simp) _).setCell (by simp) _).mono (fun x hx => by simp; omega)
    · exact ((g1.setCell (by simp) _).setCell (by simp) _).setCell (by simp) _
open Go.RowKit
/-- the terms lie in blocks of their own: some that are named, and new ones from g on -/
def FreshN (f1 : List Nat) (g : Nat) (w : World) (A : Option Addr) (ks : List Tm) : Prop := ∃ fp, Ow w A ks fp ∧ fp.Nodup ∧ ∀ b, b ∈ fp → b ∈ f1 ∨ g ≤ b
theorem FreshN.setCell {f1 : List Nat} {g : Nat} {w : World} {A : Option Addr} {ks : List Tm} (h : FreshN f1 g w A ks) {a : Addr} (ha : a.block ∉ f1 ∧ a.block < g) (u : Value) : FreshN f1 g (w.setCell a u) A ks := by
  obtain ⟨fp, h1, h2, h3⟩ := h
  refine ⟨fp, h1.frame fun b hb => Below.heap_setCell w a u b (fun e => ?_), h2, h3⟩
  rcases h3 b hb with h | h
  · exact ha.1 (e ▸ h)
  · omega
theorem FreshN.fresh {f1 : List Nat} {g : Nat} {w : World} {A : Option Addr} {ks : List Tm} (h : FreshN f1 g w A ks) {B : Nat} (hf : ∀ b, b ∈ f1 → B ≤ b) (hg : B ≤ g) : Fresh B w A ks := by
  obtain ⟨fp, h1, h2, h3⟩ := h
  exact ⟨fp, h1, h2, fun b hb => (h3 b hb).elim (hf b) (fun h => Nat.le_trans hg h)⟩
theorem run_append_node {B : Nat} {w : World} {us : List Tm} {x1 : List Value} {f1 : List Nat} {g : Nat} (hg : w.heap[g]? = some (.cells #[] 25 (0, 0))) (hgB : B ≤ g) (hgw : g < w.heap.size) (hB : B ≤ w.heap.size)
    (ht : OwX w us x1 f1) (hn : f1.Nodup) (hf : ∀ b, b ∈ f1 → B ≤ b ∧ b ≠ g) (hlen : us.length ≤ 1099511627776) (ad : Addr) (c : Nat) (hc : ∀ j u, x1[j]? = some u → w.cell? (ad.add j) = some u) (h1 : ∀ u, u ∈ x1 → u.oneCell' = true) (ty : TypeId) :
    ∃ A c' w', (Builtin.append_ #[23, 23] ty #[.slice (some ⟨g, 0, none⟩) 0 0, .slice (some ad) us.length c]).run Tryz.prog w = .ok (.slice A us.length c') w' ∧ FreshN f1 g w' A us ∧ w.grownBy w' (some g) := by
  obtain ⟨i, hi, hz, hz1, hz2⟩ := info_parts tm_info
  have k1 : w.ownsRow B 25 3 (.slice (some ⟨g, 0, none⟩) 0 0) 0 [] := ⟨by simp, .inr ⟨g, 0, #[], rfl, hgB, hg, Nat.le_refl _, by simp [maxLen], by simp, by simp⟩⟩
  obtain ⟨v', w', hrun, hown, hgr, _, hat⟩ := run_append_own_at (P := Tryz.prog) w B 23 ty 25 i _ 3 40 Tryz.underlying23 hi hz hz1 hz2 rfl (by omega) _ 0 [] k1 ad us.length c x1 ht.length hc h1
    (by simp only [maxLen]; omega) (by omega) (by omega)
  have hfl := ht.lt
  have e1 : ∀ b, b ∈ f1 → w'.heap[b]? = w.heap[b]? := fun b hbf => hgr.block b (hfl b hbf) (fun e => by injection e with e; exact (hf b hbf).2 e)
  have hx' := ht.frame e1
  rw [Nat.zero_add, List.nil_append] at hown
  obtain ⟨h2, h3⟩ := hown
  rcases h3 with ⟨rfl, h0⟩ | ⟨g', cap, cur, rfl, hb', hg', _, _, _, htk⟩
  · have : us = [] := List.eq_nil_of_length_eq_zero h0
    subst this
    exact ⟨none, 0, w', hrun, ⟨[], .inl ⟨rfl, rfl⟩, List.nodup_nil, by simp⟩, hgr⟩
  · refine ⟨_, _, w', hrun, ?_, hgr⟩
    by_cases hts : us = []
    · subst hts; exact ⟨[], .inl ⟨rfl, rfl⟩, List.nodup_nil, by simp⟩
    · refine ⟨g' :: f1, .inr ⟨g', cur, _, f1, hts, rfl, hg', rfl, by rw [htk]; exact hx'⟩, List.nodup_cons.2 ⟨fun hm => ?_, hn⟩, fun b hb => ?_⟩
      · rcases hat with e | e
        · injection e with e; exact (hf g' hm).2 e
        · injection e with e; have e : g' = w.heap.size := e; have := hfl g' hm; omega
      · rcases List.mem_cons.1 hb with rfl | hb
        · right
          rcases hat with e | e
          · injection e with e; exact Nat.le_of_eq e.symm
          · injection e with e; have e : b = w.heap.size := e; omega
        · exact .inl hb
theorem wpList_append_node {B : Nat} {w : World} {us : List Tm} {x1 : List Value} {f1 : List Nat} {g : Nat} (hg : w.heap[g]? = some (.cells #[] 25 (0, 0))) (hgB : B ≤ g) (hgw : g < w.heap.size) (hB : B ≤ w.heap.size)
    (ht : OwX w us x1 f1) (hn : f1.Nodup) (hf : ∀ b, b ∈ f1 → B ≤ b ∧ b ≠ g) (hlen : us.length ≤ 1099511627776) (ad : Addr) (c : Nat) (hc : ∀ j u, x1[j]? = some u → w.cell? (ad.add j) = some u) (h1 : ∀ u, u ∈ x1 → u.oneCell' = true)
    {ops : Array Oper} {rest : List Oper} {o : Oper} {a : Act} {Q : Exit → Act → World → Prop} (hgd : o.guard = none) (s x : Operand)
    (ho : o.op = .call { callee := .builtin .append, args := #[s, x], argTypes := #[23, 23] }) (hse : a.eval s = .slice (some ⟨g, 0, none⟩) 0 0) (hx : a.eval x = .slice (some ad) us.length c)
    (h : ∀ A' c' w', FreshN f1 g w' A' us → w.grownBy w' (some g) → wpList Tryz.prog ops Q rest (a.put o.dst (.slice A' us.length c')) w') :
    wpList Tryz.prog ops Q (o :: rest) a w := by
  refine wpList_plain hgd fun K hK => ?_
  obtain ⟨A', c', w', hrun, h2, h3⟩ := run_append_node hg hgB hgw hB ht hn hf hlen ad c hc h1 o.type
  unfold Oper.wp execOp
  simp only [ho, resolve, invoke, builtin, Sem.run_bind, Sem.run_pure, Result.andThen_ok, List.map_toArray, List.map_cons, List.map_nil, hse, hx, hrun]
  exact hK _ _ (h A' c' w' h2 h3)
theorem OwX.oneCell {w : World} {ts : List Tm} : ∀ {xs : List Value} {fp : List Nat}, OwX w ts xs fp → ∀ u, u ∈ xs → u.oneCell' = true := by
  induction ts with
  | nil => intro xs fp h u hu; rw [(OwX.nil_iff.1 h).1] at hu; cases hu
  | cons t ts ih =>
    intro xs fp h u hu
    obtain ⟨x1, x2, f1, f2, rfl, rfl, h1, h2⟩ := OwX.cons_iff.1 h
    rcases List.mem_append.1 hu with hu | hu
    · exact h1.oneCell u hu
    · exact ih h2 u hu
theorem add_zero_ (g j : Nat) : Addr.add ⟨g, 0, none⟩ j = ⟨g, j, none⟩ := by unfold Addr.add; split <;> simp_all
/-- what a call gives back: a term in blocks of its own, all from B on -/
def GotB (B : Nat) (w : World) (k n : Int) (ks : List Tm) (e : Ending) (w' : World) : Prop :=
  ∃ A c, e = .returned (.agg #[.int .i64 k, .int .i64 n, .slice A ks.length c]) ∧ Fresh B w' A ks ∧ Below w.heap.size w w'
set_option maxHeartbeats 2000000 in
set_option maxRecDepth 100000 in
theorem l1Node_any {B : Nat} {w : World} {us : List Tm} {x1 : List Value} {f1 : List Nat} (k : Int) (hB : B ≤ w.heap.size)
    (ht : OwX w us x1 f1) (hn : f1.Nodup) (hf : ∀ b, b ∈ f1 → B ≤ b) (hlen : us.length ≤ 1099511627776) (g c : Nat) (hb : Blk w g x1.toArray) :
    Calls Tryz.prog 33 #[.int .i64 k, .slice (some ⟨g, 0, none⟩) us.length c] w (GotB B w k 0 us) := by
  have hlt := ht.lt
  have hone := ht.oneCell
  have hgl := hb.lt
  go_enter Tryz.func33, Tryz.ntmps33
  have H1 := hide (show ((w.alloc (.cells #[.int .i64 0, .int .i64 0, .slice none 0 0] 25)).alloc (.cells #[] 25)).heap[w.heap.size + 1]? = some (.cells #[] 25 (0, 0)) by simpa using heap_alloc_new (w.alloc (.cells #[.int .i64 0, .int .i64 0, .slice none 0 0] 25)) (.cells #[] 25))
  have H2 := hide (show OwX ((w.alloc (.cells #[.int .i64 0, .int .i64 0, .slice none 0 0] 25)).alloc (.cells #[] 25)) us x1 f1 from ht.frame fun b hb => (Below.heap_alloc _ _ b (by have := hlt b hb; simp; omega)).trans (Below.heap_alloc _ _ b (hlt b hb)))
  have H3 := hide (show ∀ j u, x1[j]? = some u → ((w.alloc (.cells #[.int .i64 0, .int .i64 0, .slice none 0 0] 25)).alloc (.cells #[] 25)).cell? (Addr.add ⟨g, 0, none⟩ j) = some u from fun j u hj => by
    have := ((hb.alloc (.cells #[.int .i64 0, .int .i64 0, .slice none 0 0] 25)).alloc (.cells #[] 25)).at_ (i := j) (v := u) (by simpa using hj)
    rw [add_zero_]; exact this)
  go_wp2_with (at_builtin; (refine wpList_append_node (B := B) (us := us) (x1 := x1) (f1 := f1) (g := w.heap.size + 1) H1.out (by omega) (by simp) (by simp; omega) H2.out hn (fun b hb => ⟨hf b hb, by have := hlt b hb; omega⟩) hlen ⟨g, 0, none⟩ c H3.out hone rfl _ _ rfl rfl rfl ?_); intro A' c' w2 hfr hg2; have hT : Blk w2 w.heap.size #[.int .i64 0, .int .i64 0, .slice none 0 0] := ((Blk.new_ w 25 #[.int .i64 0, .int .i64 0, .slice none 0 0] rfl).alloc _).grown hg2 (by simp); have d0 := hT.at_ (i := 0) rfl; have d1 := hT.at_ (i := 1) rfl; have d2 := hT.at_ (i := 2) rfl; have e0 := hT.frozen 0; have e1 := hT.frozen 1; have e2 := hT.frozen 2; have hb2 : Below w.heap.size w w2 := (((Below.refl _ _).alloc (Nat.le_refl _) _).alloc (by simp) _).trans ⟨hg2.os, hg2.tape, hg2.output, hg2.size, fun b hb => hg2.block b (by simp; omega) (fun e => by injection e with e; omega)⟩; have hBs : B ≤ w.heap.size := hB)
  refine bodyPost_ret (v := .agg #[.int .i64 k, .int .i64 0, .slice A' us.length c']) (by simp [results, Tryz.results33, go_sem, d0, d1, d2]) rfl ⟨A', c', rfl, ?_, ((hb2.setCell (by simp) _).setCell (by simp) _).setCell (by simp) _⟩
  have hn0 : w.heap.size ∉ f1 := fun h => absurd (hlt _ h) (Nat.lt_irrefl _)
  exact (((hfr.setCell ⟨hn0, by simp⟩ _).setCell ⟨hn0, by simp⟩ _).setCell ⟨hn0, by simp⟩ _).fresh hf (by omega)
open Go.RowKit
/-- from place i on the string reads as these bytes, and then as it may -/
def Has (s : ByteArray) (i : Nat) (bs : List UInt8) : Prop := ∃ rest, s.data.toList.drop i = bs ++ rest
theorem Has.le {s : ByteArray} {i : Nat} {bs : List UInt8} (h : Has s i bs) (hb : bs ≠ []) : i + bs.length ≤ s.size := by
  obtain ⟨rest, h⟩ := h
  have h1 := congrArg List.length h
  have h2 : 0 < bs.length := List.length_pos_iff.2 hb
  simp only [List.length_drop, List.length_append, Array.length_toList] at h1
  have h3 : s.data.size = s.size := rfl
  omega
theorem Has.cons {s : ByteArray} {i : Nat} {c : UInt8} {bs : List UInt8} (h : Has s i (c :: bs)) : (∃ hi : i < s.size, s[i]'hi = c) ∧ Has s (i + 1) bs := by
  have hl := h.le (by simp)
  simp only [List.length_cons] at hl
  obtain ⟨rest, h⟩ := h
  have hi : i < s.size := by omega
  refine ⟨⟨hi, ?_⟩, rest, ?_⟩
  · have h1 := congrArg (fun l => l[0]?) h
    simp only [List.getElem?_drop, Nat.add_zero, List.cons_append, List.getElem?_cons_zero] at h1
    have h2 : s.data.toList[i]? = some (s[i]'hi) := by
      rw [List.getElem?_eq_getElem (by simpa using hi)]; rfl
    rw [h2] at h1
    injection h1
  · rw [← List.drop_drop, h]; rfl
theorem Has.app {s : ByteArray} {i : Nat} {a b : List UInt8} (h : Has s i (a ++ b)) : Has s i a ∧ Has s (i + a.length) b := by
  obtain ⟨rest, h⟩ := h
  refine ⟨⟨b ++ rest, by rw [h, List.append_assoc]⟩, rest, ?_⟩
  rw [← List.drop_drop, h, List.append_assoc, List.drop_left]
theorem Has.all (bs : List UInt8) : Has ⟨bs.toArray⟩ 0 bs := ⟨[], by simp⟩
/-- at place i stands no digit -/
def Nd (s : ByteArray) (i : Nat) : Prop := ∀ hi : i < s.size, (s[i]'hi).toNat < 48 ∨ 57 < (s[i]'hi).toNat
theorem Nd.of {s : ByteArray} {i : Nat} {c : UInt8} {bs : List UInt8} (h : Has s i (c :: bs)) (hc : c.toNat < 48 ∨ 57 < c.toNat) : Nd s i := fun hi => by
  obtain ⟨⟨_, e⟩, _⟩ := h.cons
  rw [e]; exact hc
theorem Nd.out {s : ByteArray} {i : Nat} (h : s.size ≤ i) : Nd s i := fun hi => absurd hi (by omega)
/-- texts, each behind the other, a comma between, a sign at the end -/
def ser (c : UInt8) : List (List UInt8) → List UInt8
  | [] => []
  | [b] => b ++ [c]
  | b :: bs => b ++ 44 :: ser c bs
theorem ser_one (c : UInt8) (b : List UInt8) : ser c [b] = b ++ [c] := by simp [ser]
theorem ser_more (c : UInt8) (b d : List UInt8) (bs : List (List UInt8)) : ser c (b :: d :: bs) = b ++ 44 :: ser c (d :: bs) := by simp [ser]
/-- kinds with one operand, with two in round brackets, with three or four: their signs -/
def PreK (k : Int) (c : UInt8) : Prop := (k = 8 ∧ c = 43) ∨ (k = 11 ∧ c = 33) ∨ (k = 15 ∧ c = 94) ∨ (k = 16 ∧ c = 95)
def RndK (k : Int) (c : UInt8) : Prop := (k = 3 ∧ c = 62) ∨ (k = 13 ∧ c = 42) ∨ (k = 5 ∧ c = 32)
def BlkK (k : Int) (m : Nat) (o : List UInt8) (c : UInt8) : Prop := (k = 9 ∧ m = 4 ∧ o = [60] ∧ c = 62) ∨ (k = 10 ∧ m = 3 ∧ o = [123] ∧ c = 125) ∨ (k = 14 ∧ m = 3 ∧ o = [124] ∧ c = 124) ∨ (k = 12 ∧ m = 3 ∧ o = [64, 60] ∧ c = 62)
/-- a term of at most this depth, whose numbers have one digit, and its text -/
inductive Tx : Nat → Tm → List UInt8 → Prop
  | var (d : Nat) (n : Int) (c : UInt8) (h : 0 ≤ n ∧ n ≤ 9 ∧ (c.toNat : Int) = 48 + n) : Tx (d + 1) (.mk 1 n []) [35, c]
  | sort (d : Nat) (n : Int) (c : UInt8) (h : 0 ≤ n ∧ n ≤ 3 ∧ (c.toNat : Int) = 48 + n) : Tx (d + 1) (.mk 2 n []) [42, c]
  | nat (d : Nat) : Tx (d + 1) (.mk 6 0 []) [78]
  | zero (d : Nat) : Tx (d + 1) (.mk 7 0 []) [48]
  | pre (d : Nat) (k : Int) (c : UInt8) (t : Tm) (b : List UInt8) (h : PreK k c) (ht : Tx d t b) : Tx (d + 1) (.mk k 0 [t]) (c :: b)
  | rnd (d : Nat) (k : Int) (c : UInt8) (t u : Tm) (x y : List UInt8) (h : RndK k c) (ht : Tx d t x) (hu : Tx d u y) : Tx (d + 1) (.mk k 0 [t, u]) (40 :: (x ++ c :: (y ++ [41])))
  | lam (d : Nat) (t u : Tm) (x y : List UInt8) (ht : Tx d t x) (hu : Tx d u y) : Tx (d + 1) (.mk 4 0 [t, u]) (91 :: (x ++ 93 :: y))
  | blk (d : Nat) (k : Int) (m : Nat) (o : List UInt8) (c : UInt8) (ts : List Tm) (xs : List (List UInt8)) (h : BlkK k m o c) (hm : ts.length = m) (hx : xs.length = m) (ht : ∀ (j : Nat) (t : Tm) (x : List UInt8), ts[j]? = some t → xs[j]? = some x → Tx d t x) : Tx (d + 1) (.mk k 0 ts) (o ++ ser c xs)
theorem tx3 {d : Nat} {k : Int} {o : List UInt8} {c : UInt8} {t u v : Tm} {x y z : List UInt8} (h : BlkK k 3 o c) (ht : Tx d t x) (hu : Tx d u y) (hv : Tx d v z) : Tx (d + 1) (.mk k 0 [t, u, v]) (o ++ ser c [x, y, z]) :=
  .blk d k 3 o c [t, u, v] [x, y, z] h rfl rfl fun j a b h1 h2 => by
    match j, h1, h2 with
    | 0, h1, h2 => cases h1; cases h2; exact ht
    | 1, h1, h2 => cases h1; cases h2; exact hu
    | 2, h1, h2 => cases h1; cases h2; exact hv
theorem tx4 {d : Nat} {k : Int} {o : List UInt8} {c : UInt8} {t u v a : Tm} {x y z b : List UInt8} (h : BlkK k 4 o c) (ht : Tx d t x) (hu : Tx d u y) (hv : Tx d v z) (ha : Tx d a b) : Tx (d + 1) (.mk k 0 [t, u, v, a]) (o ++ ser c [x, y, z, b]) :=
  .blk d k 4 o c [t, u, v, a] [x, y, z, b] h rfl rfl fun j t' x' h1 h2 => by
    match j, h1, h2 with
    | 0, h1, h2 => cases h1; cases h2; exact ht
    | 1, h1, h2 => cases h1; cases h2; exact hu
    | 2, h1, h2 => cases h1; cases h2; exact hv
    | 3, h1, h2 => cases h1; cases h2; exact ha
theorem Tx.ne {d : Nat} {t : Tm} {b : List UInt8} (h : Tx d t b) : b ≠ [] := by
  cases h <;> simp
  rename_i h _ _ _
  rcases h with ⟨_, _, rfl, _⟩ | ⟨_, _, rfl, _⟩ | ⟨_, _, rfl, _⟩ | ⟨_, _, rfl, _⟩ <;> simp
theorem Tx.mono {d : Nat} {t : Tm} {b : List UInt8} (h : Tx d t b) : ∀ {d' : Nat}, d ≤ d' → Tx d' t b := by
  induction h with
  | var d n c h => intro d' hd; obtain ⟨e, rfl⟩ : ∃ e, d' = e + 1 := ⟨d' - 1, by omega⟩; exact .var e n c h
  | sort d n c h => intro d' hd; obtain ⟨e, rfl⟩ : ∃ e, d' = e + 1 := ⟨d' - 1, by omega⟩; exact .sort e n c h
  | nat d => intro d' hd; obtain ⟨e, rfl⟩ : ∃ e, d' = e + 1 := ⟨d' - 1, by omega⟩; exact .nat e
  | zero d => intro d' hd; obtain ⟨e, rfl⟩ : ∃ e, d' = e + 1 := ⟨d' - 1, by omega⟩; exact .zero e
  | pre d k c t b h ht ih => intro d' hd; obtain ⟨e, rfl⟩ : ∃ e, d' = e + 1 := ⟨d' - 1, by omega⟩; exact .pre e k c t b h (ih (by omega))
  | rnd d k c t u x y h ht hu i1 i2 => intro d' hd; obtain ⟨e, rfl⟩ : ∃ e, d' = e + 1 := ⟨d' - 1, by omega⟩; exact .rnd e k c t u x y h (i1 (by omega)) (i2 (by omega))
  | lam d t u x y ht hu i1 i2 => intro d' hd; obtain ⟨e, rfl⟩ : ∃ e, d' = e + 1 := ⟨d' - 1, by omega⟩; exact .lam e t u x y (i1 (by omega)) (i2 (by omega))
  | blk d k m o c ts xs h hm hx ht ih => intro d' hd; obtain ⟨e, rfl⟩ : ∃ e, d' = e + 1 := ⟨d' - 1, by omega⟩; exact .blk e k m o c ts xs h hm hx (fun j t x h1 h2 => ih j t x h1 h2 (by omega))
open Go.RowKit
set_option maxHeartbeats 2000000 in
set_option maxRecDepth 100000 in
theorem l19Num_one (s : ByteArray) (c : Nat) (w : World) (hs : s.size = 1) (hc : ∀ h : 0 < s.size, (s[0]'h).toNat = c) (h1 : 48 ≤ c) (h2 : c ≤ 57) :
    Calls Tryz.prog 133 #[.string s] w fun e w' => e = .returned (.tuple #[.int .i64 ((c : Int) - 48), .bool true]) ∧ w = w' := by
  have h0 : 0 < s.size := by omega
  have e0 := hc h0
  have q45 : ((c : Int) == 45) = false := beq_eq_false_iff_ne.2 (by omega)
  have hsl : (s.size : Int) ≤ 1 := by omega
  have hsg : (1 : Int) ≤ (s.size : Int) := by omega
  have enter : Hid True → Calls Tryz.prog 133 #[.string s] w fun e w' => e = .returned (.tuple #[.int .i64 ((c : Int) - 48), .bool true]) ∧ w = w' := by
    intro _
    by_cases h48 : c = 48
    · have q48 : ((c : Int) == 48) = true := by rw [h48]; rfl
      clear h48 hc
      go_enter Tryz.func133, Tryz.ntmps133
      go_wp2
      go_loop [5, 6] (fun v i => ∃ k : Nat, k ≤ 1 ∧ i = .int .i64 k ∧ v = .int .i64 (if k = 0 then 0 else (c : Int) - 48)) (fun _ i => 1 - (intOf i).toNat)
      case atStart => exact ⟨0, by omega, rfl, rfl⟩
      case round =>
        obtain ⟨k, hk, rfl, rfl⟩ := hrel
        by_cases hk0 : k = 0
        · subst hk0
          have d1 : decide ((c : Int) < 48) = false := decide_eq_false (by omega)
          have d2 : decide ((57 : Int) < (c : Int)) = false := decide_eq_false (by omega)
          have u8 : IntKind.u8.wrap ((c : Int) - 48) = (c : Int) - 48 := IntWalk.u8_in _ (by omega)
          go_wp2
          go_round
          case rel => exact ⟨1, by omega, rfl, by simp⟩
          case measure => simp [intOf]
        · obtain rfl : k = 1 := by omega
          go_wp2
          go_ret2
          exact ⟨rfl, rfl⟩
    · have q48 : ((c : Int) == 48) = false := beq_eq_false_iff_ne.2 (by omega)
      clear h48 hc
      go_enter Tryz.func133, Tryz.ntmps133
      go_wp2
      go_loop [5, 6] (fun v i => ∃ k : Nat, k ≤ 1 ∧ i = .int .i64 k ∧ v = .int .i64 (if k = 0 then 0 else (c : Int) - 48)) (fun _ i => 1 - (intOf i).toNat)
      case atStart => exact ⟨0, by omega, rfl, rfl⟩
      case round =>
        obtain ⟨k, hk, rfl, rfl⟩ := hrel
        by_cases hk0 : k = 0
        · subst hk0
          have d1 : decide ((c : Int) < 48) = false := decide_eq_false (by omega)
          have d2 : decide ((57 : Int) < (c : Int)) = false := decide_eq_false (by omega)
          have u8 : IntKind.u8.wrap ((c : Int) - 48) = (c : Int) - 48 := IntWalk.u8_in _ (by omega)
          go_wp2
          go_round
          case rel => exact ⟨1, by omega, rfl, by simp⟩
          case measure => simp [intOf]
        · obtain rfl : k = 1 := by omega
          go_wp2
          go_ret2
          exact ⟨rfl, rfl⟩
  exact enter trivial
theorem cut_one (s : ByteArray) (i : Nat) (hi : i < s.size) : (s.extract i (i + 1)).size = 1 ∧ ∀ h : 0 < (s.extract i (i + 1)).size, (s.extract i (i + 1))[0]'h = s[i]'hi := by
  refine ⟨by rw [ByteArray.size_extract]; omega, fun h => ?_⟩
  rw [ByteArray.getElem_extract]
  simp
set_option maxHeartbeats 2000000 in
set_option maxRecDepth 100000 in
theorem l1Number_one (s : ByteArray) (i c : Nat) (dg : Int) (w : World) (hd : dg = 1 ∨ dg = 2) (hs : s.size ≤ 1000000) (hi : i < s.size) (hc : (s[i]'hi).toNat = c) (h1 : 48 ≤ c) (h2 : c ≤ 57) (hn : dg = 2 → Nd s (i + 1)) :
    Calls Tryz.prog 93 #[.string s, .int .i64 i, .int .i64 dg] w fun e w' => e = .returned (.tuple #[.int .i64 ((c : Int) - 48), .int .i64 ((i + 1 : Nat) : Int)]) ∧ w = w' := by
  obtain ⟨x1, x2⟩ := cut_one s i hi
  have hnum := hide (fun (w : World) => l19Num_one (s.extract i (i + 1)) c w x1 (fun h => by rw [x2 h, hc]) h1 h2)
  have d1 : decide ((48 : Int) ≤ (c : Int)) = true := decide_eq_true (by omega)
  have d2 : decide ((c : Int) ≤ 57) = true := decide_eq_true (by omega)
  have hn' := hide hn
  have hc' := hide hc
  have hd' := hide hd
  clear x1 x2 hn hd
  have hdl : 1 ≤ dg ∧ dg ≤ 2 := by rcases hd'.out with h | h <;> omega
  go_enter Tryz.func93, Tryz.ntmps93
  go_wp2
  go_loop [8] (fun v => ∃ k : Nat, k ≤ 1 ∧ v = .int .i64 (i + k : Nat)) (fun v => i + 1 - (intOf v).toNat)
  case atStart => exact ⟨0, by omega, rfl⟩
  case round =>
    obtain ⟨k, hk, rfl⟩ := hrel
    by_cases hk0 : k = 0
    · subst hk0
      go_wp2
      go_round
      case rel => exact ⟨1, by omega, rfl⟩
      case measure => simp [intOf]
    · obtain rfl : k = 1 := by omega
      clear hk hk0
      by_cases hl : i + 1 < s.size
      · rcases hd'.out with rfl | rfl
        · go_wp2_with (go_at_call 133; refine (hnum.out _).mono ?_; rintro e w1 ⟨rfl, rfl⟩)
          go_ret2
          exact ⟨rfl, rfl⟩
        · have hnd := hn'.out rfl hl
          obtain ⟨c2, hc2⟩ : ∃ c2, (s[i + 1]'hl).toNat = c2 := ⟨_, rfl⟩
          rw [hc2] at hnd
          by_cases h5 : c2 < 48
          · have e1 : decide ((48 : Int) ≤ (c2 : Int)) = false := decide_eq_false (by omega)
            go_wp2_with (go_at_call 133; refine (hnum.out _).mono ?_; rintro e w1 ⟨rfl, rfl⟩)
            go_ret2
            exact ⟨rfl, rfl⟩
          · have e1 : decide ((48 : Int) ≤ (c2 : Int)) = true := decide_eq_true (by omega)
            have e2 : decide ((c2 : Int) ≤ 57) = false := decide_eq_false (by omega)
            go_wp2_with (go_at_call 133; refine (hnum.out _).mono ?_; rintro e w1 ⟨rfl, rfl⟩)
            go_ret2
            exact ⟨rfl, rfl⟩
      · go_wp2_with (go_at_call 133; refine (hnum.out _).mono ?_; rintro e w1 ⟨rfl, rfl⟩)
        go_ret2
        exact ⟨rfl, rfl⟩
end Go.Proofs.YtodkpgkefjegnaaGreatDoor
