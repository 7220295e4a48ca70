/-
  places and PlacesOf of the implementation. No condition.
-/
import Derived.Test.YtefifcmieicnlaaRowP
import Derived.Test.YtefifcmieicnlaaCont
import Derived.Deep.RegionHeld3
namespace Go.Proofs.Ytefifcmieicnlaa
open Go.RowKit
set_option linter.unusedSimpArgs false
set_option linter.unusedVariables false

theorem plL_append (f : Tm → Bool) (p : List Int) (us : List Tm) : ∀ (ts : List Tm) (i : Nat), plL f p i (ts ++ us) = plL f p i ts ++ plL f p (i + ts.length) us
  | [], i => by simp [plL]
  | t :: ts, i => by rw [List.cons_append, plL, plL, plL_append f p us ts (i + 1), List.append_assoc, List.length_cons, show i + 1 + ts.length = i + (ts.length + 1) from by omega]
theorem plL_take (f : Tm → Bool) (p : List Int) {ks : List Tm} {j : Nat} (hj : j < ks.length) : plL f p 0 (ks.take (j + 1)) = plL f p 0 (ks.take j) ++ plT f (p ++ [(j : Int)]) ks[j] := by
  rw [List.take_succ_eq_append_getElem hj, plL_append, List.length_take, Nat.min_eq_left (Nat.le_of_lt hj), Nat.zero_add, plL, plL, List.append_nil]
theorem plT_le (f : Tm → Bool) (t : Tm) : ∀ p, (plT f p t).length ≤ t.size := by
  refine Tm.rec (motive_1 := fun t => ∀ p, (plT f p t).length ≤ t.size) (motive_2 := fun ts => ∀ p i, (plL f p i ts).length ≤ sizes ts) ?_ ?_ ?_ t
  · intro k n ks ih p; rw [plT, List.length_append, Tm.size]; have := ih p 0; split <;> simp <;> omega
  · intro p i; simp [plL]
  · intro t ts h1 h2 p i; rw [plL, List.length_append, sizes]; have := h1 (p ++ [(i : Int)]); have := h2 p (i + 1); omega
theorem plL_le (f : Tm → Bool) : ∀ (ts : List Tm) p i, (plL f p i ts).length ≤ sizes ts
  | [], p, i => by simp [plL]
  | t :: ts, p, i => by rw [plL, List.length_append, sizes]; have := plT_le f t (p ++ [(i : Int)]); have := plL_le f ts p (i + 1); omega

/-- paths handed back in new memory -/
def GotPs (w : World) (ps : List (List Int)) (e : Ending) (w' : World) : Prop := ∃ v, e = .returned v ∧ RowP w.heap.size w' v ps ∧ Below w.heap.size w w'

set_option maxHeartbeats 4000000 in
set_option maxRecDepth 100000 in
theorem places_any {F : Nat} {f : Tm → Bool} (hF : TestOk F f) (hrun : ∀ (args : Array Value) (w : World), (callFunc F args).run Try.prog w = .ok (.enter F args) w) (N : Nat) :
    ∀ (k n : Int) (ks : List Tm) (A : Option Addr) (c : Nat) (p : List Int) (P : Option Addr) (cp : Nat) (w : World), sizes ks < N → sizes ks ≤ 1000000 → p.length + sizes ks ≤ 1000000 → Rd w A 0 ks → RdI w P p →
      Calls Try.prog 114 #[.agg #[.int .i64 k, .int .i64 n, .slice A ks.length c], .slice P p.length cp, .func (.func F) #[] #[]] w (GotPs w (plT f p (.mk k n ks))) := by
  induction N with
  | zero => intro k n ks A c p P cp w hN; exact absurd hN (Nat.not_lt_zero _)
  | succ N ih =>
  intro k n ks A c p P cp w hN hM hpl hr hi
  have hlen := length_le_sizes ks
  have h0 : plT f p (.mk k n ks) = (if f (.mk k n ks) = true then [p] else []) ++ plL f p 0 ks := by rw [plT]
  rw [h0]
  clear h0
  obtain ⟨bf, hbf⟩ : ∃ bf, f (.mk k n ks) = bf := ⟨_, rfl⟩
  obtain ⟨ps0, hps0⟩ : ∃ ps0, (if f (.mk k n ks) = true then [p] else []) = ps0 := ⟨_, rfl⟩
  have hps00 : ps0.length ≤ 1 := by rw [← hps0]; split <;> simp
  rw [hps0]
  have hbf' := hide hbf
  rw [hbf] at hps0
  clear hbf
  cases bf with
  | true =>
    have : ps0 = [p] := by rw [← hps0, if_pos rfl]
    subst this
    clear hps0
    go_enter Try.func114, Try.ntmps114
    go_wp2_with (first
      | (at_builtin; refine wpList_append_pth (B := w.heap.size + 1) (ps := []) (p := p) RowP.nil (by have := hb3.size; have := s2; omega) (by simp) hi3 hn3 rfl (.tmp 13) (.tmp 16) rfl rfl rfl ?_; intro v0 w4 hR0 hb4; have hB0 : Blk w4 w.heap.size #[.int .i64 k, .int .i64 n, .slice A ks.length c] := hB3.below hb4 (by omega); have hb0 : Below w.heap.size w w4 := g3.trans (hb4.mono (by omega)); clear hb4 g3 hB3 hi3 hn3 g2 hB2; rw [List.nil_append] at hR0; have c2 := hB0.at_ (i := 2) rfl)
      | (go_at_call 139; refine (clone_any p P cp _ (by omega) (hi.below g2)).mono ?_; rintro e w3 ⟨v3, rfl, hR3, hb3⟩; obtain ⟨A3, c3, rfl, hi3, hn3'⟩ := hR3.form2; have hn3 : ∀ a, A3 = some a → w.heap.size + 1 ≤ a.block ∧ (Value.slice none 0 0).ownBlock ≠ some a.block ∧ a.block < w3.heap.size := fun a ha => ⟨by have := (hn3' a ha).1; have := hb2.size; simp at this; omega, by simp [Value.ownBlock], (hn3' a ha).2⟩; clear hR3 hn3'; have hB3 := hB2.keep hb3; have g3 := g2.trans (hb3.mono g2.size))
      | (refine (hF k n ks A c _ (by omega) (hr.alloc _)).mono ?_; rw [hbf'.out]; rintro e w2 ⟨rfl, hb2⟩; have hB2 := (Blk.new_ w 29 #[.int .i64 k, .int .i64 n, .slice A ks.length c] rfl).keep hb2; have g2 : Below w.heap.size w w2 := ((Below.refl _ _).alloc (Nat.le_refl _) _).trans (hb2.mono (by simp)); have s2 : w.heap.size + 1 ≤ w2.heap.size := (by have := hb2.size; simpa using this); clear hbf'))
    go_loopw [7, 21] (fun v i wr => ∃ (j : Nat) (vv : Value), j ≤ ks.length ∧ vv = v ∧ i = .int .i64 j ∧ RowP (w.heap.size + 1) wr vv ([p] ++ plL f p 0 (ks.take j)) ∧ Blk wr w.heap.size #[.int .i64 k, .int .i64 n, .slice A ks.length c] ∧ Below w.heap.size w wr) (fun _ i _ => ks.length - (intOf i).toNat)
    case atStart => exact ⟨0, _, Nat.zero_le _, rfl, rfl, by simpa [plL] using hR0, hB0, hb0⟩
    case round =>
      obtain ⟨j, vv, hj, rfl, rfl, hRv, hBr, hb⟩ := hrel
      obtain ⟨ps1, hps1⟩ : ∃ ps1, [p] ++ plL f p 0 (ks.take j) = ps1 := ⟨_, rfl⟩
      have hpl1 : ps1.length ≤ 1000001 := by rw [← hps1, List.length_append]; have := plL_le f (ks.take j) p 0; have := sizes_take_le ks j; simp; omega
      rw [hps1] at hRv
      by_cases hlt : j < ks.length
      · obtain ⟨b1, off, k', n', ks', A', c', rfl, hkj, hc1, hc2, hc3, hl', hr'⟩ := (hr.below hb).at_ hlt
        have hsz := sizes_le (List.getElem_mem hlt)
        have hbt := plT_le f ks[j] (p ++ [(j : Int)])
        rw [hkj] at hsz hbt
        simp only [Tm.size] at hsz hbt
        have H3 := hide hkj
        have hp1' := hide hps1
        clear hkj hps1
        have hvo : ∀ g, vv.ownBlock = some g → g < wr.heap.size := fun g hg => by obtain ⟨_, h1, _⟩ := hRv; exact (h1.lt g hg).2
        go_wp2_with fail
        refine name_world ?_
        intro wx hwx
        have hXB : Blk wx wr.heap.size #[.int .i64 k', .int .i64 n', .slice A' ks'.length c'] := by rw [hwx]; exact Blk.new_ _ _ _ rfl
        have hbx : Below w.heap.size w wx := by rw [hwx]; exact hb.alloc hb.size _
        have hRx : RowP (w.heap.size + 1) wx vv ps1 := by rw [hwx]; exact hRv.alloc _
        have hBx : Blk wx w.heap.size #[.int .i64 k, .int .i64 n, .slice (some ⟨b1, off, none⟩) ks.length c] := by rw [hwx]; exact hBr.alloc _
        have hrx : Rd wx A' 0 ks' := by rw [hwx]; exact hr'.alloc _
        have hsx : wr.heap.size < wx.heap.size := by rw [hwx]; simp
        have hsr := hb.size
        have hwr := hBr.lt
        clear hwx
        obtain ⟨x0, x1, x2⟩ := hXB.three
        obtain ⟨q, hq⟩ : ∃ q, p ++ [(j : Int)] = q := ⟨_, rfl⟩
        have hql : q.length = p.length + 1 := by rw [← hq]; simp
        rw [hq] at hbt
        have hql2 : q.length ≤ p.length + 1 := by omega
        have hq' := hide hq
        have hql' := hide hql
        clear hq hql
        have hix := hi.below hbx
        go_region_held3 (fun w' => w'.cell? ⟨wr.heap.size, 0, none⟩ = some (.int .i64 k') ∧ w'.cell? ⟨wr.heap.size, 1, none⟩ = some (.int .i64 n') ∧ w'.cell? ⟨wr.heap.size, 2, none⟩ = some (.slice A' ks'.length c')) (go_keep) (first
          | (refine step_append_rowp (B := w.heap.size + 1) (B2 := w5.heap.size) (qs := plT f q (.mk k' n' ks')) (hRx.below hx6) hR6 (by omega) (fun g hg => by obtain ⟨_, h1, _⟩ := hRx; have := (h1.lt g hg).2; omega) hb6.size (by omega) rfl (.tmp 26) (.tmp 34) rfl rfl rfl ?_; intro v7 w7 hR7 hb7 hg7; have hX7 := (hXB.keep hx6).grown hg7 (fun e => by have := hvo _ e.symm; omega); clear x0 x1 x2; obtain ⟨x0, x1, x2⟩ := hX7.three)
          | (go_at_call 114; refine (ih k' n' ks' A' c' q A5 c5 _ (by omega) (by omega) (by omega) (hrx.below hx5) hi5).mono ?_; rintro e w6 ⟨v6, rfl, hR6, hb6⟩; have hx6 : Below wx.heap.size wx w6 := hx5.trans (hb6.mono hx5.size); have hs6 := hb6.size; clear x0 x1 x2; obtain ⟨x0, x1, x2⟩ := (hXB.keep hx6).three)
          | (refine step_append_int1 (B := wx.heap.size) (xs := p) (y := (j : Int)) (hR3.alloc _) (by have := hx3.size; simp; omega) (by omega) (by simp) rfl (.tmp 29) (.tmp 31) rfl rfl rfl ?_; intro v5 w5 hR5 hb5; have hx5 : Below wx.heap.size wx w5 := (hx3.alloc hx3.size _).trans hb5; rw [hq'.out] at hR5; obtain ⟨A5, c5, rfl, hi5⟩ := hR5.form; have hs5 := hx5.size; clear x0 x1 x2; obtain ⟨x0, x1, x2⟩ := (hXB.keep hx5).three)
          | (refine step_append_int1 (B := wx.heap.size) (xs := p) (y := (j : Int)) hR3 hx3.size (by omega) hz3 rfl (.tmp 29) (.tmp 31) rfl rfl rfl ?_; intro v5 w5 hR5 hb5; have hx5 : Below wx.heap.size wx w5 := hx3.trans hb5; rw [hq'.out] at hR5; obtain ⟨A5, c5, rfl, hi5⟩ := hR5.form; have hs5 := hx5.size; clear x0 x1 x2; obtain ⟨x0, x1, x2⟩ := (hXB.keep hx5).three)
          | (go_at_call 139; refine (clone_any p P cp (wx.alloc (.cells #[.int .i64 j] 3)).drew (by omega) (hix.alloc' _)).mono ?_; rintro e w3 ⟨v3, rfl, hR3, hb3⟩; have hz3 : w3.cell? ⟨wx.heap.size, 0, none⟩ = some (.int .i64 j) := (hb3.cell (by simp)).trans (by simp); replace hR3 := hR3.mono (B' := wx.heap.size) (by simp); have hx3 : Below wx.heap.size wx w3 := (((Below.refl _ _).alloc (Nat.le_refl _) _).drew).trans (hb3.mono (by simp)); clear x0 x1 x2; obtain ⟨x0, x1, x2⟩ := (hXB.keep hx3).three)
          | (go_at_call 139; refine (clone_any p P cp wx.drew (by omega) hix).mono ?_; rintro e w3 ⟨v3, rfl, hR3, hb3⟩; have hx3 : Below wx.heap.size wx w3 := (Below.refl _ _).drew.trans hb3; clear x0 x1 x2; obtain ⟨x0, x1, x2⟩ := (hXB.keep hx3).three))
        all_goals
          have hx7 : Below (w.heap.size + 1) wx w7 := (hx6.mono (by omega)).trans hb7
          have c2 := (hBx.below hx7 (by omega)).at_ (i := 2) rfl
          go_wp2_with fail
          go_roundw
          case rel => exact ⟨j + 1, _, hlt, rfl, by go_num, by rw [plL_take f p hlt, H3.out, hq'.out, ← List.append_assoc, hp1'.out]; exact hR7, hBx.below hx7 (by omega), hbx.trans (hx7.mono (by omega))⟩
          case measure => simp [intOf]; omega
      · have hjl : j = ks.length := by omega
        subst hjl
        rw [List.take_length] at hps1
        have hp1' := hide hps1
        clear hps1
        go_wp2_with fail
        go_ret
        exact ⟨vv, rfl, by have e := hp1'.out; first | (rw [e]; exact hRv.mono (by omega)) | (rw [List.singleton_append] at e; rw [e]; exact hRv.mono (by omega)), hb⟩
  | false =>
    have : ps0 = [] := by rw [← hps0]; simp
    subst this
    clear hps0
    go_enter Try.func114, Try.ntmps114
    go_wp2_with (refine (hF k n ks A c _ (by omega) (hr.alloc _)).mono ?_; rw [hbf'.out]; rintro e w4 ⟨rfl, hb2⟩; have hB0 := (Blk.new_ w 29 #[.int .i64 k, .int .i64 n, .slice A ks.length c] rfl).keep hb2; have hb0 : Below w.heap.size w w4 := ((Below.refl _ _).alloc (Nat.le_refl _) _).trans (hb2.mono (by simp)); clear hbf' hb2; have c2 := hB0.at_ (i := 2) rfl)
    have hR0 : RowP (w.heap.size + 1) w4 (.slice none 0 0) [] := RowP.nil
    revert hR0
    generalize hv0 : Value.slice none 0 0 = v0
    intro hR0
    clear hv0
    go_loopw [7, 21] (fun v i wr => ∃ (j : Nat) (vv : Value), j ≤ ks.length ∧ vv = v ∧ i = .int .i64 j ∧ RowP (w.heap.size + 1) wr vv ([] ++ plL f p 0 (ks.take j)) ∧ Blk wr w.heap.size #[.int .i64 k, .int .i64 n, .slice A ks.length c] ∧ Below w.heap.size w wr) (fun _ i _ => ks.length - (intOf i).toNat)
    case atStart => exact ⟨0, _, Nat.zero_le _, rfl, rfl, by simpa [plL] using hR0, hB0, hb0⟩
    case round =>
      obtain ⟨j, vv, hj, rfl, rfl, hRv, hBr, hb⟩ := hrel
      obtain ⟨ps1, hps1⟩ : ∃ ps1, [] ++ plL f p 0 (ks.take j) = ps1 := ⟨_, rfl⟩
      have hpl1 : ps1.length ≤ 1000001 := by rw [← hps1, List.length_append]; have := plL_le f (ks.take j) p 0; have := sizes_take_le ks j; simp; omega
      rw [hps1] at hRv
      by_cases hlt : j < ks.length
      · obtain ⟨b1, off, k', n', ks', A', c', rfl, hkj, hc1, hc2, hc3, hl', hr'⟩ := (hr.below hb).at_ hlt
        have hsz := sizes_le (List.getElem_mem hlt)
        have hbt := plT_le f ks[j] (p ++ [(j : Int)])
        rw [hkj] at hsz hbt
        simp only [Tm.size] at hsz hbt
        have H3 := hide hkj
        have hp1' := hide hps1
        clear hkj hps1
        have hvo : ∀ g, vv.ownBlock = some g → g < wr.heap.size := fun g hg => by obtain ⟨_, h1, _⟩ := hRv; exact (h1.lt g hg).2
        go_wp2_with fail
        refine name_world ?_
        intro wx hwx
        have hXB : Blk wx wr.heap.size #[.int .i64 k', .int .i64 n', .slice A' ks'.length c'] := by rw [hwx]; exact Blk.new_ _ _ _ rfl
        have hbx : Below w.heap.size w wx := by rw [hwx]; exact hb.alloc hb.size _
        have hRx : RowP (w.heap.size + 1) wx vv ps1 := by rw [hwx]; exact hRv.alloc _
        have hBx : Blk wx w.heap.size #[.int .i64 k, .int .i64 n, .slice (some ⟨b1, off, none⟩) ks.length c] := by rw [hwx]; exact hBr.alloc _
        have hrx : Rd wx A' 0 ks' := by rw [hwx]; exact hr'.alloc _
        have hsx : wr.heap.size < wx.heap.size := by rw [hwx]; simp
        have hsr := hb.size
        have hwr := hBr.lt
        clear hwx
        obtain ⟨x0, x1, x2⟩ := hXB.three
        obtain ⟨q, hq⟩ : ∃ q, p ++ [(j : Int)] = q := ⟨_, rfl⟩
        have hql : q.length = p.length + 1 := by rw [← hq]; simp
        rw [hq] at hbt
        have hql2 : q.length ≤ p.length + 1 := by omega
        have hq' := hide hq
        have hql' := hide hql
        clear hq hql
        have hix := hi.below hbx
        go_region_held3 (fun w' => w'.cell? ⟨wr.heap.size, 0, none⟩ = some (.int .i64 k') ∧ w'.cell? ⟨wr.heap.size, 1, none⟩ = some (.int .i64 n') ∧ w'.cell? ⟨wr.heap.size, 2, none⟩ = some (.slice A' ks'.length c')) (go_keep) (first
          | (refine step_append_rowp (B := w.heap.size + 1) (B2 := w5.heap.size) (qs := plT f q (.mk k' n' ks')) (hRx.below hx6) hR6 (by omega) (fun g hg => by obtain ⟨_, h1, _⟩ := hRx; have := (h1.lt g hg).2; omega) hb6.size (by omega) rfl (.tmp 26) (.tmp 34) rfl rfl rfl ?_; intro v7 w7 hR7 hb7 hg7; have hX7 := (hXB.keep hx6).grown hg7 (fun e => by have := hvo _ e.symm; omega); clear x0 x1 x2; obtain ⟨x0, x1, x2⟩ := hX7.three)
          | (go_at_call 114; refine (ih k' n' ks' A' c' q A5 c5 _ (by omega) (by omega) (by omega) (hrx.below hx5) hi5).mono ?_; rintro e w6 ⟨v6, rfl, hR6, hb6⟩; have hx6 : Below wx.heap.size wx w6 := hx5.trans (hb6.mono hx5.size); have hs6 := hb6.size; clear x0 x1 x2; obtain ⟨x0, x1, x2⟩ := (hXB.keep hx6).three)
          | (refine step_append_int1 (B := wx.heap.size) (xs := p) (y := (j : Int)) (hR3.alloc _) (by have := hx3.size; simp; omega) (by omega) (by simp) rfl (.tmp 29) (.tmp 31) rfl rfl rfl ?_; intro v5 w5 hR5 hb5; have hx5 : Below wx.heap.size wx w5 := (hx3.alloc hx3.size _).trans hb5; rw [hq'.out] at hR5; obtain ⟨A5, c5, rfl, hi5⟩ := hR5.form; have hs5 := hx5.size; clear x0 x1 x2; obtain ⟨x0, x1, x2⟩ := (hXB.keep hx5).three)
          | (refine step_append_int1 (B := wx.heap.size) (xs := p) (y := (j : Int)) hR3 hx3.size (by omega) hz3 rfl (.tmp 29) (.tmp 31) rfl rfl rfl ?_; intro v5 w5 hR5 hb5; have hx5 : Below wx.heap.size wx w5 := hx3.trans hb5; rw [hq'.out] at hR5; obtain ⟨A5, c5, rfl, hi5⟩ := hR5.form; have hs5 := hx5.size; clear x0 x1 x2; obtain ⟨x0, x1, x2⟩ := (hXB.keep hx5).three)
          | (go_at_call 139; refine (clone_any p P cp (wx.alloc (.cells #[.int .i64 j] 3)).drew (by omega) (hix.alloc' _)).mono ?_; rintro e w3 ⟨v3, rfl, hR3, hb3⟩; have hz3 : w3.cell? ⟨wx.heap.size, 0, none⟩ = some (.int .i64 j) := (hb3.cell (by simp)).trans (by simp); replace hR3 := hR3.mono (B' := wx.heap.size) (by simp); have hx3 : Below wx.heap.size wx w3 := (((Below.refl _ _).alloc (Nat.le_refl _) _).drew).trans (hb3.mono (by simp)); clear x0 x1 x2; obtain ⟨x0, x1, x2⟩ := (hXB.keep hx3).three)
          | (go_at_call 139; refine (clone_any p P cp wx.drew (by omega) hix).mono ?_; rintro e w3 ⟨v3, rfl, hR3, hb3⟩; have hx3 : Below wx.heap.size wx w3 := (Below.refl _ _).drew.trans hb3; clear x0 x1 x2; obtain ⟨x0, x1, x2⟩ := (hXB.keep hx3).three))
        all_goals
          have hx7 : Below (w.heap.size + 1) wx w7 := (hx6.mono (by omega)).trans hb7
          have c2 := (hBx.below hx7 (by omega)).at_ (i := 2) rfl
          go_wp2_with fail
          go_roundw
          case rel => exact ⟨j + 1, _, hlt, rfl, by go_num, by rw [plL_take f p hlt, H3.out, hq'.out, ← List.append_assoc, hp1'.out]; exact hR7, hBx.below hx7 (by omega), hbx.trans (hx7.mono (by omega))⟩
          case measure => simp [intOf]; omega
      · have hjl : j = ks.length := by omega
        subst hjl
        rw [List.take_length] at hps1
        rw [List.nil_append] at hps1
        have hp1' := hide hps1
        clear hps1
        go_wp2_with fail
        go_ret
        exact ⟨vv, rfl, by have e := hp1'.out; first | (rw [e]; exact hRv.mono (by omega)) | (rw [List.singleton_append] at e; rw [e]; exact hRv.mono (by omega)), hb⟩

set_option maxHeartbeats 1000000 in
set_option maxRecDepth 100000 in
theorem placesOf1_any (k n : Int) (ks : List Tm) (A : Option Addr) (c : Nat) (w : World) : Calls Try.prog 115 #[.agg #[.int .i64 k, .int .i64 n, .slice A ks.length c]] w fun e w' => e = .returned (.bool (allT (.mk k n ks))) ∧ Below w.heap.size w w' := by
  go_enter Try.func115, Try.ntmps115
  go_wp2
  go_ret
  exact ⟨rfl, (Below.refl _ _).alloc (Nat.le_refl _) _⟩
theorem test115 : TestOk 115 allT := fun k n ks A c w _ _ => placesOf1_any k n ks A c w

set_option maxHeartbeats 1000000 in
set_option maxRecDepth 100000 in
theorem placesOf_any (k n : Int) (ks : List Tm) (A : Option Addr) (c : Nat) (w : World) (hv : validT (.mk k n ks) = true) (hr : Rd w A 0 ks) :
    Calls Try.prog 70 #[.agg #[.int .i64 k, .int .i64 n, .slice A ks.length c]] w (GotPs w (plT allT [] (.mk k n ks))) := by
  have hsz := validT_size hv
  rw [Tm.size] at hsz
  have hrun := run_enter Try.func115 (by kernel_rfl) (by kernel_rfl)
  have hv' := hide hv
  clear hv
  go_enter Try.func70, Try.ntmps70
  go_wp2_with (first
    | (go_at_call 114; refine (places_any test115 hrun (sizes ks + 1) k n ks A c [] none 0 _ (by omega) (by omega) (by simp; omega) ((hr.alloc _).below hb1) (fun j hj => absurd hj (Nat.not_lt_zero _))).mono ?_; rintro e w2 ⟨v2, rfl, hR2, hb2⟩)
    | (go_at_call 51; refine (iTermValid_any k n ks A c _ (by omega) (hr.alloc _)).mono ?_; rw [hv'.out]; rintro e w1 ⟨rfl, hb1⟩; have hB1 := (Blk.new_ w 29 #[.int .i64 k, .int .i64 n, .slice A ks.length c] rfl).keep hb1; obtain ⟨p0, p1, p2⟩ := hB1.three))
  go_ret
  have hs1 : w.heap.size ≤ w1.heap.size := by have := hb1.size; simp at this; omega
  exact ⟨_, rfl, hR2.mono hs1, (((Below.refl _ _).alloc (Nat.le_refl _) _).trans (hb1.mono (by simp))).trans (hb2.mono hs1)⟩
end Go.Proofs.Ytefifcmieicnlaa
