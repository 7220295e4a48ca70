/-
  NoteAt of the implementation. No condition.
-/
import Derived.Test.YtefifcmieicnlaaIPlaces
import Derived.Test.YtefifcmieicnlaaSNote
import Derived.Test.YtefifcmieicnlaaWalked
import Derived.Test.YtefifcmieicnlaaOwnT
namespace Go.Proofs.Ytefifcmieicnlaa
open Go.RowKit
set_option linter.unusedSimpArgs false
set_option linter.unusedVariables false

theorem plT_paths (f : Tm → Bool) (t : Tm) : ∀ (p x : List Int), x ∈ plT f p t → x.length ≤ p.length + t.size := by
  refine Tm.rec (motive_1 := fun t => ∀ (p x : List Int), x ∈ plT f p t → x.length ≤ p.length + t.size)
    (motive_2 := fun ts => ∀ (p : List Int) (i : Nat) (x : List Int), x ∈ plL f p i ts → x.length ≤ p.length + 1 + sizes ts) ?_ ?_ ?_ t
  · intro k n ks ih p x hx
    rw [plT] at hx
    rw [Tm.size]
    rcases List.mem_append.1 hx with hx | hx
    · split at hx
      · rw [List.mem_singleton] at hx; subst hx; omega
      · cases hx
    · have := ih p 0 x hx; omega
  · intro p i x hx; rw [plL] at hx; cases hx
  · intro t ts h1 h2 p i x hx
    rw [plL] at hx
    rw [sizes]
    rcases List.mem_append.1 hx with hx | hx
    · have := h1 _ x hx; simp at this; omega
    · have := h2 p (i + 1) x hx; omega

set_option maxHeartbeats 4000000 in
set_option maxRecDepth 100000 in
theorem iNoteAt_any (k n : Int) (ks : List Tm) (A : Option Addr) (c : Nat) (notes : List Tm) (B : Option Addr) (cb : Nat) (xs : List Int) (P : Option Addr) (cp : Nat) (w : World) (hM : sizes ks ≤ 1048576) (hMn : sizes notes ≤ 1048576) (hx : xs.length ≤ 1048576) (hr : Rd w A 0 ks) (hrB : Rd w B 0 notes) (hi : RdI w P xs) :
    Calls Try.prog 35 #[.agg #[.int .i64 k, .int .i64 n, .slice A ks.length c], .slice B notes.length cb, .slice P xs.length cp] w (GotO w (noteS (.mk k n ks) notes xs)) := by
  have hlen := length_le_sizes ks
  have hlenB := length_le_sizes notes
  cases hv : validT (.mk k n ks) with
  | false =>
    have hz : noteS (.mk k n ks) notes xs = none := by rw [noteS, if_neg]; rintro ⟨h, -⟩; rw [termAt, if_neg (by rw [hv]; exact Bool.false_ne_true)] at h; cases h
    rw [hz]
    have hv' := hide hv
    clear hz hv
    go_enter Try.func35, Try.ntmps35
    go_wp2_with (first | (go_at_call 51; refine (iTermValid_any k n ks A c _ (by omega) (((hr.alloc _).alloc _).alloc _)).mono ?_; rw [hv'.out]; rintro e w1 ⟨rfl, hb1⟩; have hB1 : Blk w1 w.heap.size #[.int .i64 k, .int .i64 n, .slice A ks.length c] := (((Blk.new_ w 29 #[.int .i64 k, .int .i64 n, .slice A ks.length c] rfl).alloc _).alloc _).keep hb1; have hX1 : Blk w1 (w.heap.size + 1) #[.slice P xs.length cp] := ((Blk.new_ _ 44 _ (by simp)).alloc _).keep hb1; have hT1 : Blk w1 (w.heap.size + 1 + 1) #[.int .i64 0, .int .i64 0, .slice none 0 0] := (Blk.new_ _ 29 _ (by simp)).keep hb1; have g1 : Below w.heap.size w w1 := ((((Below.refl _ _).alloc (Nat.le_refl _) _).alloc (by simp) _).alloc (by simp; omega) _).trans (hb1.mono (by simp; omega)); have l1 : w.heap.size + 1 + 1 < w1.heap.size := hT1.lt; obtain ⟨p0, p1, p2⟩ := hB1.three; obtain ⟨d0, d1, d2⟩ := hT1.three; have e0 := hT1.frozen 0; have e1 := hT1.frozen 1; have e2 := hT1.frozen 2; have f0 := hX1.at_ (i := 0) rfl))
    have y := fun (o : Obj) => (((((hT1.set_ 0 (.int .i64 0)).set_ 1 (.int .i64 0)).set_ 2 (.slice none 0 0)).alloc o : Blk _ _ #[.int .i64 0, .int .i64 0, .slice none 0 0])).three
    refine bodyPost_ret (v := .tuple #[zeroV, .bool false]) (by simp [results, Try.results35, go_sem, d0, d1, d2, zeroV, y]) rfl ⟨rfl, ?_⟩
    first
      | exact ((g1.setCell (by first | omega | (simp; done) | (simp; omega)) _).setCell (by first | omega | (simp; done) | (simp; omega)) _).setCell (by first | omega | (simp; done) | (simp; omega)) _
      | exact (((g1.setCell (by first | omega | (simp; done) | (simp; omega)) _).setCell (by first | omega | (simp; done) | (simp; omega)) _).setCell (by first | omega | (simp; done) | (simp; omega)) _).alloc (by have := g1.size; first | omega | (simp; omega)) _
      | exact ((((g1.alloc g1.size _).setCell (by first | omega | (simp; done) | (simp; omega)) _).setCell (by first | omega | (simp; done) | (simp; omega)) _).setCell (by first | omega | (simp; done) | (simp; omega)) _)
  | true =>
    have hv' := hide hv
    have hsz := validT_size hv
    rw [Tm.size] at hsz
    by_cases hln : notes.length = sizes ks + 1
    · have q1 : ((notes.length : Int) != ((sizes ks + 1 : Nat) : Int)) = false := by simp [hln]
      have q1b : ((notes.length : Int) != (sizes ks : Int) + 1) = false := by simp [hln]
      have hln' := hide hln
      cases hat : atT (.mk k n ks) xs with
      | none =>
        have hz : noteS (.mk k n ks) notes xs = none := by rw [noteS, if_neg]; rintro ⟨h, -⟩; rw [termAt, if_pos hv, hat] at h; cases h
        rw [hz]
        have hat' := hide hat
        clear hz hat hv hln
        go_enter Try.func35, Try.ntmps35
        go_wp2_with (first | (go_at_call 68; refine (iWalked_any k n ks A c xs P cp _ (by omega) (by omega) (hr.below g2) (hi.below g2)).mono ?_; rw [hat'.out]; rintro e w3 ⟨hb3, rfl⟩; have hB3 := (hB2).keep hb3; have hX3 := (hX2).keep hb3; have hT3 := (hT2).keep hb3; have g3 := g2.trans (hb3.mono g2.size); have l3 : w.heap.size + 1 + 1 < w3.heap.size := hT3.lt; have la3 : w.heap.size < w3.heap.size := (by omega); have lb3 : w.heap.size + 1 < w3.heap.size := (by omega); clear p0 p1 p2 d0 d1 d2 e0 e1 e2 f0; obtain ⟨p0, p1, p2⟩ := hB3.three; obtain ⟨d0, d1, d2⟩ := hT3.three; have e0 := hT3.frozen 0; have e1 := hT3.frozen 1; have e2 := hT3.frozen 2; have f0 := hX3.at_ (i := 0) rfl) | (go_at_call 67; refine (iSize_any (sizes ks + 1) k n ks A c _ (by omega) (by omega) (hr.below g1)).mono ?_; rintro e w2 ⟨rfl, hb2⟩; have hB2 := (hB1).keep hb2; have hX2 := (hX1).keep hb2; have hT2 := (hT1).keep hb2; have g2 := g1.trans (hb2.mono g1.size); have l2 : w.heap.size + 1 + 1 < w2.heap.size := hT2.lt; clear p0 p1 p2 d0 d1 d2 e0 e1 e2 f0; obtain ⟨p0, p1, p2⟩ := hB2.three; obtain ⟨d0, d1, d2⟩ := hT2.three; have e0 := hT2.frozen 0; have e1 := hT2.frozen 1; have e2 := hT2.frozen 2; have f0 := hX2.at_ (i := 0) rfl) | (go_at_call 51; refine (iTermValid_any k n ks A c _ (by omega) (((hr.alloc _).alloc _).alloc _)).mono ?_; rw [hv'.out]; rintro e w1 ⟨rfl, hb1⟩; have hB1 : Blk w1 w.heap.size #[.int .i64 k, .int .i64 n, .slice A ks.length c] := (((Blk.new_ w 29 #[.int .i64 k, .int .i64 n, .slice A ks.length c] rfl).alloc _).alloc _).keep hb1; have hX1 : Blk w1 (w.heap.size + 1) #[.slice P xs.length cp] := ((Blk.new_ _ 44 _ (by simp)).alloc _).keep hb1; have hT1 : Blk w1 (w.heap.size + 1 + 1) #[.int .i64 0, .int .i64 0, .slice none 0 0] := (Blk.new_ _ 29 _ (by simp)).keep hb1; have g1 : Below w.heap.size w w1 := ((((Below.refl _ _).alloc (Nat.le_refl _) _).alloc (by simp) _).alloc (by simp; omega) _).trans (hb1.mono (by simp; omega)); have l1 : w.heap.size + 1 + 1 < w1.heap.size := hT1.lt; obtain ⟨p0, p1, p2⟩ := hB1.three; obtain ⟨d0, d1, d2⟩ := hT1.three; have e0 := hT1.frozen 0; have e1 := hT1.frozen 1; have e2 := hT1.frozen 2; have f0 := hX1.at_ (i := 0) rfl))
        have y := fun (o : Obj) => (((((hT3.set_ 0 (.int .i64 0)).set_ 1 (.int .i64 0)).set_ 2 (.slice none 0 0)).alloc o : Blk _ _ #[.int .i64 0, .int .i64 0, .slice none 0 0])).three
        refine bodyPost_ret (v := .tuple #[zeroV, .bool false]) (by simp [results, Try.results35, go_sem, d0, d1, d2, zeroV, y]) rfl ⟨rfl, ?_⟩
        first
          | exact ((g3.setCell (by first | omega | (simp; done) | (simp; omega)) _).setCell (by first | omega | (simp; done) | (simp; omega)) _).setCell (by first | omega | (simp; done) | (simp; omega)) _
          | exact (((g3.setCell (by first | omega | (simp; done) | (simp; omega)) _).setCell (by first | omega | (simp; done) | (simp; omega)) _).setCell (by first | omega | (simp; done) | (simp; omega)) _).alloc (by have := g3.size; first | omega | (simp; omega)) _
          | exact ((((g3.alloc g3.size _).setCell (by first | omega | (simp; done) | (simp; omega)) _).setCell (by first | omega | (simp; done) | (simp; omega)) _).setCell (by first | omega | (simp; done) | (simp; omega)) _)
      | some u =>
        obtain ⟨ku, nu, us⟩ := u
        have hid := idx_lt hat
        have hnn : noteS (.mk k n ks) notes xs = if validT (notes.getD (idxT (.mk k n ks) xs) default) = true then some (notes.getD (idxT (.mk k n ks) xs) default) else none := by rw [noteS, if_pos ⟨by rw [termAt, if_pos hv, hat]; rfl, hln⟩]
        rw [hnn]
        have hidx := pl_index (.mk k n ks) [] xs _ hat
        rw [List.nil_append] at hidx
        have hidx' := hide hidx
        have hpl : ∀ p, p ∈ plT allT [] (.mk k n ks) → p.length ≤ 1000000000 := fun p hp => by
          have := plT_paths allT (.mk k n ks) [] p hp
          rw [Tm.size] at this; simp at this; omega
        have hpl' := hide hpl
        have hplen := plT_le allT (.mk k n ks) []
        rw [Tm.size] at hplen
        have hIl : idxT (.mk k n ks) xs < notes.length := by rw [hln]; simp only [Tm.size] at hid; omega
        clear hidx hpl hid
        obtain ⟨I, hI⟩ : ∃ I, idxT (.mk k n ks) xs = I := ⟨_, rfl⟩
        rw [hI] at hIl ⊢
        have hI' := hide hI
        have hIl2 : (I : Int) < (notes.length : Int) := by omega
        obtain ⟨b5, off5, kd, nd, ksd, Ad, cd, rfl, hkd, n1, n2, n3, hld, hrd⟩ := hrB.at_ hIl
        have hgd : notes.getD I default = .mk kd nd ksd := by rw [← hkd]; simp [List.getD, List.getElem?_eq_getElem hIl]
        have hsd := sizes_le (List.getElem_mem hIl)
        rw [hkd, Tm.size] at hsd
        rw [hgd]
        have hat' := hide hat
        clear hat hv hln hI hnn hgd hkd
        cases hvd : validT (.mk kd nd ksd) with
        | false =>
          rw [if_neg Bool.false_ne_true]
          have hvd' := hide hvd
          clear hvd
          go_enter Try.func35, Try.ntmps35
          go_wp2_with (first | (go_at_call 51; refine (iTermValid_any kd nd ksd Ad cd _ (by omega) (hrd.below g5)).mono ?_; rw [hvd'.out]; rintro e w6 ⟨rfl, hb6⟩; have hB6 := (hB5).keep hb6; have hX6 := (hX5).keep hb6; have hT6 := (hT5).keep hb6; have g6 := g5.trans (hb6.mono g5.size); have l6 : w.heap.size + 1 + 1 < w6.heap.size := hT6.lt; clear p0 p1 p2 d0 d1 d2 e0 e1 e2 f0; obtain ⟨p0, p1, p2⟩ := hB6.three; obtain ⟨d0, d1, d2⟩ := hT6.three; have e0 := hT6.frozen 0; have e1 := hT6.frozen 1; have e2 := hT6.frozen 2; have f0 := hX6.at_ (i := 0) rfl; clear m1 m2 m3; have m1 := (Keeps.of_below g6) _ _ n1; have m2 := (Keeps.of_below g6) _ _ n2; have m3 := (Keeps.of_below g6) _ _ n3) | (go_at_call 69; refine (indexP_any (plT allT [] (.mk k n ks)) xs (idxT (.mk k n ks) xs) hidx'.out A4 P c4 cp (w.heap.size + 1) _ (by omega) hpl'.out (by omega) hP4 (hi.below g4) hX4).mono ?_; rw [hI'.out]; rintro e w5 ⟨rfl, hb5⟩; have hB5 := (hB4).keep hb5; have hX5 := (hX4).keep hb5; have hT5 := (hT4).keep hb5; have g5 := g4.trans (hb5.mono g4.size); have l5 : w.heap.size + 1 + 1 < w5.heap.size := hT5.lt; clear p0 p1 p2 d0 d1 d2 e0 e1 e2 f0; obtain ⟨p0, p1, p2⟩ := hB5.three; obtain ⟨d0, d1, d2⟩ := hT5.three; have e0 := hT5.frozen 0; have e1 := hT5.frozen 1; have e2 := hT5.frozen 2; have f0 := hX5.at_ (i := 0) rfl; have m1 := (Keeps.of_below g5) _ _ n1; have m2 := (Keeps.of_below g5) _ _ n2; have m3 := (Keeps.of_below g5) _ _ n3) | (go_at_call 70; refine (placesOf_any k n ks A c _ hv'.out ((hr.below g3).alloc _)).mono ?_; rintro e w4 ⟨v4, rfl, hR4, hb4⟩; have hB4 := (hB3.alloc _).keep hb4; have hX4 := (hX3.alloc _).keep hb4; have hT4 := (hT3.alloc _).keep hb4; have g4 : Below w.heap.size w w4 := (g3.alloc g3.size _).trans (hb4.mono (by have := g3.size; simp; omega)); have l4 : w.heap.size + 1 + 1 < w4.heap.size := hT4.lt; obtain ⟨A4, c4, rfl, hP4⟩ := hR4.form; clear hR4; clear p0 p1 p2 d0 d1 d2 e0 e1 e2 f0; obtain ⟨p0, p1, p2⟩ := hB4.three; obtain ⟨d0, d1, d2⟩ := hT4.three; have e0 := hT4.frozen 0; have e1 := hT4.frozen 1; have e2 := hT4.frozen 2; have f0 := hX4.at_ (i := 0) rfl) | (go_at_call 68; refine (iWalked_any k n ks A c xs P cp _ (by omega) (by omega) (hr.below g2) (hi.below g2)).mono ?_; rw [hat'.out]; rintro e w3 ⟨hb3, Au, cu, vu, rfl, hlu, hru⟩; have hB3 := (hB2).keep hb3; have hX3 := (hX2).keep hb3; have hT3 := (hT2).keep hb3; have g3 := g2.trans (hb3.mono g2.size); have l3 : w.heap.size + 1 + 1 < w3.heap.size := hT3.lt; have la3 : w.heap.size < w3.heap.size := (by omega); have lb3 : w.heap.size + 1 < w3.heap.size := (by omega); clear p0 p1 p2 d0 d1 d2 e0 e1 e2 f0; obtain ⟨p0, p1, p2⟩ := hB3.three; obtain ⟨d0, d1, d2⟩ := hT3.three; have e0 := hT3.frozen 0; have e1 := hT3.frozen 1; have e2 := hT3.frozen 2; have f0 := hX3.at_ (i := 0) rfl) | (go_at_call 67; refine (iSize_any (sizes ks + 1) k n ks A c _ (by omega) (by omega) (hr.below g1)).mono ?_; rintro e w2 ⟨rfl, hb2⟩; have hB2 := (hB1).keep hb2; have hX2 := (hX1).keep hb2; have hT2 := (hT1).keep hb2; have g2 := g1.trans (hb2.mono g1.size); have l2 : w.heap.size + 1 + 1 < w2.heap.size := hT2.lt; clear p0 p1 p2 d0 d1 d2 e0 e1 e2 f0; obtain ⟨p0, p1, p2⟩ := hB2.three; obtain ⟨d0, d1, d2⟩ := hT2.three; have e0 := hT2.frozen 0; have e1 := hT2.frozen 1; have e2 := hT2.frozen 2; have f0 := hX2.at_ (i := 0) rfl) | (go_at_call 51; refine (iTermValid_any k n ks A c _ (by omega) (((hr.alloc _).alloc _).alloc _)).mono ?_; rw [hv'.out]; rintro e w1 ⟨rfl, hb1⟩; have hB1 : Blk w1 w.heap.size #[.int .i64 k, .int .i64 n, .slice A ks.length c] := (((Blk.new_ w 29 #[.int .i64 k, .int .i64 n, .slice A ks.length c] rfl).alloc _).alloc _).keep hb1; have hX1 : Blk w1 (w.heap.size + 1) #[.slice P xs.length cp] := ((Blk.new_ _ 44 _ (by simp)).alloc _).keep hb1; have hT1 : Blk w1 (w.heap.size + 1 + 1) #[.int .i64 0, .int .i64 0, .slice none 0 0] := (Blk.new_ _ 29 _ (by simp)).keep hb1; have g1 : Below w.heap.size w w1 := ((((Below.refl _ _).alloc (Nat.le_refl _) _).alloc (by simp) _).alloc (by simp; omega) _).trans (hb1.mono (by simp; omega)); have l1 : w.heap.size + 1 + 1 < w1.heap.size := hT1.lt; obtain ⟨p0, p1, p2⟩ := hB1.three; obtain ⟨d0, d1, d2⟩ := hT1.three; have e0 := hT1.frozen 0; have e1 := hT1.frozen 1; have e2 := hT1.frozen 2; have f0 := hX1.at_ (i := 0) rfl))
          have y := fun (o : Obj) => (((((hT6.set_ 0 (.int .i64 0)).set_ 1 (.int .i64 0)).set_ 2 (.slice none 0 0)).alloc o : Blk _ _ #[.int .i64 0, .int .i64 0, .slice none 0 0])).three
          refine bodyPost_ret (v := .tuple #[zeroV, .bool false]) (by simp [results, Try.results35, go_sem, d0, d1, d2, zeroV, y]) rfl ⟨rfl, ?_⟩
          first
            | exact ((g6.setCell (by first | omega | (simp; done) | (simp; omega)) _).setCell (by first | omega | (simp; done) | (simp; omega)) _).setCell (by first | omega | (simp; done) | (simp; omega)) _
            | exact (((g6.setCell (by first | omega | (simp; done) | (simp; omega)) _).setCell (by first | omega | (simp; done) | (simp; omega)) _).setCell (by first | omega | (simp; done) | (simp; omega)) _).alloc (by have := g6.size; first | omega | (simp; omega)) _
            | exact ((((g6.alloc g6.size _).setCell (by first | omega | (simp; done) | (simp; omega)) _).setCell (by first | omega | (simp; done) | (simp; omega)) _).setCell (by first | omega | (simp; done) | (simp; omega)) _)
        | true =>
          rw [if_pos rfl]
          have hvd' := hide hvd
          clear hvd
          go_enter Try.func35, Try.ntmps35
          go_wp2_with (first | (go_at_call 73; refine (own_any (sizes ksd + 1) kd nd ksd Ad cd _ (by omega) (by omega) (hrd.below g6)).mono ?_; rintro e w7 ⟨A7, c7, rfl, hl7, hf7, hb7⟩; have hB7 := (hB6).keep hb7; have hX7 := (hX6).keep hb7; have hT7 := (hT6).keep hb7; have g7 := g6.trans (hb7.mono g6.size); have l7 : w.heap.size + 1 + 1 < w7.heap.size := hT7.lt; clear p0 p1 p2 d0 d1 d2 e0 e1 e2 f0; obtain ⟨p0, p1, p2⟩ := hB7.three; obtain ⟨d0, d1, d2⟩ := hT7.three; have e0 := hT7.frozen 0; have e1 := hT7.frozen 1; have e2 := hT7.frozen 2; have f0 := hX7.at_ (i := 0) rfl) | (go_at_call 51; refine (iTermValid_any kd nd ksd Ad cd _ (by omega) (hrd.below g5)).mono ?_; rw [hvd'.out]; rintro e w6 ⟨rfl, hb6⟩; have hB6 := (hB5).keep hb6; have hX6 := (hX5).keep hb6; have hT6 := (hT5).keep hb6; have g6 := g5.trans (hb6.mono g5.size); have l6 : w.heap.size + 1 + 1 < w6.heap.size := hT6.lt; clear p0 p1 p2 d0 d1 d2 e0 e1 e2 f0; obtain ⟨p0, p1, p2⟩ := hB6.three; obtain ⟨d0, d1, d2⟩ := hT6.three; have e0 := hT6.frozen 0; have e1 := hT6.frozen 1; have e2 := hT6.frozen 2; have f0 := hX6.at_ (i := 0) rfl; clear m1 m2 m3; have m1 := (Keeps.of_below g6) _ _ n1; have m2 := (Keeps.of_below g6) _ _ n2; have m3 := (Keeps.of_below g6) _ _ n3) | (go_at_call 69; refine (indexP_any (plT allT [] (.mk k n ks)) xs (idxT (.mk k n ks) xs) hidx'.out A4 P c4 cp (w.heap.size + 1) _ (by omega) hpl'.out (by omega) hP4 (hi.below g4) hX4).mono ?_; rw [hI'.out]; rintro e w5 ⟨rfl, hb5⟩; have hB5 := (hB4).keep hb5; have hX5 := (hX4).keep hb5; have hT5 := (hT4).keep hb5; have g5 := g4.trans (hb5.mono g4.size); have l5 : w.heap.size + 1 + 1 < w5.heap.size := hT5.lt; clear p0 p1 p2 d0 d1 d2 e0 e1 e2 f0; obtain ⟨p0, p1, p2⟩ := hB5.three; obtain ⟨d0, d1, d2⟩ := hT5.three; have e0 := hT5.frozen 0; have e1 := hT5.frozen 1; have e2 := hT5.frozen 2; have f0 := hX5.at_ (i := 0) rfl; have m1 := (Keeps.of_below g5) _ _ n1; have m2 := (Keeps.of_below g5) _ _ n2; have m3 := (Keeps.of_below g5) _ _ n3) | (go_at_call 70; refine (placesOf_any k n ks A c _ hv'.out ((hr.below g3).alloc _)).mono ?_; rintro e w4 ⟨v4, rfl, hR4, hb4⟩; have hB4 := (hB3.alloc _).keep hb4; have hX4 := (hX3.alloc _).keep hb4; have hT4 := (hT3.alloc _).keep hb4; have g4 : Below w.heap.size w w4 := (g3.alloc g3.size _).trans (hb4.mono (by have := g3.size; simp; omega)); have l4 : w.heap.size + 1 + 1 < w4.heap.size := hT4.lt; obtain ⟨A4, c4, rfl, hP4⟩ := hR4.form; clear hR4; clear p0 p1 p2 d0 d1 d2 e0 e1 e2 f0; obtain ⟨p0, p1, p2⟩ := hB4.three; obtain ⟨d0, d1, d2⟩ := hT4.three; have e0 := hT4.frozen 0; have e1 := hT4.frozen 1; have e2 := hT4.frozen 2; have f0 := hX4.at_ (i := 0) rfl) | (go_at_call 68; refine (iWalked_any k n ks A c xs P cp _ (by omega) (by omega) (hr.below g2) (hi.below g2)).mono ?_; rw [hat'.out]; rintro e w3 ⟨hb3, Au, cu, vu, rfl, hlu, hru⟩; have hB3 := (hB2).keep hb3; have hX3 := (hX2).keep hb3; have hT3 := (hT2).keep hb3; have g3 := g2.trans (hb3.mono g2.size); have l3 : w.heap.size + 1 + 1 < w3.heap.size := hT3.lt; have la3 : w.heap.size < w3.heap.size := (by omega); have lb3 : w.heap.size + 1 < w3.heap.size := (by omega); clear p0 p1 p2 d0 d1 d2 e0 e1 e2 f0; obtain ⟨p0, p1, p2⟩ := hB3.three; obtain ⟨d0, d1, d2⟩ := hT3.three; have e0 := hT3.frozen 0; have e1 := hT3.frozen 1; have e2 := hT3.frozen 2; have f0 := hX3.at_ (i := 0) rfl) | (go_at_call 67; refine (iSize_any (sizes ks + 1) k n ks A c _ (by omega) (by omega) (hr.below g1)).mono ?_; rintro e w2 ⟨rfl, hb2⟩; have hB2 := (hB1).keep hb2; have hX2 := (hX1).keep hb2; have hT2 := (hT1).keep hb2; have g2 := g1.trans (hb2.mono g1.size); have l2 : w.heap.size + 1 + 1 < w2.heap.size := hT2.lt; clear p0 p1 p2 d0 d1 d2 e0 e1 e2 f0; obtain ⟨p0, p1, p2⟩ := hB2.three; obtain ⟨d0, d1, d2⟩ := hT2.three; have e0 := hT2.frozen 0; have e1 := hT2.frozen 1; have e2 := hT2.frozen 2; have f0 := hX2.at_ (i := 0) rfl) | (go_at_call 51; refine (iTermValid_any k n ks A c _ (by omega) (((hr.alloc _).alloc _).alloc _)).mono ?_; rw [hv'.out]; rintro e w1 ⟨rfl, hb1⟩; have hB1 : Blk w1 w.heap.size #[.int .i64 k, .int .i64 n, .slice A ks.length c] := (((Blk.new_ w 29 #[.int .i64 k, .int .i64 n, .slice A ks.length c] rfl).alloc _).alloc _).keep hb1; have hX1 : Blk w1 (w.heap.size + 1) #[.slice P xs.length cp] := ((Blk.new_ _ 44 _ (by simp)).alloc _).keep hb1; have hT1 : Blk w1 (w.heap.size + 1 + 1) #[.int .i64 0, .int .i64 0, .slice none 0 0] := (Blk.new_ _ 29 _ (by simp)).keep hb1; have g1 : Below w.heap.size w w1 := ((((Below.refl _ _).alloc (Nat.le_refl _) _).alloc (by simp) _).alloc (by simp; omega) _).trans (hb1.mono (by simp; omega)); have l1 : w.heap.size + 1 + 1 < w1.heap.size := hT1.lt; obtain ⟨p0, p1, p2⟩ := hB1.three; obtain ⟨d0, d1, d2⟩ := hT1.three; have e0 := hT1.frozen 0; have e1 := hT1.frozen 1; have e2 := hT1.frozen 2; have f0 := hX1.at_ (i := 0) rfl))
          have y := fun (o : Obj) => (((((hT7.set_ 0 (.int .i64 kd)).set_ 1 (.int .i64 nd)).set_ 2 (.slice A7 ksd.length c7)).alloc o : Blk _ _ #[.int .i64 kd, .int .i64 nd, .slice A7 ksd.length c7])).three
          refine bodyPost_ret (v := .tuple #[.agg #[.int .i64 kd, .int .i64 nd, .slice A7 ksd.length c7], .bool true]) (by simp [results, Try.results35, go_sem, d0, d1, d2, y]) rfl ⟨A7, c7, rfl, hl7, ?_, ?_⟩
          · exact (((hf7.setCell (by first | omega | (simp; done) | (simp; omega)) _).setCell (by first | omega | (simp; done) | (simp; omega)) _).setCell (by first | omega | (simp; done) | (simp; omega)) _).mono (by omega)
          · exact ((g7.setCell (by first | omega | (simp; done) | (simp; omega)) _).setCell (by first | omega | (simp; done) | (simp; omega)) _).setCell (by first | omega | (simp; done) | (simp; omega)) _
    · have q1 : ((notes.length : Int) != ((sizes ks + 1 : Nat) : Int)) = true := by simp; omega
      have q1b : ((notes.length : Int) != (sizes ks : Int) + 1) = true := by simp; omega
      have hz : noteS (.mk k n ks) notes xs = none := by rw [noteS, if_neg]; rintro ⟨-, h⟩; rw [Tm.size] at h; exact hln h
      rw [hz]
      clear hz hln hv
      go_enter Try.func35, Try.ntmps35
      go_wp2_with (first | (go_at_call 67; refine (iSize_any (sizes ks + 1) k n ks A c _ (by omega) (by omega) (hr.below g1)).mono ?_; rintro e w2 ⟨rfl, hb2⟩; have hB2 := (hB1).keep hb2; have hX2 := (hX1).keep hb2; have hT2 := (hT1).keep hb2; have g2 := g1.trans (hb2.mono g1.size); have l2 : w.heap.size + 1 + 1 < w2.heap.size := hT2.lt; clear p0 p1 p2 d0 d1 d2 e0 e1 e2 f0; obtain ⟨p0, p1, p2⟩ := hB2.three; obtain ⟨d0, d1, d2⟩ := hT2.three; have e0 := hT2.frozen 0; have e1 := hT2.frozen 1; have e2 := hT2.frozen 2; have f0 := hX2.at_ (i := 0) rfl) | (go_at_call 51; refine (iTermValid_any k n ks A c _ (by omega) (((hr.alloc _).alloc _).alloc _)).mono ?_; rw [hv'.out]; rintro e w1 ⟨rfl, hb1⟩; have hB1 : Blk w1 w.heap.size #[.int .i64 k, .int .i64 n, .slice A ks.length c] := (((Blk.new_ w 29 #[.int .i64 k, .int .i64 n, .slice A ks.length c] rfl).alloc _).alloc _).keep hb1; have hX1 : Blk w1 (w.heap.size + 1) #[.slice P xs.length cp] := ((Blk.new_ _ 44 _ (by simp)).alloc _).keep hb1; have hT1 : Blk w1 (w.heap.size + 1 + 1) #[.int .i64 0, .int .i64 0, .slice none 0 0] := (Blk.new_ _ 29 _ (by simp)).keep hb1; have g1 : Below w.heap.size w w1 := ((((Below.refl _ _).alloc (Nat.le_refl _) _).alloc (by simp) _).alloc (by simp; omega) _).trans (hb1.mono (by simp; omega)); have l1 : w.heap.size + 1 + 1 < w1.heap.size := hT1.lt; obtain ⟨p0, p1, p2⟩ := hB1.three; obtain ⟨d0, d1, d2⟩ := hT1.three; have e0 := hT1.frozen 0; have e1 := hT1.frozen 1; have e2 := hT1.frozen 2; have f0 := hX1.at_ (i := 0) rfl))
      have y := fun (o : Obj) => (((((hT2.set_ 0 (.int .i64 0)).set_ 1 (.int .i64 0)).set_ 2 (.slice none 0 0)).alloc o : Blk _ _ #[.int .i64 0, .int .i64 0, .slice none 0 0])).three
      refine bodyPost_ret (v := .tuple #[zeroV, .bool false]) (by simp [results, Try.results35, go_sem, d0, d1, d2, zeroV, y]) rfl ⟨rfl, ?_⟩
      first
        | exact ((g2.setCell (by first | omega | (simp; done) | (simp; omega)) _).setCell (by first | omega | (simp; done) | (simp; omega)) _).setCell (by first | omega | (simp; done) | (simp; omega)) _
        | exact (((g2.setCell (by first | omega | (simp; done) | (simp; omega)) _).setCell (by first | omega | (simp; done) | (simp; omega)) _).setCell (by first | omega | (simp; done) | (simp; omega)) _).alloc (by have := g2.size; first | omega | (simp; omega)) _
        | exact ((((g2.alloc g2.size _).setCell (by first | omega | (simp; done) | (simp; omega)) _).setCell (by first | omega | (simp; done) | (simp; omega)) _).setCell (by first | omega | (simp; done) | (simp; omega)) _)
end Go.Proofs.Ytefifcmieicnlaa

