/-
  FillTerm of the implementation. No condition.
-/
import Derived.Test.YtefifcmieicnlaaCont
namespace Go.Proofs.Ytefifcmieicnlaa
open Go.RowKit
set_option linter.unusedSimpArgs false
set_option linter.unusedVariables false

set_option maxHeartbeats 2000000 in
set_option maxRecDepth 100000 in
theorem iFillTerm_any (k n : Int) (ks : List Tm) (A : Option Addr) (c : Nat) (args : List Tm) (B : Option Addr) (cb : Nat) (w : World) (hM : sizes ks ≤ 1048576) (hMa : sizes args ≤ 1048576) (hr : Rd w A 0 ks) (hRa : Rd w B 0 args) :
    Calls Try.prog 28 #[(.agg #[.int .i64 k, .int .i64 n, .slice A ks.length c]), .slice B args.length cb] w (GotO w (fillTI (.mk k n ks) args)) := by
  have hlen := length_le_sizes ks
  have hlena := length_le_sizes args
  cases hv : validT (.mk k n ks) with
  | false =>
    have hz : fillTI (.mk k n ks) args = none := by rw [fillTI, if_neg]; rintro ⟨h, -⟩; rw [hv] at h; cases h
    rw [hz]
    go_enter Try.func28, Try.ntmps28
    go_wp2_with (go_at_call 51; refine (iTermValid_any k n ks A c _ (by omega) ((hr.alloc _).alloc _)).mono ?_; rw [hv]; rintro e w1 ⟨rfl, hb1⟩; have hB1 : Blk w1 w.heap.size #[.int .i64 k, .int .i64 n, .slice A ks.length c] := ((Blk.new_ w 29 #[.int .i64 k, .int .i64 n, .slice A ks.length c] rfl).alloc _).keep hb1; obtain ⟨p0, p1, p2⟩ := hB1.three; have hT1 : Blk w1 (w.heap.size + 1) #[.int .i64 0, .int .i64 0, .slice none 0 0] := (Blk.new_ _ 29 _ (by simp)).keep hb1; obtain ⟨d0, d1, d2⟩ := hT1.three; have e0 := hT1.frozen 0; have e1 := hT1.frozen 1; have e2 := hT1.frozen 2; have hr1 := ((hr.alloc (.cells #[.int .i64 k, .int .i64 n, .slice A ks.length c] 29)).alloc (.cells #[.int .i64 0, .int .i64 0, .slice none 0 0] 29)).below hb1; have ha1 := ((hRa.alloc (.cells #[.int .i64 k, .int .i64 n, .slice A ks.length c] 29)).alloc (.cells #[.int .i64 0, .int .i64 0, .slice none 0 0] 29)).below hb1; replace hb1 : Below w.heap.size w w1 := (((Below.refl _ _).alloc (Nat.le_refl _) _).alloc (by simp) _).trans (hb1.mono (by simp; omega)))
    refine bodyPost_ret (v := .tuple #[zeroV, .bool false]) (by simp [results, Try.results28, go_sem, d0, d1, d2, zeroV]) rfl ⟨rfl, ?_⟩
    exact ((hb1.setCell (by simp) _).setCell (by simp) _).setCell (by simp) _
  | true =>
    by_cases hla : args.length ≤ 6
    · have h60 : (decide (0 ≤ (args.length : Int)) && decide ((args.length : Int) ≤ 6)) = true := by simp; omega
      cases hany : args.any (fun a => !validT a) with
      | true =>
        have hz : fillTI (.mk k n ks) args = none := by rw [fillTI, if_neg]; rintro ⟨-, -, h⟩; rw [hany] at h; cases h
        rw [hz]
        go_enter Try.func28, Try.ntmps28
        go_wp2_with (first | (go_at_call 51; refine (iTermValid_any k n ks A c _ (by omega) ((hr.alloc _).alloc _)).mono ?_; rw [hv]; rintro e w1 ⟨rfl, hb1⟩; have hB1 : Blk w1 w.heap.size #[.int .i64 k, .int .i64 n, .slice A ks.length c] := ((Blk.new_ w 29 #[.int .i64 k, .int .i64 n, .slice A ks.length c] rfl).alloc _).keep hb1; obtain ⟨p0, p1, p2⟩ := hB1.three; have hT1 : Blk w1 (w.heap.size + 1) #[.int .i64 0, .int .i64 0, .slice none 0 0] := (Blk.new_ _ 29 _ (by simp)).keep hb1; obtain ⟨d0, d1, d2⟩ := hT1.three; have e0 := hT1.frozen 0; have e1 := hT1.frozen 1; have e2 := hT1.frozen 2; have hr1 := ((hr.alloc (.cells #[.int .i64 k, .int .i64 n, .slice A ks.length c] 29)).alloc (.cells #[.int .i64 0, .int .i64 0, .slice none 0 0] 29)).below hb1; have ha1 := ((hRa.alloc (.cells #[.int .i64 k, .int .i64 n, .slice A ks.length c] 29)).alloc (.cells #[.int .i64 0, .int .i64 0, .slice none 0 0] 29)).below hb1; replace hb1 : Below w.heap.size w w1 := (((Below.refl _ _).alloc (Nat.le_refl _) _).alloc (by simp) _).trans (hb1.mono (by simp; omega))) | (go_at_call 60; refine (isHoles_any _ _).mono ?_; rw [h60]; rintro e w2 ⟨rfl, rfl⟩) | (go_at_call 61; refine (contains_any test62 (run_enter Try.func62 (by kernel_rfl) (by kernel_rfl)) args B cb _ (by omega) ha1).mono ?_; rw [hany]; rintro e w3 ⟨rfl, hb3⟩; have hB3 := hB1.keep hb3; obtain ⟨s0, s1, s2⟩ := hB3.three; have hT3 := hT1.keep hb3; obtain ⟨t0, t1, t2⟩ := hT3.three; have u0 := hT3.frozen 0; have u1 := hT3.frozen 1; have u2 := hT3.frozen 2; have hr3 := hr1.below hb3; have ha3 := ha1.below hb3; replace hb3 := hb1.trans (hb3.mono hb1.size)))
        refine bodyPost_ret (v := .tuple #[zeroV, .bool false]) (by simp [results, Try.results28, go_sem, t0, t1, t2, zeroV]) rfl ⟨rfl, ?_⟩
        exact ((hb3.setCell (by simp) _).setCell (by simp) _).setCell (by simp) _
      | false =>
        have hz : fillTI (.mk k n ks) args = fillI args (.mk k n ks) := by rw [fillTI, if_pos ⟨hv, hla, hany⟩]
        have hs : shape 30 (.mk k n ks) = true := by simp only [validT, Bool.and_eq_true] at hv; exact hv.1
        have hsz := validT_size hv
        rw [Tm.size] at hsz
        have hsa : ∀ t, t ∈ args → shape 30 t = true := fun t ht => by
          have := List.any_eq_false.1 hany t ht
          simp only [Bool.not_eq_true', Bool.not_eq_false] at this
          simp only [validT, Bool.and_eq_true] at this
          exact this.1
        rw [hz]
        have hsa' := hide hsa
        clear hsa
        cases hfi : fillI args (.mk k n ks) with
        | none =>
          go_enter Try.func28, Try.ntmps28
          go_wp2_with (first | (go_at_call 51; refine (iTermValid_any k n ks A c _ (by omega) ((hr.alloc _).alloc _)).mono ?_; rw [hv]; rintro e w1 ⟨rfl, hb1⟩; have hB1 : Blk w1 w.heap.size #[.int .i64 k, .int .i64 n, .slice A ks.length c] := ((Blk.new_ w 29 #[.int .i64 k, .int .i64 n, .slice A ks.length c] rfl).alloc _).keep hb1; obtain ⟨p0, p1, p2⟩ := hB1.three; have hT1 : Blk w1 (w.heap.size + 1) #[.int .i64 0, .int .i64 0, .slice none 0 0] := (Blk.new_ _ 29 _ (by simp)).keep hb1; obtain ⟨d0, d1, d2⟩ := hT1.three; have e0 := hT1.frozen 0; have e1 := hT1.frozen 1; have e2 := hT1.frozen 2; have hr1 := ((hr.alloc (.cells #[.int .i64 k, .int .i64 n, .slice A ks.length c] 29)).alloc (.cells #[.int .i64 0, .int .i64 0, .slice none 0 0] 29)).below hb1; have ha1 := ((hRa.alloc (.cells #[.int .i64 k, .int .i64 n, .slice A ks.length c] 29)).alloc (.cells #[.int .i64 0, .int .i64 0, .slice none 0 0] 29)).below hb1; replace hb1 : Below w.heap.size w w1 := (((Below.refl _ _).alloc (Nat.le_refl _) _).alloc (by simp) _).trans (hb1.mono (by simp; omega))) | (go_at_call 60; refine (isHoles_any _ _).mono ?_; rw [h60]; rintro e w2 ⟨rfl, rfl⟩) | (go_at_call 61; refine (contains_any test62 (run_enter Try.func62 (by kernel_rfl) (by kernel_rfl)) args B cb _ (by omega) ha1).mono ?_; rw [hany]; rintro e w3 ⟨rfl, hb3⟩; have hB3 := hB1.keep hb3; obtain ⟨s0, s1, s2⟩ := hB3.three; have hT3 := hT1.keep hb3; obtain ⟨t0, t1, t2⟩ := hT3.three; have u0 := hT3.frozen 0; have u1 := hT3.frozen 1; have u2 := hT3.frozen 2; have hr3 := hr1.below hb3; have ha3 := ha1.below hb3; replace hb3 := hb1.trans (hb3.mono hb1.size)) | (go_at_call 63; refine (fill_any k n ks A c args B cb _ (by omega) hsa'.out (by omega) ha3 (by omega) hs hr3).mono ?_; rw [hfi]; intro e w4 hp; obtain ⟨he, hb4⟩ := gotO_none hp; subst he; clear hp; have hT4 := hT3.keep hb4; obtain ⟨v0, v1, v2⟩ := hT4.three; have y0 := hT4.frozen 0; have y1 := hT4.frozen 1; have y2 := hT4.frozen 2; replace hb4 := hb3.trans (hb4.mono hb3.size)))
          refine bodyPost_ret (v := .tuple #[zeroV, .bool false]) (by simp [results, Try.results28, go_sem, v0, v1, v2, zeroV]) rfl ⟨rfl, ?_⟩
          exact ((hb4.setCell (by simp) _).setCell (by simp) _).setCell (by simp) _
        | some t =>
          obtain ⟨k2, n2, ks2⟩ := t
          go_enter Try.func28, Try.ntmps28
          go_wp2_with (first | (go_at_call 51; refine (iTermValid_any k n ks A c _ (by omega) ((hr.alloc _).alloc _)).mono ?_; rw [hv]; rintro e w1 ⟨rfl, hb1⟩; have hB1 : Blk w1 w.heap.size #[.int .i64 k, .int .i64 n, .slice A ks.length c] := ((Blk.new_ w 29 #[.int .i64 k, .int .i64 n, .slice A ks.length c] rfl).alloc _).keep hb1; obtain ⟨p0, p1, p2⟩ := hB1.three; have hT1 : Blk w1 (w.heap.size + 1) #[.int .i64 0, .int .i64 0, .slice none 0 0] := (Blk.new_ _ 29 _ (by simp)).keep hb1; obtain ⟨d0, d1, d2⟩ := hT1.three; have e0 := hT1.frozen 0; have e1 := hT1.frozen 1; have e2 := hT1.frozen 2; have hr1 := ((hr.alloc (.cells #[.int .i64 k, .int .i64 n, .slice A ks.length c] 29)).alloc (.cells #[.int .i64 0, .int .i64 0, .slice none 0 0] 29)).below hb1; have ha1 := ((hRa.alloc (.cells #[.int .i64 k, .int .i64 n, .slice A ks.length c] 29)).alloc (.cells #[.int .i64 0, .int .i64 0, .slice none 0 0] 29)).below hb1; replace hb1 : Below w.heap.size w w1 := (((Below.refl _ _).alloc (Nat.le_refl _) _).alloc (by simp) _).trans (hb1.mono (by simp; omega))) | (go_at_call 60; refine (isHoles_any _ _).mono ?_; rw [h60]; rintro e w2 ⟨rfl, rfl⟩) | (go_at_call 61; refine (contains_any test62 (run_enter Try.func62 (by kernel_rfl) (by kernel_rfl)) args B cb _ (by omega) ha1).mono ?_; rw [hany]; rintro e w3 ⟨rfl, hb3⟩; have hB3 := hB1.keep hb3; obtain ⟨s0, s1, s2⟩ := hB3.three; have hT3 := hT1.keep hb3; obtain ⟨t0, t1, t2⟩ := hT3.three; have u0 := hT3.frozen 0; have u1 := hT3.frozen 1; have u2 := hT3.frozen 2; have hr3 := hr1.below hb3; have ha3 := ha1.below hb3; replace hb3 := hb1.trans (hb3.mono hb1.size)) | (go_at_call 63; refine (fill_any k n ks A c args B cb _ (by omega) hsa'.out (by omega) ha3 (by omega) hs hr3).mono ?_; rw [hfi]; intro e w4 hp; obtain ⟨A4, c4, rfl, hl4, hf4, hb4⟩ := gotO_some hp; clear hp; have hT4 := hT3.keep hb4; have lT3 := hT3.lt; obtain ⟨v0, v1, v2⟩ := hT4.three; have y0 := hT4.frozen 0; have y1 := hT4.frozen 1; have y2 := hT4.frozen 2; replace hb4 := hb3.trans (hb4.mono hb3.size)))
          refine bodyPost_ret (v := .tuple #[.agg #[.int .i64 k2, .int .i64 n2, .slice A4 ks2.length c4], .bool true]) (by simp [results, Try.results28, go_sem, v0, v1, v2]) rfl ⟨A4, c4, rfl, hl4, ?_, ?_⟩
          · exact (((hf4.setCell (by simp; omega) _).setCell (by simp; omega) _).setCell (by simp; omega) _).mono (by omega)
          · exact ((hb4.setCell (by simp) _).setCell (by simp) _).setCell (by simp) _
    · have h60 : (decide (0 ≤ (args.length : Int)) && decide ((args.length : Int) ≤ 6)) = false := by
        rw [Bool.and_eq_false_iff]; right; exact decide_eq_false (by omega)
      have hz : fillTI (.mk k n ks) args = none := by rw [fillTI, if_neg]; rintro ⟨-, h, -⟩; omega
      rw [hz]
      have hla' := hide hla
      clear hla hz
      go_enter Try.func28, Try.ntmps28
      go_wp2_with (first | (go_at_call 51; refine (iTermValid_any k n ks A c _ (by omega) ((hr.alloc _).alloc _)).mono ?_; rw [hv]; rintro e w1 ⟨rfl, hb1⟩; have hB1 : Blk w1 w.heap.size #[.int .i64 k, .int .i64 n, .slice A ks.length c] := ((Blk.new_ w 29 #[.int .i64 k, .int .i64 n, .slice A ks.length c] rfl).alloc _).keep hb1; obtain ⟨p0, p1, p2⟩ := hB1.three; have hT1 : Blk w1 (w.heap.size + 1) #[.int .i64 0, .int .i64 0, .slice none 0 0] := (Blk.new_ _ 29 _ (by simp)).keep hb1; obtain ⟨d0, d1, d2⟩ := hT1.three; have e0 := hT1.frozen 0; have e1 := hT1.frozen 1; have e2 := hT1.frozen 2; have hr1 := ((hr.alloc (.cells #[.int .i64 k, .int .i64 n, .slice A ks.length c] 29)).alloc (.cells #[.int .i64 0, .int .i64 0, .slice none 0 0] 29)).below hb1; have ha1 := ((hRa.alloc (.cells #[.int .i64 k, .int .i64 n, .slice A ks.length c] 29)).alloc (.cells #[.int .i64 0, .int .i64 0, .slice none 0 0] 29)).below hb1; replace hb1 : Below w.heap.size w w1 := (((Below.refl _ _).alloc (Nat.le_refl _) _).alloc (by simp) _).trans (hb1.mono (by simp; omega))) | (go_at_call 60; refine (isHoles_any _ _).mono ?_; rw [h60]; rintro e w2 ⟨rfl, rfl⟩))
      refine bodyPost_ret (v := .tuple #[zeroV, .bool false]) (by simp [results, Try.results28, go_sem, d0, d1, d2, zeroV]) rfl ⟨rfl, ?_⟩
      exact ((hb1.setCell (by simp) _).setCell (by simp) _).setCell (by simp) _
end Go.Proofs.Ytefifcmieicnlaa
