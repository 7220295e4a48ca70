/-
  TermAt and l16Deep of the reference. No condition.
-/
import Derived.Test.YtefifcmieicnlaaAt
import Derived.Test.YtefifcmieicnlaaShift2
namespace Go.Proofs.Ytefifcmieicnlaa
open Go.RowKit
set_option linter.unusedSimpArgs false
set_option linter.unusedVariables false

theorem seenO_none {w : World} {e : Ending} {w' : World} (h : SeenO w none e w') : e = .returned (.tuple #[.agg #[.int .i64 0, .int .i64 0, .slice none 0 0], .bool false]) ∧ Below w.heap.size w w' := ⟨h.2, h.1⟩
theorem seenO_some {w : World} {k n : Int} {ks : List Tm} {e : Ending} {w' : World} (h : SeenO w (some (.mk k n ks)) e w') :
    ∃ A c, e = .returned (.tuple #[.agg #[.int .i64 k, .int .i64 n, .slice A ks.length c], .bool true]) ∧ ks.length ≤ 9223372036854775807 ∧ Rd w A 0 ks ∧ Below w.heap.size w w' := by
  obtain ⟨hb, A, c, h1, h2, h3⟩ := h; exact ⟨A, c, h1, h2, h3, hb⟩
def termAt (t : Tm) (xs : List Int) : Option Tm := if validT t = true then atT t xs else none

set_option maxHeartbeats 2000000 in
set_option maxRecDepth 100000 in
theorem sTermAt_any (k n : Int) (ks : List Tm) (A : Option Addr) (c : Nat) (xs : List Int) (P : Option Addr) (cp : Nat) (w : World) (hM : sizes ks ≤ 1048576) (hx : xs.length ≤ 9223372036854775807) (hr : Rd w A 0 ks) (hi : RdI w P xs) :
    Calls Try.prog 64 #[.agg #[.int .i64 k, .int .i64 n, .slice A ks.length c], .slice P xs.length cp] w (GotO w (termAt (.mk k n ks) xs)) := by
  have hlen := length_le_sizes ks
  cases hv : validT (.mk k n ks) with
  | false =>
    have hz : termAt (.mk k n ks) xs = none := by rw [termAt, if_neg]; rw [hv]; exact Bool.false_ne_true
    rw [hz]
    clear hz
    go_enter Try.func64, Try.ntmps64
    go_wp2_with (go_at_call 50; refine (sTermValid_any k n ks A c _ (by omega) ((hr.alloc _).alloc _)).mono ?_; rw [hv]; rintro e w1 ⟨rfl, hb1⟩; have hB1 : Blk w1 w.heap.size #[.int .i64 k, .int .i64 n, .slice A ks.length c] := ((Blk.new_ w 29 #[.int .i64 k, .int .i64 n, .slice A ks.length c] rfl).alloc _).keep hb1; obtain ⟨p0, p1, p2⟩ := hB1.three; have hT1 : Blk w1 (w.heap.size + 1) #[.int .i64 0, .int .i64 0, .slice none 0 0] := (Blk.new_ _ 29 _ (by simp)).keep hb1; obtain ⟨d0, d1, d2⟩ := hT1.three; have e0 := hT1.frozen 0; have e1 := hT1.frozen 1; have e2 := hT1.frozen 2; replace hb1 : Below w.heap.size w w1 := (((Below.refl _ _).alloc (Nat.le_refl _) _).alloc (by simp) _).trans (hb1.mono (by simp; omega)))
    refine bodyPost_ret (v := .tuple #[zeroV, .bool false]) (by simp [results, Try.results64, go_sem, d0, d1, d2, zeroV]) rfl ⟨rfl, ?_⟩
    exact ((hb1.setCell (by simp) _).setCell (by simp) _).setCell (by simp) _
  | true =>
    cases hat : atT (.mk k n ks) xs with
    | none =>
      have hz : termAt (.mk k n ks) xs = none := by rw [termAt, if_pos hv, hat]
      rw [hz]
      have hat' := hide hat
      clear hz hat
      go_enter Try.func64, Try.ntmps64
      go_wp2_with (first
        | (go_at_call 111; refine (sAt_any k n ks A c xs P cp _ (by omega) hx (hr.below hb1) (hi.below hb1)).mono ?_; rw [hat'.out]; intro e w2 hgo; obtain ⟨he, hb2⟩ := seenO_none hgo; subst he; clear hgo; have hT2 := hT1.keep hb2; clear d0 d1 d2 p0 p1 p2; obtain ⟨d0, d1, d2⟩ := hT2.three; have f0 := hT2.frozen 0; have f1 := hT2.frozen 1; have f2 := hT2.frozen 2; have lT := hT2.lt; replace hb2 : Below w.heap.size w w2 := hb1.trans (hb2.mono hb1.size))
        | (go_at_call 50; refine (sTermValid_any k n ks A c _ (by omega) ((hr.alloc _).alloc _)).mono ?_; rw [hv]; rintro e w1 ⟨rfl, hb1⟩; have hB1 : Blk w1 w.heap.size #[.int .i64 k, .int .i64 n, .slice A ks.length c] := ((Blk.new_ w 29 #[.int .i64 k, .int .i64 n, .slice A ks.length c] rfl).alloc _).keep hb1; obtain ⟨p0, p1, p2⟩ := hB1.three; have hT1 : Blk w1 (w.heap.size + 1) #[.int .i64 0, .int .i64 0, .slice none 0 0] := (Blk.new_ _ 29 _ (by simp)).keep hb1; obtain ⟨d0, d1, d2⟩ := hT1.three; have e0 := hT1.frozen 0; have e1 := hT1.frozen 1; have e2 := hT1.frozen 2; replace hb1 : Below w.heap.size w w1 := (((Below.refl _ _).alloc (Nat.le_refl _) _).alloc (by simp) _).trans (hb1.mono (by simp; omega))))
      have y := fun (o : Obj) => (((((hT2.set_ 0 (.int .i64 0)).set_ 1 (.int .i64 0)).set_ 2 (.slice none 0 0)).alloc o : Blk _ _ #[.int .i64 0, .int .i64 0, .slice none 0 0])).three
      refine bodyPost_ret (v := .tuple #[zeroV, .bool false]) (by simp [results, Try.results64, go_sem, d0, d1, d2, zeroV, y]) rfl ⟨rfl, ?_⟩
      first
        | exact (((hb2.setCell (by simp) _).setCell (by simp) _).setCell (by simp) _).alloc (by have := hb2.size; simp; omega) _
        | exact ((((hb2.alloc hb2.size _)).setCell (by simp) _).setCell (by simp) _).setCell (by simp) _
    | some u =>
      obtain ⟨k2, n2, ks2⟩ := u
      have hvu := validT_size (atT_valid hat hv)
      rw [Tm.size] at hvu
      have hz : termAt (.mk k n ks) xs = some (.mk k2 n2 ks2) := by rw [termAt, if_pos hv, hat]
      rw [hz]
      have hat' := hide hat
      clear hz hat
      go_enter Try.func64, Try.ntmps64
      go_wp2_with (first
        | (go_at_call 112; refine (sCopy_any (sizes ks2 + 1) k2 n2 ks2 A2 c2 _ (by omega) (by omega) ((hr2.below hb12).alloc _)).mono ?_; rintro e w3 ⟨A3, c3, rfl, hl3, hf3, hb3⟩; have hT3 := (hT2.alloc _).keep hb3; clear d0 d1 d2; obtain ⟨d0, d1, d2⟩ := hT3.three; have f0 := hT3.frozen 0; have f1 := hT3.frozen 1; have f2 := hT3.frozen 2; replace hf3 := hf3.mono (B' := w.heap.size + 2) (by have := hT2.lt; simp; omega); replace hb3 : Below w.heap.size w w3 := (hb2.alloc hb2.size _).trans (hb3.mono (by have := hb2.size; simp; omega)))
        | (go_at_call 111; refine (sAt_any k n ks A c xs P cp _ (by omega) hx (hr.below hb1) (hi.below hb1)).mono ?_; rw [hat'.out]; intro e w2 hgo; obtain ⟨A2, c2, rfl, hl2, hr2, hb2⟩ := seenO_some hgo; clear hgo; have hb12 := hb2; have hT2 := hT1.keep hb2; clear d0 d1 d2 p0 p1 p2; obtain ⟨d0, d1, d2⟩ := hT2.three; replace hb2 : Below w.heap.size w w2 := hb1.trans (hb2.mono hb1.size))
        | (go_at_call 50; refine (sTermValid_any k n ks A c _ (by omega) ((hr.alloc _).alloc _)).mono ?_; rw [hv]; rintro e w1 ⟨rfl, hb1⟩; have hB1 : Blk w1 w.heap.size #[.int .i64 k, .int .i64 n, .slice A ks.length c] := ((Blk.new_ w 29 #[.int .i64 k, .int .i64 n, .slice A ks.length c] rfl).alloc _).keep hb1; obtain ⟨p0, p1, p2⟩ := hB1.three; have hT1 : Blk w1 (w.heap.size + 1) #[.int .i64 0, .int .i64 0, .slice none 0 0] := (Blk.new_ _ 29 _ (by simp)).keep hb1; obtain ⟨d0, d1, d2⟩ := hT1.three; have e0 := hT1.frozen 0; have e1 := hT1.frozen 1; have e2 := hT1.frozen 2; replace hb1 : Below w.heap.size w w1 := (((Below.refl _ _).alloc (Nat.le_refl _) _).alloc (by simp) _).trans (hb1.mono (by simp; omega))))
      refine bodyPost_ret (v := .tuple #[.agg #[.int .i64 k2, .int .i64 n2, .slice A3 ks2.length c3], .bool true]) (by simp [results, Try.results64, go_sem, d0, d1, d2]) rfl ⟨A3, c3, rfl, hl3, ?_, ?_⟩
      · exact (((hf3.setCell (by simp) _).setCell (by simp) _).setCell (by simp) _).mono (by omega)
      · exact ((hb3.setCell (by simp) _).setCell (by simp) _).setCell (by simp) _

set_option maxHeartbeats 2000000 in
set_option maxRecDepth 100000 in
theorem sDeep_any (k n : Int) (ks : List Tm) (A : Option Addr) (c : Nat) (w : World) (hM : sizes ks ≤ 1048576) (hr : Rd w A 0 ks) {k2 n2 : Int} {ks2 : List Tm} (hd : (if validT (.mk k n ks) = true then Tm.mk k n ks else .mk 0 0 []) = .mk k2 n2 ks2) :
    Calls Try.prog 66 #[.agg #[.int .i64 k, .int .i64 n, .slice A ks.length c]] w (GotT w k2 n2 ks2) := by
  cases hv : validT (.mk k n ks) with
  | false =>
    rw [if_neg (by rw [hv]; exact Bool.false_ne_true)] at hd
    injection hd with h1 h2 h3
    subst h1 h2 h3
    go_enter Try.func66, Try.ntmps66
    go_wp2_with (go_at_call 50; refine (sTermValid_any k n ks A c _ (by omega) ((hr.alloc _).alloc _)).mono ?_; rw [hv]; rintro e w1 ⟨rfl, hb1⟩; have hB1 : Blk w1 w.heap.size #[.int .i64 k, .int .i64 n, .slice A ks.length c] := ((Blk.new_ w 29 #[.int .i64 k, .int .i64 n, .slice A ks.length c] rfl).alloc _).keep hb1; obtain ⟨p0, p1, p2⟩ := hB1.three; have hT1 : Blk w1 (w.heap.size + 1) #[.int .i64 0, .int .i64 0, .slice none 0 0] := (Blk.new_ _ 29 _ (by simp)).keep hb1; obtain ⟨d0, d1, d2⟩ := hT1.three; have e0 := hT1.frozen 0; have e1 := hT1.frozen 1; have e2 := hT1.frozen 2; replace hb1 : Below w.heap.size w w1 := (((Below.refl _ _).alloc (Nat.le_refl _) _).alloc (by simp) _).trans (hb1.mono (by simp; omega)))
    refine bodyPost_ret (v := .agg #[.int .i64 0, .int .i64 0, .slice none 0 0]) (by simp [results, Try.results66, go_sem, d0, d1, d2]) rfl ⟨none, 0, rfl, by simp, Fresh.nil, ?_⟩
    exact ((hb1.setCell (by simp) _).setCell (by simp) _).setCell (by simp) _
  | true =>
    rw [if_pos hv] at hd
    injection hd with h1 h2 h3
    subst h1 h2 h3
    go_enter Try.func66, Try.ntmps66
    go_wp2_with (first
      | (go_at_call 112; refine (sCopy_any (sizes ks + 1) k n ks A c _ (by omega) (by omega) (hr.below hb1)).mono ?_; rintro e w3 ⟨A3, c3, rfl, hl3, hf3, hb3⟩; have hT3 := hT1.keep hb3; clear d0 d1 d2; obtain ⟨d0, d1, d2⟩ := hT3.three; have f0 := hT3.frozen 0; have f1 := hT3.frozen 1; have f2 := hT3.frozen 2; replace hf3 := hf3.mono (B' := w.heap.size + 2) (by have := hT1.lt; omega); replace hb3 : Below w.heap.size w w3 := hb1.trans (hb3.mono hb1.size))
      | (go_at_call 50; refine (sTermValid_any k n ks A c _ (by omega) ((hr.alloc _).alloc _)).mono ?_; rw [hv]; rintro e w1 ⟨rfl, hb1⟩; have hB1 : Blk w1 w.heap.size #[.int .i64 k, .int .i64 n, .slice A ks.length c] := ((Blk.new_ w 29 #[.int .i64 k, .int .i64 n, .slice A ks.length c] rfl).alloc _).keep hb1; obtain ⟨p0, p1, p2⟩ := hB1.three; have hT1 : Blk w1 (w.heap.size + 1) #[.int .i64 0, .int .i64 0, .slice none 0 0] := (Blk.new_ _ 29 _ (by simp)).keep hb1; obtain ⟨d0, d1, d2⟩ := hT1.three; have e0 := hT1.frozen 0; have e1 := hT1.frozen 1; have e2 := hT1.frozen 2; replace hb1 : Below w.heap.size w w1 := (((Below.refl _ _).alloc (Nat.le_refl _) _).alloc (by simp) _).trans (hb1.mono (by simp; omega))))
    refine bodyPost_ret (v := .agg #[.int .i64 k, .int .i64 n, .slice A3 ks.length c3]) (by simp [results, Try.results66, go_sem, d0, d1, d2]) rfl ⟨A3, c3, rfl, hl3, ?_, ?_⟩
    · exact (((hf3.setCell (by simp) _).setCell (by simp) _).setCell (by simp) _).mono (by omega)
    · exact ((hb3.setCell (by simp) _).setCell (by simp) _).setCell (by simp) _
end Go.Proofs.Ytefifcmieicnlaa
