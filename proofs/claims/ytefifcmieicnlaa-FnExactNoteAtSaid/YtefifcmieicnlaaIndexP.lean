/-
  slices.IndexFunc over paths, with the closure of NoteAt. No condition.
-/
import Derived.Test.YtefifcmieicnlaaIntS
import Derived.Test.YtefifcmieicnlaaPlaces
namespace Go.Proofs.Ytefifcmieicnlaa
open Go.RowKit
set_option linter.unusedSimpArgs false
set_option linter.unusedVariables false

/-- a slice of paths that can be read -/
def RdPs (w : World) (A : Option Addr) (ps : List (List Int)) : Prop := ∀ j (hj : j < ps.length), ∃ b off B c, A = some ⟨b, off, none⟩ ∧ w.cell? ⟨b, off + j, none⟩ = some (.slice B ps[j].length c) ∧ RdI w B ps[j]
theorem RdPs.keeps {w w' : World} {A : Option Addr} {ps : List (List Int)} (h : RdPs w A ps) (hk : Keeps w w') : RdPs w' A ps := fun j hj => by
  obtain ⟨b, off, B, c, hA, hc, hi⟩ := h j hj; exact ⟨b, off, B, c, hA, hk _ _ hc, hi.keeps hk⟩
theorem RdPs.below {w w' : World} {A : Option Addr} {ps : List (List Int)} (h : RdPs w A ps) (hb : Below w.heap.size w w') : RdPs w' A ps := h.keeps (.of_below hb)

set_option maxHeartbeats 2000000 in
set_option maxRecDepth 100000 in
theorem noteAt1_any (p xs : List Int) (A P : Option Addr) (c cp bx : Nat) (w : World) (hp : p.length ≤ 9223372036854775807) (hx : xs.length ≤ 9223372036854775807) (hr : RdI w A p) (hi : RdI w P xs) (hB : Blk w bx #[.slice P xs.length cp]) :
    Calls Try.prog 71 #[.slice A p.length c, .pointer (some ⟨bx, 0, none⟩)] w fun e w' => e = .returned (.bool (decide (p = xs))) ∧ Below w.heap.size w w' := by
  have b0 := hB.at_ (i := 0) rfl
  generalize hdd : decide (p = xs) = dd
  have hdd' := hide hdd
  clear hdd
  go_enter Try.func71, Try.ntmps71
  go_wp2_with (go_at_call 72; refine (iEqual_any p xs A P c cp _ hp hx hr hi).mono ?_; rw [hdd'.out]; rintro e w1 ⟨rfl, hb1⟩)
  go_ret
  exact ⟨rfl, hb1⟩

set_option maxHeartbeats 2000000 in
set_option maxRecDepth 100000 in
theorem indexP_any (ps : List (List Int)) (xs : List Int) (I : Nat) (hI : ∀ i, ps[i]? = some xs ↔ i = I) (A P : Option Addr) (c cp bx : Nat) (w : World) (hps : ps.length ≤ 1000000000) (hpl : ∀ p, p ∈ ps → p.length ≤ 1000000000) (hx : xs.length ≤ 1000000000) (hr : RdPs w A ps) (hi : RdI w P xs) (hB : Blk w bx #[.slice P xs.length cp]) :
    Calls Try.prog 69 #[.slice A ps.length c, .func (.func 71) #[] #[.pointer (some ⟨bx, 0, none⟩)]] w fun e w' => e = .returned (.int .i64 I) ∧ Below w.heap.size w w' := by
  have hrun := run_enter Try.func71 (by kernel_rfl) (by kernel_rfl)
  have hIl : I < ps.length := (List.getElem?_eq_some_iff.1 ((hI I).2 rfl)).1
  have hI' := hide hI
  have hpl' := hide hpl
  clear hI hpl
  go_enter Try.func69, Try.ntmps69
  go_wp2_with fail
  go_loopw [8] (fun i wr => ∃ j : Nat, j ≤ I ∧ i = .int .i64 j ∧ Below w.heap.size w wr) (fun i _ => ps.length - (intOf i).toNat)
  case atStart => exact ⟨0, Nat.zero_le _, rfl, Below.refl _ _⟩
  case round =>
    obtain ⟨j, hj, rfl, hb⟩ := hrel
    have hlt : j < ps.length := by omega
    obtain ⟨b, off, B, cb, rfl, hc, hib⟩ := (hr.below hb) j hlt
    have hlp := hpl'.out _ (List.getElem_mem hlt)
    generalize hpj : ps[j] = p at hc hib hlp
    have hpj' := hide hpj
    have hlt0 : (j : Int) < (ps.length : Int) := by omega
    clear hpj
    by_cases hjI : j = I
    · subst hjI
      have hpe : p = xs := by
        have h1 := (hI'.out j).2 rfl
        rw [List.getElem?_eq_getElem hlt, hpj'.out] at h1
        injection h1
      have hd : decide (p = xs) = true := decide_eq_true hpe
      have hd' := hide hd
      clear hd hpe
      go_wp2_with (refine (noteAt1_any p xs B P cb cp bx _ (by omega) (by omega) hib (hi.below hb) (hB.keep hb)).mono ?_; rw [hd'.out]; rintro e w3 ⟨rfl, hb3⟩)
      go_ret
      exact ⟨rfl, hb.trans (hb3.mono hb.size)⟩
    · have hd : decide (p = xs) = false := decide_eq_false (fun e => hjI ((hI'.out j).1 (by rw [List.getElem?_eq_getElem hlt, hpj'.out, e])))
      have hjI' := hide hjI
      have hlt2 : j + 1 ≤ I := by omega
      clear hjI
      have hd' := hide hd
      clear hd
      go_wp2_with (refine (noteAt1_any p xs B P cb cp bx _ (by omega) (by omega) hib (hi.below hb) (hB.keep hb)).mono ?_; rw [hd'.out]; rintro e w3 ⟨rfl, hb3⟩)
      go_roundw
      case rel => exact ⟨j + 1, by omega, by go_num, hb.trans (hb3.mono hb.size)⟩
      case measure => simp [intOf]; omega
end Go.Proofs.Ytefifcmieicnlaa
