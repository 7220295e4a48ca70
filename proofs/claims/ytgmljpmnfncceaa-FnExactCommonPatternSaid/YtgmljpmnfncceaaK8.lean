/-
  Texts that are common to the laws: PMatch. No condition.
-/
import Derived.Test.YtgmljpmnfncceaaK6

namespace Go.Proofs.Ytgmljpmnfncceaa
open Go.RowKit
set_option linter.unusedSimpArgs false
set_option linter.unusedVariables false

theorem validT_shape {t : Tm} (h : validT t = true) : shape 30 t = true := by simp only [validT, Bool.and_eq_true] at h; exact h.1
/-- shifting up behind shifting down, and the other way -/
theorem shS_up_down {d : Int} (hd : 0 ≤ d) (t : Tm) : ∀ c, kpS d c t = true → shS d c (shS (-d) c t) = t := by
  refine (Tm.ind2 (p := fun t => ∀ c, kpS d c t = true → shS d c (shS (-d) c t) = t) (q := fun ts => ∀ k c i, kpSL d k c i ts = true → shSL d k c i (shSL (-d) k c i ts) = ts) ?_ ?_ ?_).1 t
  · intro k n ks ih c h
    rw [kpS] at h
    split at h
    · cases h
    · rename_i hno
      rw [shS, shS, ih _ _ _ h]
      congr 1
      repeat' split
      all_goals omega
  · intro k c i _; simp [shSL]
  · intro t ts h1 h2 k c i h
    rw [kpSL, Bool.and_eq_true] at h
    rw [shSL, shSL, h1 _ h.1, h2 _ _ _ h.2]
end Go.Proofs.Ytgmljpmnfncceaa
