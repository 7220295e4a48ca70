/-
  Contracts of the functions that the law reaches, and plain lemmas. No condition.
-/
import Derived.Test.YtodkenpmhhbppaaK9
import Derived.Test.YtodkenpmhhbppaaK13
import Derived.Test.YtodkenpmhhbppaaK17
import Derived.Test.YtodkenpmhhbppaaK18
namespace Go.Proofs.Ytodkenpmhhbppaa
set_option linter.unusedSimpArgs false
set_option linter.unusedVariables false
open Go.RowKit
/-- the terms drws -/
def drws : List Tm := [(.mk 5 0 [(.mk 4 0 [(.mk 6 0 []), (.mk 4 0 [(.mk 6 0 []), (.mk 9 0 [(.mk 4 0 [(.mk 6 0 []), (.mk 6 0 [])]), (.mk 1 1 []), (.mk 4 0 [(.mk 6 0 []), (.mk 4 0 [(.mk 6 0 []), (.mk 8 0 [(.mk 1 0 [])])])]), (.mk 1 0 [])])])]), (.mk 8 0 [(.mk 8 0 [(.mk 7 0 [])])])]), (.mk 5 0 [(.mk 5 0 [(.mk 4 0 [(.mk 6 0 []), (.mk 4 0 [(.mk 6 0 []), (.mk 9 0 [(.mk 4 0 [(.mk 6 0 []), (.mk 6 0 [])]), (.mk 1 1 []), (.mk 4 0 [(.mk 6 0 []), (.mk 4 0 [(.mk 6 0 []), (.mk 8 0 [(.mk 1 0 [])])])]), (.mk 1 0 [])])])]), (.mk 8 0 [(.mk 8 0 [(.mk 7 0 [])])])]), (.mk 8 0 [(.mk 7 0 [])])]), (.mk 5 0 [(.mk 4 0 [(.mk 6 0 []), (.mk 8 0 [(.mk 1 0 [])])]), (.mk 5 0 [(.mk 4 0 [(.mk 6 0 []), (.mk 8 0 [(.mk 8 0 [(.mk 1 0 [])])])]), (.mk 7 0 [])])]), (.mk 15 0 [(.mk 14 0 [(.mk 13 0 [(.mk 6 0 []), (.mk 6 0 [])]), (.mk 5 0 [(.mk 4 0 [(.mk 6 0 []), (.mk 1 0 [])]), (.mk 7 0 [])]), (.mk 8 0 [(.mk 7 0 [])])])]), (.mk 16 0 [(.mk 14 0 [(.mk 13 0 [(.mk 6 0 []), (.mk 6 0 [])]), (.mk 7 0 []), (.mk 5 0 [(.mk 4 0 [(.mk 6 0 []), (.mk 8 0 [(.mk 1 0 [])])]), (.mk 7 0 [])])])]), (.mk 12 0 [(.mk 4 0 [(.mk 6 0 []), (.mk 10 0 [(.mk 6 0 []), (.mk 7 0 []), (.mk 1 0 [])])]), (.mk 11 0 [(.mk 7 0 [])]), (.mk 11 0 [(.mk 7 0 [])])]), (.mk 5 0 [(.mk 4 0 [(.mk 2 0 []), (.mk 4 0 [(.mk 1 0 []), (.mk 1 0 [])])]), (.mk 6 0 [])]), (.mk 5 0 [(.mk 4 0 [(.mk 6 0 []), (.mk 5 0 [(.mk 1 0 []), (.mk 1 0 [])])]), (.mk 4 0 [(.mk 6 0 []), (.mk 1 0 [])])]), (.mk 5 0 [(.mk 4 0 [(.mk 6 0 []), (.mk 5 0 [(.mk 1 0 []), (.mk 1 0 [])])]), (.mk 4 0 [(.mk 6 0 []), (.mk 5 0 [(.mk 1 0 []), (.mk 1 0 [])])])]), (.mk 9 0 [(.mk 4 0 [(.mk 6 0 []), (.mk 2 0 [])]), (.mk 6 0 []), (.mk 4 0 [(.mk 6 0 []), (.mk 4 0 [(.mk 2 0 []), (.mk 3 0 [(.mk 6 0 []), (.mk 1 1 [])])])]), (.mk 8 0 [(.mk 8 0 [(.mk 8 0 [(.mk 7 0 [])])])])]), (.mk 4 0 [(.mk 6 0 []), (.mk 5 0 [(.mk 4 0 [(.mk 6 0 []), (.mk 5 0 [(.mk 1 0 []), (.mk 1 1 [])])]), (.mk 1 0 [])])]), (.mk 5 0 [(.mk 5 0 [(.mk 4 0 [(.mk 3 0 [(.mk 6 0 []), (.mk 6 0 [])]), (.mk 4 0 [(.mk 6 0 []), (.mk 5 0 [(.mk 1 1 []), (.mk 5 0 [(.mk 1 1 []), (.mk 1 0 [])])])])]), (.mk 4 0 [(.mk 6 0 []), (.mk 8 0 [(.mk 1 0 [])])])]), (.mk 1 0 [])]), (.mk 9 0 [(.mk 4 0 [(.mk 6 0 []), (.mk 6 0 [])]), (.mk 7 0 []), (.mk 4 0 [(.mk 6 0 []), (.mk 4 0 [(.mk 6 0 []), (.mk 1 1 [])])]), (.mk 5 0 [(.mk 4 0 [(.mk 6 0 []), (.mk 8 0 [(.mk 1 0 [])])]), (.mk 1 2 [])])])]
def drwsX : List (List UInt8) := [[40, 91, 78, 93, 91, 78, 93, 60, 91, 78, 93, 78, 44, 35, 49, 44, 91, 78, 93, 91, 78, 93, 43, 35, 48, 44, 35, 48, 62, 32, 43, 43, 48, 41], [40, 40, 91, 78, 93, 91, 78, 93, 60, 91, 78, 93, 78, 44, 35, 49, 44, 91, 78, 93, 91, 78, 93, 43, 35, 48, 44, 35, 48, 62, 32, 43, 43, 48, 41, 32, 43, 48, 41], [40, 91, 78, 93, 43, 35, 48, 32, 40, 91, 78, 93, 43, 43, 35, 48, 32, 48, 41, 41], [94, 124, 40, 78, 42, 78, 41, 44, 40, 91, 78, 93, 35, 48, 32, 48, 41, 44, 43, 48, 124], [95, 124, 40, 78, 42, 78, 41, 44, 48, 44, 40, 91, 78, 93, 43, 35, 48, 32, 48, 41, 124], [64, 60, 91, 78, 93, 123, 78, 44, 48, 44, 35, 48, 125, 44, 33, 48, 44, 33, 48, 62], [40, 91, 42, 48, 93, 91, 35, 48, 93, 35, 48, 32, 78, 41], [40, 91, 78, 93, 40, 35, 48, 32, 35, 48, 41, 32, 91, 78, 93, 35, 48, 41], [40, 91, 78, 93, 40, 35, 48, 32, 35, 48, 41, 32, 91, 78, 93, 40, 35, 48, 32, 35, 48, 41, 41], [60, 91, 78, 93, 42, 48, 44, 78, 44, 91, 78, 93, 91, 42, 48, 93, 40, 78, 62, 35, 49, 41, 44, 43, 43, 43, 48, 62], [91, 78, 93, 40, 91, 78, 93, 40, 35, 48, 32, 35, 49, 41, 32, 35, 48, 41], [40, 40, 91, 40, 78, 62, 78, 41, 93, 91, 78, 93, 40, 35, 49, 32, 40, 35, 49, 32, 35, 48, 41, 41, 32, 91, 78, 93, 43, 35, 48, 41, 32, 35, 48, 41], [60, 91, 78, 93, 78, 44, 48, 44, 91, 78, 93, 91, 78, 93, 35, 49, 44, 40, 91, 78, 93, 43, 35, 48, 32, 35, 50, 41, 62]]
theorem drws_0 : Good (.mk 5 0 [(.mk 4 0 [(.mk 6 0 []), (.mk 4 0 [(.mk 6 0 []), (.mk 9 0 [(.mk 4 0 [(.mk 6 0 []), (.mk 6 0 [])]), (.mk 1 1 []), (.mk 4 0 [(.mk 6 0 []), (.mk 4 0 [(.mk 6 0 []), (.mk 8 0 [(.mk 1 0 [])])])]), (.mk 1 0 [])])])]), (.mk 8 0 [(.mk 8 0 [(.mk 7 0 [])])])]) [40, 91, 78, 93, 91, 78, 93, 60, 91, 78, 93, 78, 44, 35, 49, 44, 91, 78, 93, 91, 78, 93, 43, 35, 48, 44, 35, 48, 62, 32, 43, 43, 48, 41] := ⟨Tx.cast (.rnd 29 5 32 _ _ _ _ (.inr (.inr ⟨rfl, rfl⟩)) (.lam 28 _ _ _ _ (.nat 27) (.lam 27 _ _ _ _ (.nat 26) (tx4 (.inl ⟨rfl, rfl, rfl, rfl⟩) (.lam 25 _ _ _ _ (.nat 24) (.nat 24)) (.var 25 1 49 (by decide)) (.lam 25 _ _ _ _ (.nat 24) (.lam 24 _ _ _ _ (.nat 23) (.pre 23 8 43 _ _ (.inl ⟨rfl, rfl⟩) (.var 22 0 48 (by decide))))) (.var 25 0 48 (by decide))))) (.pre 28 8 43 _ _ (.inl ⟨rfl, rfl⟩) (.pre 27 8 43 _ _ (.inl ⟨rfl, rfl⟩) (.zero 26)))) (by simp [ser]), by decide +kernel, by decide⟩
theorem drws_1 : Good (.mk 5 0 [(.mk 5 0 [(.mk 4 0 [(.mk 6 0 []), (.mk 4 0 [(.mk 6 0 []), (.mk 9 0 [(.mk 4 0 [(.mk 6 0 []), (.mk 6 0 [])]), (.mk 1 1 []), (.mk 4 0 [(.mk 6 0 []), (.mk 4 0 [(.mk 6 0 []), (.mk 8 0 [(.mk 1 0 [])])])]), (.mk 1 0 [])])])]), (.mk 8 0 [(.mk 8 0 [(.mk 7 0 [])])])]), (.mk 8 0 [(.mk 7 0 [])])]) [40, 40, 91, 78, 93, 91, 78, 93, 60, 91, 78, 93, 78, 44, 35, 49, 44, 91, 78, 93, 91, 78, 93, 43, 35, 48, 44, 35, 48, 62, 32, 43, 43, 48, 41, 32, 43, 48, 41] := ⟨Tx.cast (.rnd 29 5 32 _ _ _ _ (.inr (.inr ⟨rfl, rfl⟩)) (.rnd 28 5 32 _ _ _ _ (.inr (.inr ⟨rfl, rfl⟩)) (.lam 27 _ _ _ _ (.nat 26) (.lam 26 _ _ _ _ (.nat 25) (tx4 (.inl ⟨rfl, rfl, rfl, rfl⟩) (.lam 24 _ _ _ _ (.nat 23) (.nat 23)) (.var 24 1 49 (by decide)) (.lam 24 _ _ _ _ (.nat 23) (.lam 23 _ _ _ _ (.nat 22) (.pre 22 8 43 _ _ (.inl ⟨rfl, rfl⟩) (.var 21 0 48 (by decide))))) (.var 24 0 48 (by decide))))) (.pre 27 8 43 _ _ (.inl ⟨rfl, rfl⟩) (.pre 26 8 43 _ _ (.inl ⟨rfl, rfl⟩) (.zero 25)))) (.pre 28 8 43 _ _ (.inl ⟨rfl, rfl⟩) (.zero 27))) (by simp [ser]), by decide +kernel, by decide⟩
theorem drws_2 : Good (.mk 5 0 [(.mk 4 0 [(.mk 6 0 []), (.mk 8 0 [(.mk 1 0 [])])]), (.mk 5 0 [(.mk 4 0 [(.mk 6 0 []), (.mk 8 0 [(.mk 8 0 [(.mk 1 0 [])])])]), (.mk 7 0 [])])]) [40, 91, 78, 93, 43, 35, 48, 32, 40, 91, 78, 93, 43, 43, 35, 48, 32, 48, 41, 41] := ⟨Tx.cast (.rnd 29 5 32 _ _ _ _ (.inr (.inr ⟨rfl, rfl⟩)) (.lam 28 _ _ _ _ (.nat 27) (.pre 27 8 43 _ _ (.inl ⟨rfl, rfl⟩) (.var 26 0 48 (by decide)))) (.rnd 28 5 32 _ _ _ _ (.inr (.inr ⟨rfl, rfl⟩)) (.lam 27 _ _ _ _ (.nat 26) (.pre 26 8 43 _ _ (.inl ⟨rfl, rfl⟩) (.pre 25 8 43 _ _ (.inl ⟨rfl, rfl⟩) (.var 24 0 48 (by decide))))) (.zero 27))) (by simp [ser]), by decide +kernel, by decide⟩
theorem drws_3 : Good (.mk 15 0 [(.mk 14 0 [(.mk 13 0 [(.mk 6 0 []), (.mk 6 0 [])]), (.mk 5 0 [(.mk 4 0 [(.mk 6 0 []), (.mk 1 0 [])]), (.mk 7 0 [])]), (.mk 8 0 [(.mk 7 0 [])])])]) [94, 124, 40, 78, 42, 78, 41, 44, 40, 91, 78, 93, 35, 48, 32, 48, 41, 44, 43, 48, 124] := ⟨Tx.cast (.pre 29 15 94 _ _ (.inr (.inr (.inl ⟨rfl, rfl⟩))) (tx3 (.inr (.inr (.inl ⟨rfl, rfl, rfl, rfl⟩))) (.rnd 27 13 42 _ _ _ _ (.inr (.inl ⟨rfl, rfl⟩)) (.nat 26) (.nat 26)) (.rnd 27 5 32 _ _ _ _ (.inr (.inr ⟨rfl, rfl⟩)) (.lam 26 _ _ _ _ (.nat 25) (.var 25 0 48 (by decide))) (.zero 26)) (.pre 27 8 43 _ _ (.inl ⟨rfl, rfl⟩) (.zero 26)))) (by simp [ser]), by decide +kernel, by decide⟩
theorem drws_4 : Good (.mk 16 0 [(.mk 14 0 [(.mk 13 0 [(.mk 6 0 []), (.mk 6 0 [])]), (.mk 7 0 []), (.mk 5 0 [(.mk 4 0 [(.mk 6 0 []), (.mk 8 0 [(.mk 1 0 [])])]), (.mk 7 0 [])])])]) [95, 124, 40, 78, 42, 78, 41, 44, 48, 44, 40, 91, 78, 93, 43, 35, 48, 32, 48, 41, 124] := ⟨Tx.cast (.pre 29 16 95 _ _ (.inr (.inr (.inr ⟨rfl, rfl⟩))) (tx3 (.inr (.inr (.inl ⟨rfl, rfl, rfl, rfl⟩))) (.rnd 27 13 42 _ _ _ _ (.inr (.inl ⟨rfl, rfl⟩)) (.nat 26) (.nat 26)) (.zero 27) (.rnd 27 5 32 _ _ _ _ (.inr (.inr ⟨rfl, rfl⟩)) (.lam 26 _ _ _ _ (.nat 25) (.pre 25 8 43 _ _ (.inl ⟨rfl, rfl⟩) (.var 24 0 48 (by decide)))) (.zero 26)))) (by simp [ser]), by decide +kernel, by decide⟩
theorem drws_5 : Good (.mk 12 0 [(.mk 4 0 [(.mk 6 0 []), (.mk 10 0 [(.mk 6 0 []), (.mk 7 0 []), (.mk 1 0 [])])]), (.mk 11 0 [(.mk 7 0 [])]), (.mk 11 0 [(.mk 7 0 [])])]) [64, 60, 91, 78, 93, 123, 78, 44, 48, 44, 35, 48, 125, 44, 33, 48, 44, 33, 48, 62] := ⟨Tx.cast (tx3 (.inr (.inr (.inr ⟨rfl, rfl, rfl, rfl⟩))) (.lam 28 _ _ _ _ (.nat 27) (tx3 (.inr (.inl ⟨rfl, rfl, rfl, rfl⟩)) (.nat 26) (.zero 26) (.var 26 0 48 (by decide)))) (.pre 28 11 33 _ _ (.inr (.inl ⟨rfl, rfl⟩)) (.zero 27)) (.pre 28 11 33 _ _ (.inr (.inl ⟨rfl, rfl⟩)) (.zero 27))) (by simp [ser]), by decide +kernel, by decide⟩
theorem drws_6 : Good (.mk 5 0 [(.mk 4 0 [(.mk 2 0 []), (.mk 4 0 [(.mk 1 0 []), (.mk 1 0 [])])]), (.mk 6 0 [])]) [40, 91, 42, 48, 93, 91, 35, 48, 93, 35, 48, 32, 78, 41] := ⟨Tx.cast (.rnd 29 5 32 _ _ _ _ (.inr (.inr ⟨rfl, rfl⟩)) (.lam 28 _ _ _ _ (.sort 27 0 48 (by decide)) (.lam 27 _ _ _ _ (.var 26 0 48 (by decide)) (.var 26 0 48 (by decide)))) (.nat 28)) (by simp [ser]), by decide +kernel, by decide⟩
theorem drws_7 : Good (.mk 5 0 [(.mk 4 0 [(.mk 6 0 []), (.mk 5 0 [(.mk 1 0 []), (.mk 1 0 [])])]), (.mk 4 0 [(.mk 6 0 []), (.mk 1 0 [])])]) [40, 91, 78, 93, 40, 35, 48, 32, 35, 48, 41, 32, 91, 78, 93, 35, 48, 41] := ⟨Tx.cast (.rnd 29 5 32 _ _ _ _ (.inr (.inr ⟨rfl, rfl⟩)) (.lam 28 _ _ _ _ (.nat 27) (.rnd 27 5 32 _ _ _ _ (.inr (.inr ⟨rfl, rfl⟩)) (.var 26 0 48 (by decide)) (.var 26 0 48 (by decide)))) (.lam 28 _ _ _ _ (.nat 27) (.var 27 0 48 (by decide)))) (by simp [ser]), by decide +kernel, by decide⟩
theorem drws_8 : Good (.mk 5 0 [(.mk 4 0 [(.mk 6 0 []), (.mk 5 0 [(.mk 1 0 []), (.mk 1 0 [])])]), (.mk 4 0 [(.mk 6 0 []), (.mk 5 0 [(.mk 1 0 []), (.mk 1 0 [])])])]) [40, 91, 78, 93, 40, 35, 48, 32, 35, 48, 41, 32, 91, 78, 93, 40, 35, 48, 32, 35, 48, 41, 41] := ⟨Tx.cast (.rnd 29 5 32 _ _ _ _ (.inr (.inr ⟨rfl, rfl⟩)) (.lam 28 _ _ _ _ (.nat 27) (.rnd 27 5 32 _ _ _ _ (.inr (.inr ⟨rfl, rfl⟩)) (.var 26 0 48 (by decide)) (.var 26 0 48 (by decide)))) (.lam 28 _ _ _ _ (.nat 27) (.rnd 27 5 32 _ _ _ _ (.inr (.inr ⟨rfl, rfl⟩)) (.var 26 0 48 (by decide)) (.var 26 0 48 (by decide))))) (by simp [ser]), by decide +kernel, by decide⟩
theorem drws_9 : Good (.mk 9 0 [(.mk 4 0 [(.mk 6 0 []), (.mk 2 0 [])]), (.mk 6 0 []), (.mk 4 0 [(.mk 6 0 []), (.mk 4 0 [(.mk 2 0 []), (.mk 3 0 [(.mk 6 0 []), (.mk 1 1 [])])])]), (.mk 8 0 [(.mk 8 0 [(.mk 8 0 [(.mk 7 0 [])])])])]) [60, 91, 78, 93, 42, 48, 44, 78, 44, 91, 78, 93, 91, 42, 48, 93, 40, 78, 62, 35, 49, 41, 44, 43, 43, 43, 48, 62] := ⟨Tx.cast (tx4 (.inl ⟨rfl, rfl, rfl, rfl⟩) (.lam 28 _ _ _ _ (.nat 27) (.sort 27 0 48 (by decide))) (.nat 28) (.lam 28 _ _ _ _ (.nat 27) (.lam 27 _ _ _ _ (.sort 26 0 48 (by decide)) (.rnd 26 3 62 _ _ _ _ (.inl ⟨rfl, rfl⟩) (.nat 25) (.var 25 1 49 (by decide))))) (.pre 28 8 43 _ _ (.inl ⟨rfl, rfl⟩) (.pre 27 8 43 _ _ (.inl ⟨rfl, rfl⟩) (.pre 26 8 43 _ _ (.inl ⟨rfl, rfl⟩) (.zero 25))))) (by simp [ser]), by decide +kernel, by decide⟩
theorem drws_10 : Good (.mk 4 0 [(.mk 6 0 []), (.mk 5 0 [(.mk 4 0 [(.mk 6 0 []), (.mk 5 0 [(.mk 1 0 []), (.mk 1 1 [])])]), (.mk 1 0 [])])]) [91, 78, 93, 40, 91, 78, 93, 40, 35, 48, 32, 35, 49, 41, 32, 35, 48, 41] := ⟨Tx.cast (.lam 29 _ _ _ _ (.nat 28) (.rnd 28 5 32 _ _ _ _ (.inr (.inr ⟨rfl, rfl⟩)) (.lam 27 _ _ _ _ (.nat 26) (.rnd 26 5 32 _ _ _ _ (.inr (.inr ⟨rfl, rfl⟩)) (.var 25 0 48 (by decide)) (.var 25 1 49 (by decide)))) (.var 27 0 48 (by decide)))) (by simp [ser]), by decide +kernel, by decide⟩
theorem drws_11 : Good (.mk 5 0 [(.mk 5 0 [(.mk 4 0 [(.mk 3 0 [(.mk 6 0 []), (.mk 6 0 [])]), (.mk 4 0 [(.mk 6 0 []), (.mk 5 0 [(.mk 1 1 []), (.mk 5 0 [(.mk 1 1 []), (.mk 1 0 [])])])])]), (.mk 4 0 [(.mk 6 0 []), (.mk 8 0 [(.mk 1 0 [])])])]), (.mk 1 0 [])]) [40, 40, 91, 40, 78, 62, 78, 41, 93, 91, 78, 93, 40, 35, 49, 32, 40, 35, 49, 32, 35, 48, 41, 41, 32, 91, 78, 93, 43, 35, 48, 41, 32, 35, 48, 41] := ⟨Tx.cast (.rnd 29 5 32 _ _ _ _ (.inr (.inr ⟨rfl, rfl⟩)) (.rnd 28 5 32 _ _ _ _ (.inr (.inr ⟨rfl, rfl⟩)) (.lam 27 _ _ _ _ (.rnd 26 3 62 _ _ _ _ (.inl ⟨rfl, rfl⟩) (.nat 25) (.nat 25)) (.lam 26 _ _ _ _ (.nat 25) (.rnd 25 5 32 _ _ _ _ (.inr (.inr ⟨rfl, rfl⟩)) (.var 24 1 49 (by decide)) (.rnd 24 5 32 _ _ _ _ (.inr (.inr ⟨rfl, rfl⟩)) (.var 23 1 49 (by decide)) (.var 23 0 48 (by decide)))))) (.lam 27 _ _ _ _ (.nat 26) (.pre 26 8 43 _ _ (.inl ⟨rfl, rfl⟩) (.var 25 0 48 (by decide))))) (.var 28 0 48 (by decide))) (by simp [ser]), by decide +kernel, by decide⟩
theorem drws_12 : Good (.mk 9 0 [(.mk 4 0 [(.mk 6 0 []), (.mk 6 0 [])]), (.mk 7 0 []), (.mk 4 0 [(.mk 6 0 []), (.mk 4 0 [(.mk 6 0 []), (.mk 1 1 [])])]), (.mk 5 0 [(.mk 4 0 [(.mk 6 0 []), (.mk 8 0 [(.mk 1 0 [])])]), (.mk 1 2 [])])]) [60, 91, 78, 93, 78, 44, 48, 44, 91, 78, 93, 91, 78, 93, 35, 49, 44, 40, 91, 78, 93, 43, 35, 48, 32, 35, 50, 41, 62] := ⟨Tx.cast (tx4 (.inl ⟨rfl, rfl, rfl, rfl⟩) (.lam 28 _ _ _ _ (.nat 27) (.nat 27)) (.zero 28) (.lam 28 _ _ _ _ (.nat 27) (.lam 27 _ _ _ _ (.nat 26) (.var 26 1 49 (by decide)))) (.rnd 28 5 32 _ _ _ _ (.inr (.inr ⟨rfl, rfl⟩)) (.lam 27 _ _ _ _ (.nat 26) (.pre 26 8 43 _ _ (.inl ⟨rfl, rfl⟩) (.var 25 0 48 (by decide)))) (.var 27 2 50 (by decide)))) (by simp [ser]), by decide +kernel, by decide⟩
theorem drws_good : GoodL drws drwsX := ⟨drws_0, drws_1, drws_2, drws_3, drws_4, drws_5, drws_6, drws_7, drws_8, drws_9, drws_10, drws_11, drws_12, trivial⟩
open Go.RowKit
set_option maxHeartbeats 2000000 in
set_option maxRecDepth 100000 in
theorem of_any (xs : List (List UInt8)) (B r p g : Nat) (w : World) (hx : 0 < xs.length) (hx2 : xs.length ≤ 1000) (hp : p ≤ 1000000000) (hB : B ≤ w.heap.size) (hr : Rdr B w r p) (hL : Blk w g (strs xs)) (hg : r ≠ g) :
    Calls Try.prog 122 #[.pointer (some ⟨r, 0, none⟩), .slice (some ⟨g, 0, none⟩) xs.length xs.length] w fun e w' => ∃ (m : Nat) (h : m < xs.length), e = .returned (.string (byt xs[m])) ∧ Rdr B w' r (p + 1) ∧ w.grownBy w' (some r) := by
  go_enter Try.func122, Try.ntmps122
  go_wp2_with (go_at_call 52; refine (pick_any B r p xs.length _ hp (by omega) hB hr).mono ?_; rintro e w1 ⟨m, rfl, hm, hm0, hr1, hg1⟩; have hm := hm (by omega); clear hm0; have hm' : m < xs.length := (by omega); have hc : w1.cell? ⟨g, m, none⟩ = some (.string (byt xs[m])) := (hL.grown hg1 (by simpa using hg.symm)).at_ (strs_get hm'))
  go_ret
  exact ⟨m, hm', rfl, hr1, hg1⟩
def plusX : List UInt8 := [91, 78, 93, 91, 78, 93, 60, 91, 78, 93, 78, 44, 35, 49, 44, 91, 78, 93, 91, 78, 93, 43, 35, 48, 44, 35, 48, 62]
set_option maxHeartbeats 2000000 in
set_option maxRecDepth 100000 in
theorem plus_any (w : World) : Calls Try.prog 123 #[] w fun e w' => e = .returned (.string (byt plusX)) ∧ w = w' := by
  go_enter Try.func123, Try.ntmps123
  go_wp2_with fail
  go_ret
  exact ⟨rfl, rfl⟩
open Go.RowKit
theorem drws_small {k n : Int} {ks : List Tm} (h : Tm.mk k n ks ∈ drws) : sizes ks ≤ 60 := by
  have h1 : (drws.all fun t => decide (t.size ≤ 61)) = true := by decide
  have := of_decide_eq_true (List.all_eq_true.1 h1 _ h)
  rw [Tm.size] at this
  omega
theorem drws_hi3 {t : Tm} (h : t ∈ drws) : hid 12 t = true := by
  have h1 : (drws.all (hid 12)) = true := by decide +kernel
  exact List.all_eq_true.1 h1 _ h
set_option maxHeartbeats 8000000 in
set_option maxRecDepth 100000 in
theorem l3draw_any (B r p : Nat) (w : World) (hp : p ≤ 890000000) (hB : B ≤ w.heap.size) (hr : Rdr B w r p) : Calls Try.prog 78 #[.pointer (some ⟨r, 0, none⟩)] w (DrawnT B w r p 1030 341 12) := by
  have hrl := hr.lt
  have a1 : ∀ w, (Op.stringOp .add ⟨#[40]⟩ (byt plusX)).run Try.prog w = .ok (.string (byt [40, 91, 78, 93, 91, 78, 93, 60, 91, 78, 93, 78, 44, 35, 49, 44, 91, 78, 93, 91, 78, 93, 43, 35, 48, 44, 35, 48, 62])) w := fun w => add_strE (a := [40]) (b := plusX) rfl (by decide) w
  have a2 : ∀ w, (Op.stringOp .add (byt [40, 91, 78, 93, 91, 78, 93, 60, 91, 78, 93, 78, 44, 35, 49, 44, 91, 78, 93, 91, 78, 93, 43, 35, 48, 44, 35, 48, 62]) ⟨#[32, 43, 43, 48, 41]⟩).run Try.prog w = .ok (.string (byt [40, 91, 78, 93, 91, 78, 93, 60, 91, 78, 93, 78, 44, 35, 49, 44, 91, 78, 93, 91, 78, 93, 43, 35, 48, 44, 35, 48, 62, 32, 43, 43, 48, 41])) w := fun w => add_strE (a := [40, 91, 78, 93, 91, 78, 93, 60, 91, 78, 93, 78, 44, 35, 49, 44, 91, 78, 93, 91, 78, 93, 43, 35, 48, 44, 35, 48, 62]) (b := [32, 43, 43, 48, 41]) rfl (by decide) w
  have a3 : ∀ w, (Op.stringOp .add ⟨#[40, 40]⟩ (byt plusX)).run Try.prog w = .ok (.string (byt [40, 40, 91, 78, 93, 91, 78, 93, 60, 91, 78, 93, 78, 44, 35, 49, 44, 91, 78, 93, 91, 78, 93, 43, 35, 48, 44, 35, 48, 62])) w := fun w => add_strE (a := [40, 40]) (b := plusX) rfl (by decide) w
  have a4 : ∀ w, (Op.stringOp .add (byt [40, 40, 91, 78, 93, 91, 78, 93, 60, 91, 78, 93, 78, 44, 35, 49, 44, 91, 78, 93, 91, 78, 93, 43, 35, 48, 44, 35, 48, 62]) ⟨#[32, 43, 43, 48, 41, 32, 43, 48, 41]⟩).run Try.prog w = .ok (.string (byt [40, 40, 91, 78, 93, 91, 78, 93, 60, 91, 78, 93, 78, 44, 35, 49, 44, 91, 78, 93, 91, 78, 93, 43, 35, 48, 44, 35, 48, 62, 32, 43, 43, 48, 41, 32, 43, 48, 41])) w := fun w => add_strE (a := [40, 40, 91, 78, 93, 91, 78, 93, 60, 91, 78, 93, 78, 44, 35, 49, 44, 91, 78, 93, 91, 78, 93, 43, 35, 48, 44, 35, 48, 62]) (b := [32, 43, 43, 48, 41, 32, 43, 48, 41]) rfl (by decide) w
  go_enter Try.func78, Try.ntmps78
  go_wp2_with (first
    | (go_at_call 110; refine (parseTerm_any hgood.out _).mono ?_; rintro e w2 ⟨A2, c2, rfl, hl2, hf2, hb2⟩; have tok2 := trivial)
    | (go_at_call 122; refine (of_any drwsX B r p (w.heap.size + 1) _ (by decide) (by decide) (by omega) (by simp; omega) ((hr.alloc (by omega) _).alloc (by simp; omega) _) (Blk.new_ _ 9 (strs drwsX) (by simp)) (by omega)).mono ?_; rintro e w1 ⟨m, hm, rfl, hr1, hg1⟩; have hm13 : m < drws.length := hm; obtain ⟨k, n, ks, hk⟩ := tm_eta drws[m]; have hgood := hide (drws_good.at_ m (.mk k n ks) drwsX[m] (by rw [List.getElem?_eq_getElem hm13, hk]) (List.getElem?_eq_getElem hm)); have hsm := drws_small (k := k) (n := n) (ks := ks) (hk ▸ List.getElem_mem hm13); have h3c := drws_hi3 (t := .mk k n ks) (hk ▸ List.getElem_mem hm13); clear hk; have hZ : Blk w1 w.heap.size #[.int .i64 0, .int .i64 0, .slice none 0 0] := ((Blk.new_ w 25 #[.int .i64 0, .int .i64 0, .slice none 0 0] rfl).alloc _).grown hg1 (by simp; omega); have g1 : w.grownBy w1 (some r) := grown_trans (only_alloc (only_alloc (World.grownBy.refl _ _) _) _) hg1; have s1 := g1.size; have lz1 := hZ.lt)
    | (go_at_call 123; refine (plus_any _).mono ?_; rintro e w' ⟨rfl, rfl⟩))
  replace hZ := hZ.keep hb2
  have g2 := only_below g1 hb2
  have s2 := hb2.size
  refine (pick_any B r (p + 1) 3 _ (by omega) (by omega) (by simp; omega) ((hr1.below hb2 (by omega)).alloc (by omega) _)).mono ?_
  rintro e w3 ⟨m3, rfl, hm3, hm30, hr3, hg3⟩
  clear hm3 hm30
  have hX := (Blk.new_ w2 25 #[.int .i64 k, .int .i64 n, .slice A2 ks.length c2] rfl).grown hg3 (by simp; omega)
  replace hZ := (hZ.alloc (.cells #[.int .i64 k, .int .i64 n, .slice A2 ks.length c2] 25)).grown hg3 (by simp; omega)
  have g3 := grown_trans (only_alloc g2 (.cells #[.int .i64 k, .int .i64 n, .slice A2 ks.length c2] 25)) hg3
  have s3 := g3.size
  have f3 := (hf2.alloc (.cells #[.int .i64 k, .int .i64 n, .slice A2 ks.length c2] 25)).keep (fun b h1 h2 => hg3.block b h2 (by simp; omega))
  obtain ⟨x0, x1, x2⟩ := hX.three
  have lx := hX.lt
  have lz := hZ.lt
  by_cases h0 : m3 = 0
  · have q0 : ¬ 0 < m3 := by omega
    clear h0
    go_wp2_with (go_at_call 53; refine (any_any B r (p + 1 + 1) _ (by omega) (by omega) hr3).mono ?_; rintro e w4 ⟨k4, n4, ks4, A4, c4, p4, rfl, hl4, hs4, h34, hp4, hf4, hr4, hg4⟩; replace hZ := hZ.grown hg4 (by simp; omega); obtain ⟨d0, d1, d2⟩ := hZ.three; have e0 := hZ.frozen 0; have e1 := hZ.frozen 1; have e2 := hZ.frozen 2)
    have g4 := grown_trans g3 hg4
    refine bodyPost_ret (v := .agg #[.int .i64 k4, .int .i64 n4, .slice A4 ks4.length c4]) (by simp [results, Try.results78, go_sem, d0, d1, d2]) rfl ⟨k4, n4, ks4, A4, c4, p4, rfl, hl4, by omega, hid_up (by omega) h34, by omega, ?_, ?_, ?_⟩
    · exact (((hf4.setCell (by simp; omega) _).setCell (by simp; omega) _).setCell (by simp; omega) _).mono (by omega)
    · exact ((hr4.setCell (by simp; omega) _).setCell (by simp; omega) _).setCell (by simp; omega) _
    · exact only_setCell (only_setCell (only_setCell g4 (.inr (by simp)) _) (.inr (by simp)) _) (.inr (by simp)) _
  · have q0 : 0 < m3 := by omega
    clear h0
    obtain ⟨d0, d1, d2⟩ := hZ.three
    have e0 := hZ.frozen 0
    have e1 := hZ.frozen 1
    have e2 := hZ.frozen 2
    go_wp2_with fail
    refine bodyPost_ret (v := .agg #[.int .i64 k, .int .i64 n, .slice A2 ks.length c2]) (by simp [results, Try.results78, go_sem, d0, d1, d2]) rfl ⟨k, n, ks, A2, c2, _, rfl, hl2, by omega, h3c, (by omega : p + 1 + 1 ≤ p + 1030), ?_, ?_, ?_⟩
    · exact (((f3.setCell (by simp; omega) _).setCell (by simp; omega) _).setCell (by simp; omega) _).mono (by omega)
    · exact ((hr3.setCell (by simp; omega) _).setCell (by simp; omega) _).setCell (by simp; omega) _
    · exact only_setCell (only_setCell (only_setCell g3 (.inr (by simp)) _) (.inr (by simp)) _) (.inr (by simp)) _
open Go.RowKit
theorem pats_hid {t : Tm} (h : t ∈ pats) : hid 12 t = true ∧ t.size ≤ 100 := by
  have h1 : (pats.all fun t => hid 12 t && decide (t.size ≤ 100)) = true := by decide +kernel
  have := List.all_eq_true.1 h1 _ h
  rw [Bool.and_eq_true, decide_eq_true_eq] at this
  exact this
theorem holes3 {z : Int} (h : z ∈ ([1, 2, 3, 0, 2] : List Int)) : ∃ m : Nat, z = m ∧ m ≤ 6 := by
  simp only [List.mem_cons, List.not_mem_nil, or_false] at h
  exact ⟨z.toNat, by omega, by omega⟩
/-- a pattern, its number of holes, two terms -/
def DrawnRw (w : World) (e : Ending) (w' : World) : Prop :=
  ∃ (kp np : Int) (sp : List Tm) (Ap : Option Addr) (cp m : Nat) (kq nq : Int) (sq : List Tm) (Aq : Option Addr) (cq : Nat) (kt nt : Int) (st : List Tm) (At : Option Addr) (ct : Nat),
    e = .returned (.tuple #[.agg #[.int .i64 kp, .int .i64 np, .slice Ap sp.length cp], .int .i64 m, .agg #[.int .i64 kq, .int .i64 nq, .slice Aq sq.length cq], .agg #[.int .i64 kt, .int .i64 nt, .slice At st.length ct]]) ∧ m ≤ 6 ∧ sizes sp ≤ 1000 ∧ sizes sq ≤ 1000 ∧ sizes st ≤ 1000 ∧
    Hid (validT (.mk kp np sp) = true → hid 13 (.mk kp np sp) = true) ∧ Hid (hid 13 (.mk kq nq sq) = true) ∧ Hid (validT (.mk kt nt st) = true → hid 13 (.mk kt nt st) = true) ∧ Rd w' Ap 0 sp ∧ Rd w' Aq 0 sq ∧ Rd w' At 0 st ∧ Below w.heap.size w w'
set_option maxHeartbeats 16000000 in
set_option maxRecDepth 100000 in
theorem drawRw_any (bs : List Int) (A : Option Addr) (c : Nat) (w : World) (hl : bs.length ≤ 9223372036854775807) (hc : bs.length ≤ c) (hr : RdY w A bs) : Calls Try.prog 47 #[.slice A bs.length c] w (DrawnRw w) := by
  have hK : KD 2 = 63 := rfl
  have hS : SD 2 = 21 := rfl
  go_enter Try.func47, Try.ntmps47
  go_wp2_with (first
    | (go_at_call 78; refine (l3draw_any w1.heap.size r p3 _ (by omega) (by simp; omega) (hr3.alloc (by omega) _)).mono ?_; rintro e w4 ⟨kt, nt, st, At, ct, p4, rfl, hl4, hs4, h34, hp4, hf4, hr4, hg4⟩)
    | (go_at_call 75; refine (draw_any 2 w1.heap.size r 2 _ (by omega) (by simp; omega) (hr2.alloc (by omega) _)).mono ?_; rintro e w3 ⟨kq, nq, sq, Aq, cq, p3, rfl, hl3, hs3, h33, hp3, hf3, hr3, hg3⟩; have s3 : w2.heap.size + 1 ≤ w3.heap.size := (by have := hg3.size; simpa using this))
    | (go_at_call 51; refine (pattern_any w1.heap.size r 0 _ (by omega) (Nat.le_refl _) hr1).mono ?_; rintro e w2 ⟨kp, np, sp, z, Ap, cp, hmem, hz, rfl, hl2, hk2, hr2, hg2⟩; have hps := hide (pats_hid hmem); obtain ⟨m, rfl, hm⟩ := holes3 hz; clear hmem hz; have s2 := hg2.size)
    | (go_at_call 50; refine (open_any bs A c _ hl hc (((hr.keeps (.alloc _ _)).keeps (.alloc _ _)).keeps (.alloc _ _))).mono ?_; rintro e w1 ⟨r, rfl, hr0, hrlt, hr1, hb1⟩; have hZ : Blk w1 w.heap.size #[.int .i64 0, .int .i64 0, .slice none 0 0] := (((Blk.new_ w 25 #[.int .i64 0, .int .i64 0, .slice none 0 0] rfl).alloc (.cells #[.int .i64 0, .int .i64 0, .slice none 0 0] 25)).alloc (.cells #[.int .i64 0, .int .i64 0, .slice none 0 0] 25)).keep hb1; have hY : Blk w1 (w.heap.size + 1) #[.int .i64 0, .int .i64 0, .slice none 0 0] := ((Blk.new_ (n := w.heap.size + 1) (w.alloc (.cells #[.int .i64 0, .int .i64 0, .slice none 0 0] 25)) 25 #[.int .i64 0, .int .i64 0, .slice none 0 0] (by simp)).alloc (.cells #[.int .i64 0, .int .i64 0, .slice none 0 0] 25)).keep hb1; have hV : Blk w1 (w.heap.size + 1 + 1) #[.int .i64 0, .int .i64 0, .slice none 0 0] := (Blk.new_ (n := w.heap.size + 1 + 1) ((w.alloc (.cells #[.int .i64 0, .int .i64 0, .slice none 0 0] 25)).alloc (.cells #[.int .i64 0, .int .i64 0, .slice none 0 0] 25)) 25 #[.int .i64 0, .int .i64 0, .slice none 0 0] (by simp)).keep hb1; have g1 : Below w.heap.size w w1 := ((((Below.refl _ _).alloc (Nat.le_refl _) _).alloc (by simp) _).alloc (by simp; omega) _).trans (hb1.mono (by simp; omega)); have s1 : w.heap.size + 1 + 1 + 1 ≤ w1.heap.size := (by have := hb1.size; simpa using this); have hr0' : w.heap.size + 3 ≤ r := (by simpa using hr0)))
  have s4 : w3.heap.size + 1 ≤ w4.heap.size := by have := hg4.size; simpa using this
  have hps1 := hps.out.1
  have hps2 := hps.out.2
  rw [Tm.size] at hps2
  have h3p := hide hps1
  have h3q := hide h33
  have h3t := hide h34
  clear hps hps1 h33 h34
  have g23 : w2.grownBy w3 (some r) := grown_trans (only_alloc (World.grownBy.refl _ _) _) hg3
  have g34 : w3.grownBy w4 (some r) := grown_trans (only_alloc (World.grownBy.refl _ _) _) hg4
  have g24 := grown_trans g23 g34
  have g14 := grown_trans hg2 g24
  have hX4 : Blk w4 w2.heap.size #[.int .i64 kp, .int .i64 np, .slice Ap sp.length cp] := ((Blk.new_ w2 25 #[.int .i64 kp, .int .i64 np, .slice Ap sp.length cp] rfl).grown hg3 (by simp; omega)).grown g34 (by simp; omega)
  have hQ4 : Blk w4 w3.heap.size #[.int .i64 kq, .int .i64 nq, .slice Aq sq.length cq] := (Blk.new_ w3 25 #[.int .i64 kq, .int .i64 nq, .slice Aq sq.length cq] rfl).grown hg4 (by simp; omega)
  have hZ4 := hZ.grown g14 (by simp; omega)
  have hY4 := hY.grown g14 (by simp; omega)
  have hV4 := hV.grown g14 (by simp; omega)
  have hp4' := hk2.grown g24 (fun b hb => by have := hb.1; simp; omega)
  have hq4' := (hf3.rdp.mono (q := fun b => w2.heap.size + 1 ≤ b ∧ b < w3.heap.size) (fun b hb => by have h1 := hb.1; simp at h1; exact ⟨by omega, hb.2⟩)).grown g34 (fun b hb => by simp; omega)
  have ht4' := hf4.rdp.mono (q := fun b => w3.heap.size + 1 ≤ b ∧ b < w4.heap.size) (fun b hb => by have h1 := hb.1; simp at h1; exact ⟨by omega, hb.2⟩)
  refine name_world ?_
  intro wx hwx
  have hXx : Blk wx w2.heap.size #[.int .i64 kp, .int .i64 np, .slice Ap sp.length cp] := by rw [hwx]; exact hX4.alloc _
  have hQx : Blk wx w3.heap.size #[.int .i64 kq, .int .i64 nq, .slice Aq sq.length cq] := by rw [hwx]; exact hQ4.alloc _
  have hTx : Blk wx w4.heap.size #[.int .i64 kt, .int .i64 nt, .slice At st.length ct] := by rw [hwx]; exact Blk.new_ _ _ _ rfl
  have hZx : Blk wx w.heap.size #[.int .i64 0, .int .i64 0, .slice none 0 0] := by rw [hwx]; exact hZ4.alloc _
  have hYx : Blk wx (w.heap.size + 1) #[.int .i64 0, .int .i64 0, .slice none 0 0] := by rw [hwx]; exact hY4.alloc _
  have hVx : Blk wx (w.heap.size + 1 + 1) #[.int .i64 0, .int .i64 0, .slice none 0 0] := by rw [hwx]; exact hV4.alloc _
  have kpx : RdP (fun b => w1.heap.size ≤ b) wx Ap 0 sp := by rw [hwx]; exact (hp4'.mono (fun b hb => hb.1)).alloc _
  have kqx : RdP (fun b => w1.heap.size ≤ b) wx Aq 0 sq := by rw [hwx]; exact (hq4'.mono (fun b hb => by omega)).alloc _
  have ktx : RdP (fun b => w1.heap.size ≤ b) wx At 0 st := by rw [hwx]; exact (ht4'.mono (fun b hb => by omega)).alloc _
  have hRx : Rdr w1.heap.size wx r p4 := by rw [hwx]; exact hr4.alloc (by omega) _
  have hGx : w1.grownBy wx (some r) := by rw [hwx]; exact only_alloc g14 _
  clear hwx
  have sx := hGx.size
  have lX := hXx.lt
  have lQ := hQx.lt
  have lT := hTx.lt
  refine wp_region_firstY (fun w' => w'.cell? ⟨w2.heap.size, 0, none⟩ = some (.int .i64 kp) ∧ w'.cell? ⟨w2.heap.size, 1, none⟩ = some (.int .i64 np) ∧ w'.cell? ⟨w2.heap.size, 2, none⟩ = some (.slice Ap sp.length cp) ∧ w'.cell? ⟨w3.heap.size, 0, none⟩ = some (.int .i64 kq) ∧ w'.cell? ⟨w3.heap.size, 1, none⟩ = some (.int .i64 nq) ∧ w'.cell? ⟨w3.heap.size, 2, none⟩ = some (.slice Aq sq.length cq) ∧ w'.cell? ⟨w4.heap.size, 0, none⟩ = some (.int .i64 kt) ∧ w'.cell? ⟨w4.heap.size, 1, none⟩ = some (.int .i64 nt) ∧ w'.cell? ⟨w4.heap.size, 2, none⟩ = some (.slice At st.length ct)) [0, 1, 3, 4, 5, 6] [2, 7, 8, 9, 10] [11] [_, _, _, _, _, _] [_, _, _, _, _] [_] (by kernel_rfl) (by kernel_rfl) rfl rfl rfl (fun _ _ d _ _ h => by cases d <;> exact h) ⟨hXx.drew.at_ rfl, hXx.drew.at_ rfl, hXx.drew.at_ rfl, hQx.drew.at_ rfl, hQx.drew.at_ rfl, hQx.drew.at_ rfl, hTx.drew.at_ rfl, hTx.drew.at_ rfl, hTx.drew.at_ rfl⟩ ?_
  repeat (first | ((refine takeY_skip (a' := ?_) ?_ ?_ ?_); (rotate_left); (· (simp [Region.wanted, yielded, Go.undef]; done)); (· (simp only [List.getElem_toArray, List.getElem_cons_zero, List.getElem_cons_succ, Act.put, List.setIfInBounds_toArray, List.set_cons_zero, List.set_cons_succ]; exact rfl))) | ((refine takeY_step (v := ?_) (a' := ?_) ?_ ?_ ?_ ?_); (rotate_left 2); (· (simp [Region.wanted, yielded, Go.undef]; done)); (· (intro w' hS'; obtain ⟨s0, s1, s2, s3, s4, s5, s6, s7, s8⟩ := hS'; go_simp; try (with_reducible rfl))); (· (simp only [List.getElem_toArray, List.getElem_cons_zero, List.getElem_cons_succ, Act.put, List.setIfInBounds_toArray, List.set_cons_zero, List.set_cons_succ]; exact rfl))))
  refine takeY_nil (then_cons ?_)
  go_wp2_with (go_at_call 54; refine (mutate_any w1.heap.size r p4 11 kp np sp Ap cp _ (by omega) (by simp; omega) hRx.drew (by omega) h3p.out kpx.drew.rd).mono ?_; rintro e wa ⟨ka, na, sa, Aa, ca, pa, rfl, hla, hsa, h3a, hpa, hka, hRa, hga⟩)
  have hxa : wx.grownBy wa (some r) := grown_trans (only_drew (World.grownBy.refl _ _)) hga
  have hXa := hXx.grown hxa (by simp; omega)
  have hQa := hQx.grown hxa (by simp; omega)
  have hTa := hTx.grown hxa (by simp; omega)
  refine mid_intro ⟨hXa.at_ rfl, hXa.at_ rfl, hXa.at_ rfl, hQa.at_ rfl, hQa.at_ rfl, hQa.at_ rfl, hTa.at_ rfl, hTa.at_ rfl, hTa.at_ rfl⟩ (then_cons ?_)
  have sza : wx.heap.size ≤ wa.heap.size := hxa.size
  have kta := ktx.grown hxa (fun b hb => by simp; omega)
  go_wp2_with (go_at_call 54; refine (mutate_any w1.heap.size r pa 11 kt nt st At ct _ (by omega) (by omega) hRa (by omega) h3t.out kta.rd).mono ?_; rintro e wb ⟨kb, nb, sb, Ab, cb, pb, rfl, hlb, hsb, h3b, hpb, hkb, hRb, hgb⟩)
  have hxb : wx.grownBy wb (some r) := grown_trans hxa hgb
  have hXb := hXx.grown hxb (by simp; omega)
  have hQb := hQx.grown hxb (by simp; omega)
  have hTb := hTx.grown hxb (by simp; omega)
  refine mid_intro ⟨hXb.at_ rfl, hXb.at_ rfl, hXb.at_ rfl, hQb.at_ rfl, hQb.at_ rfl, hQb.at_ rfl, hTb.at_ rfl, hTb.at_ rfl, hTb.at_ rfl⟩ (then_cons ?_)
  have szb := hgb.size
  have hZb := hZx.grown hxb (by simp; omega)
  have hYb := hYx.grown hxb (by simp; omega)
  have hVb := hVx.grown hxb (by simp; omega)
  have d0 := hZb.at_ (i := 0) rfl
  have d1 := hZb.at_ (i := 1) rfl
  have d2 := hZb.at_ (i := 2) rfl
  have e0 := hZb.frozen 0
  have e1 := hZb.frozen 1
  have e2 := hZb.frozen 2
  have v0 := hYb.at_ (i := 0) rfl
  have v1 := hYb.at_ (i := 1) rfl
  have v2 := hYb.at_ (i := 2) rfl
  have u0 := hYb.frozen 0
  have u1 := hYb.frozen 1
  have u2 := hYb.frozen 2
  have y0 := hVb.at_ (i := 0) rfl
  have y1 := hVb.at_ (i := 1) rfl
  have y2 := hVb.at_ (i := 2) rfl
  have z0 := hVb.frozen 0
  have z1 := hVb.frozen 1
  have z2 := hVb.frozen 2
  have gb := grown_trans hGx hxb
  have kab := (hka.grown hgb (fun b hb => by have h1 : wx.heap.size ≤ b := hb.1; simp; omega)).mono (q := fun b => wx.heap.size ≤ b) (fun b hb => hb.1)
  have kbb := hkb.mono (q := fun b => wx.heap.size ≤ b) (fun b hb => by have := hb.1; omega)
  have kqb := kqx.grown hxb (fun b hb => by simp; omega)
  have n1 : w.heap.size ≠ w.heap.size + 1 := by omega
  have n2 : w.heap.size + 1 ≠ w.heap.size := by omega
  have n3 : w.heap.size ≠ w.heap.size + 1 + 1 := by omega
  have n4 : w.heap.size + 1 + 1 ≠ w.heap.size := by omega
  have n5 : w.heap.size + 1 ≠ w.heap.size + 1 + 1 := by omega
  have n6 : w.heap.size + 1 + 1 ≠ w.heap.size + 1 := by omega
  go_wp2_with fail
  have hXc := ((hXb.far (p := ⟨w.heap.size, 0, none⟩) (by simp; omega) (.int .i64 ka)).far (p := ⟨w.heap.size, 1, none⟩) (by simp; omega) (.int .i64 na)).far (p := ⟨w.heap.size, 2, none⟩) (by simp; omega) (.slice Aa sa.length ca)
  have hQc := ((hQb.far (p := ⟨w.heap.size, 0, none⟩) (by simp; omega) (.int .i64 ka)).far (p := ⟨w.heap.size, 1, none⟩) (by simp; omega) (.int .i64 na)).far (p := ⟨w.heap.size, 2, none⟩) (by simp; omega) (.slice Aa sa.length ca)
  have hTc := ((hTb.far (p := ⟨w.heap.size, 0, none⟩) (by simp; omega) (.int .i64 ka)).far (p := ⟨w.heap.size, 1, none⟩) (by simp; omega) (.int .i64 na)).far (p := ⟨w.heap.size, 2, none⟩) (by simp; omega) (.slice Aa sa.length ca)
  refine mid_intro ⟨hXc.at_ rfl, hXc.at_ rfl, hXc.at_ rfl, hQc.at_ rfl, hQc.at_ rfl, hQc.at_ rfl, hTc.at_ rfl, hTc.at_ rfl, hTc.at_ rfl⟩ (then_cons ?_)
  go_wp2_with fail
  refine mid_intro ⟨hXc.at_ rfl, hXc.at_ rfl, hXc.at_ rfl, hQc.at_ rfl, hQc.at_ rfl, hQc.at_ rfl, hTc.at_ rfl, hTc.at_ rfl, hTc.at_ rfl⟩ (then_cons ?_)
  go_wp2_with fail
  have hXd := ((hXc.far (p := ⟨w.heap.size + 1, 0, none⟩) (by simp; omega) (.int .i64 kq)).far (p := ⟨w.heap.size + 1, 1, none⟩) (by simp; omega) (.int .i64 nq)).far (p := ⟨w.heap.size + 1, 2, none⟩) (by simp; omega) (.slice Aq sq.length cq)
  have hQd := ((hQc.far (p := ⟨w.heap.size + 1, 0, none⟩) (by simp; omega) (.int .i64 kq)).far (p := ⟨w.heap.size + 1, 1, none⟩) (by simp; omega) (.int .i64 nq)).far (p := ⟨w.heap.size + 1, 2, none⟩) (by simp; omega) (.slice Aq sq.length cq)
  have hTd := ((hTc.far (p := ⟨w.heap.size + 1, 0, none⟩) (by simp; omega) (.int .i64 kq)).far (p := ⟨w.heap.size + 1, 1, none⟩) (by simp; omega) (.int .i64 nq)).far (p := ⟨w.heap.size + 1, 2, none⟩) (by simp; omega) (.slice Aq sq.length cq)
  refine mid_intro ⟨hXd.at_ rfl, hXd.at_ rfl, hXd.at_ rfl, hQd.at_ rfl, hQd.at_ rfl, hQd.at_ rfl, hTd.at_ rfl, hTd.at_ rfl, hTd.at_ rfl⟩ (then_nil ?_)
  go_wp2_with fail
  refine bodyPost_ret (v := .tuple #[.agg #[.int .i64 ka, .int .i64 na, .slice Aa sa.length ca], .int .i64 m, .agg #[.int .i64 kq, .int .i64 nq, .slice Aq sq.length cq], .agg #[.int .i64 kb, .int .i64 nb, .slice Ab sb.length cb]]) (by simp [results, Try.results47, go_sem, d0, d1, d2, v0, v1, v2, y0, y1, y2, n1, n2, n3, n4, n5, n6]) rfl ⟨ka, na, sa, Aa, ca, m, kq, nq, sq, Aq, cq, kb, nb, sb, Ab, cb, rfl, hm, by omega, by omega, by omega, hide h3a, hide (hid_up (by omega) h3q.out), hide h3b, ?_, ?_, ?_, ?_⟩
  · exact (((((((((kab.setCell (by simp; omega) _).setCell (by simp; omega) _).setCell (by simp; omega) _).setCell (by simp; omega) _).setCell (by simp; omega) _).setCell (by simp; omega) _).setCell (by simp; omega) _).setCell (by simp; omega) _).setCell (by simp; omega) _).rd
  · exact (((((((((kqb.setCell (by simp; omega) _).setCell (by simp; omega) _).setCell (by simp; omega) _).setCell (by simp; omega) _).setCell (by simp; omega) _).setCell (by simp; omega) _).setCell (by simp; omega) _).setCell (by simp; omega) _).setCell (by simp; omega) _).rd
  · exact (((((((((kbb.setCell (by simp; omega) _).setCell (by simp; omega) _).setCell (by simp; omega) _).setCell (by simp; omega) _).setCell (by simp; omega) _).setCell (by simp; omega) _).setCell (by simp; omega) _).setCell (by simp; omega) _).setCell (by simp; omega) _).rd
  · exact ((((((((((g1.trans (grown_below gb (by omega) (by omega))).setCell (by first | (simp; done) | (simp; omega)) _).setCell (by first | (simp; done) | (simp; omega)) _).setCell (by first | (simp; done) | (simp; omega)) _).setCell (by first | (simp; done) | (simp; omega)) _).setCell (by first | (simp; done) | (simp; omega)) _).setCell (by first | (simp; done) | (simp; omega)) _).setCell (by first | (simp; done) | (simp; omega)) _).setCell (by first | (simp; done) | (simp; omega)) _).setCell (by first | (simp; done) | (simp; omega)) _)
end Go.Proofs.Ytodkenpmhhbppaa
