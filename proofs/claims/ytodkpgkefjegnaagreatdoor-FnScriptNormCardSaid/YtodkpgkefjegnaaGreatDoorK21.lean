/-
  Contracts of the functions that the law reaches, and plain lemmas. No condition.
-/
import Derived.Test.YtodkpgkefjegnaaGreatDoorK3
import Derived.Test.YtodkpgkefjegnaaGreatDoorK6
import Derived.Test.YtodkpgkefjegnaaGreatDoorK7
import Derived.Test.YtodkpgkefjegnaaGreatDoorK8
import Derived.Test.YtodkpgkefjegnaaGreatDoorK11
import Derived.Test.YtodkpgkefjegnaaGreatDoorK20
namespace Go.Proofs.YtodkpgkefjegnaaGreatDoor
set_option linter.unusedSimpArgs false
set_option linter.unusedVariables false
open Go.RowKit
/-- the terms drws -/
def drws : List Tm := [(.mk 5 0 [(.mk 4 0 [(.mk 6 0 []), (.mk 4 0 [(.mk 6 0 []), (.mk 9 0 [(.mk 4 0 [(.mk 6 0 []), (.mk 6 0 [])]), (.mk 1 1 []), (.mk 4 0 [(.mk 6 0 []), (.mk 4 0 [(.mk 6 0 []), (.mk 8 0 [(.mk 1 0 [])])])]), (.mk 1 0 [])])])]), (.mk 8 0 [(.mk 8 0 [(.mk 7 0 [])])])]), (.mk 5 0 [(.mk 5 0 [(.mk 4 0 [(.mk 6 0 []), (.mk 4 0 [(.mk 6 0 []), (.mk 9 0 [(.mk 4 0 [(.mk 6 0 []), (.mk 6 0 [])]), (.mk 1 1 []), (.mk 4 0 [(.mk 6 0 []), (.mk 4 0 [(.mk 6 0 []), (.mk 8 0 [(.mk 1 0 [])])])]), (.mk 1 0 [])])])]), (.mk 8 0 [(.mk 8 0 [(.mk 7 0 [])])])]), (.mk 8 0 [(.mk 7 0 [])])]), (.mk 5 0 [(.mk 4 0 [(.mk 6 0 []), (.mk 8 0 [(.mk 1 0 [])])]), (.mk 5 0 [(.mk 4 0 [(.mk 6 0 []), (.mk 8 0 [(.mk 8 0 [(.mk 1 0 [])])])]), (.mk 7 0 [])])]), (.mk 15 0 [(.mk 14 0 [(.mk 13 0 [(.mk 6 0 []), (.mk 6 0 [])]), (.mk 5 0 [(.mk 4 0 [(.mk 6 0 []), (.mk 1 0 [])]), (.mk 7 0 [])]), (.mk 8 0 [(.mk 7 0 [])])])]), (.mk 16 0 [(.mk 14 0 [(.mk 13 0 [(.mk 6 0 []), (.mk 6 0 [])]), (.mk 7 0 []), (.mk 5 0 [(.mk 4 0 [(.mk 6 0 []), (.mk 8 0 [(.mk 1 0 [])])]), (.mk 7 0 [])])])]), (.mk 12 0 [(.mk 4 0 [(.mk 6 0 []), (.mk 10 0 [(.mk 6 0 []), (.mk 7 0 []), (.mk 1 0 [])])]), (.mk 11 0 [(.mk 7 0 [])]), (.mk 11 0 [(.mk 7 0 [])])]), (.mk 5 0 [(.mk 4 0 [(.mk 2 0 []), (.mk 4 0 [(.mk 1 0 []), (.mk 1 0 [])])]), (.mk 6 0 [])]), (.mk 5 0 [(.mk 4 0 [(.mk 6 0 []), (.mk 5 0 [(.mk 1 0 []), (.mk 1 0 [])])]), (.mk 4 0 [(.mk 6 0 []), (.mk 1 0 [])])]), (.mk 5 0 [(.mk 4 0 [(.mk 6 0 []), (.mk 5 0 [(.mk 1 0 []), (.mk 1 0 [])])]), (.mk 4 0 [(.mk 6 0 []), (.mk 5 0 [(.mk 1 0 []), (.mk 1 0 [])])])]), (.mk 9 0 [(.mk 4 0 [(.mk 6 0 []), (.mk 2 0 [])]), (.mk 6 0 []), (.mk 4 0 [(.mk 6 0 []), (.mk 4 0 [(.mk 2 0 []), (.mk 3 0 [(.mk 6 0 []), (.mk 1 1 [])])])]), (.mk 8 0 [(.mk 8 0 [(.mk 8 0 [(.mk 7 0 [])])])])]), (.mk 4 0 [(.mk 6 0 []), (.mk 5 0 [(.mk 4 0 [(.mk 6 0 []), (.mk 5 0 [(.mk 1 0 []), (.mk 1 1 [])])]), (.mk 1 0 [])])]), (.mk 5 0 [(.mk 5 0 [(.mk 4 0 [(.mk 3 0 [(.mk 6 0 []), (.mk 6 0 [])]), (.mk 4 0 [(.mk 6 0 []), (.mk 5 0 [(.mk 1 1 []), (.mk 5 0 [(.mk 1 1 []), (.mk 1 0 [])])])])]), (.mk 4 0 [(.mk 6 0 []), (.mk 8 0 [(.mk 1 0 [])])])]), (.mk 1 0 [])]), (.mk 9 0 [(.mk 4 0 [(.mk 6 0 []), (.mk 6 0 [])]), (.mk 7 0 []), (.mk 4 0 [(.mk 6 0 []), (.mk 4 0 [(.mk 6 0 []), (.mk 1 1 [])])]), (.mk 5 0 [(.mk 4 0 [(.mk 6 0 []), (.mk 8 0 [(.mk 1 0 [])])]), (.mk 1 2 [])])])]
def drwsX : List (List UInt8) := [[40, 91, 78, 93, 91, 78, 93, 60, 91, 78, 93, 78, 44, 35, 49, 44, 91, 78, 93, 91, 78, 93, 43, 35, 48, 44, 35, 48, 62, 32, 43, 43, 48, 41], [40, 40, 91, 78, 93, 91, 78, 93, 60, 91, 78, 93, 78, 44, 35, 49, 44, 91, 78, 93, 91, 78, 93, 43, 35, 48, 44, 35, 48, 62, 32, 43, 43, 48, 41, 32, 43, 48, 41], [40, 91, 78, 93, 43, 35, 48, 32, 40, 91, 78, 93, 43, 43, 35, 48, 32, 48, 41, 41], [94, 124, 40, 78, 42, 78, 41, 44, 40, 91, 78, 93, 35, 48, 32, 48, 41, 44, 43, 48, 124], [95, 124, 40, 78, 42, 78, 41, 44, 48, 44, 40, 91, 78, 93, 43, 35, 48, 32, 48, 41, 124], [64, 60, 91, 78, 93, 123, 78, 44, 48, 44, 35, 48, 125, 44, 33, 48, 44, 33, 48, 62], [40, 91, 42, 48, 93, 91, 35, 48, 93, 35, 48, 32, 78, 41], [40, 91, 78, 93, 40, 35, 48, 32, 35, 48, 41, 32, 91, 78, 93, 35, 48, 41], [40, 91, 78, 93, 40, 35, 48, 32, 35, 48, 41, 32, 91, 78, 93, 40, 35, 48, 32, 35, 48, 41, 41], [60, 91, 78, 93, 42, 48, 44, 78, 44, 91, 78, 93, 91, 42, 48, 93, 40, 78, 62, 35, 49, 41, 44, 43, 43, 43, 48, 62], [91, 78, 93, 40, 91, 78, 93, 40, 35, 48, 32, 35, 49, 41, 32, 35, 48, 41], [40, 40, 91, 40, 78, 62, 78, 41, 93, 91, 78, 93, 40, 35, 49, 32, 40, 35, 49, 32, 35, 48, 41, 41, 32, 91, 78, 93, 43, 35, 48, 41, 32, 35, 48, 41], [60, 91, 78, 93, 78, 44, 48, 44, 91, 78, 93, 91, 78, 93, 35, 49, 44, 40, 91, 78, 93, 43, 35, 48, 32, 35, 50, 41, 62]]
theorem drws_0 : Good (.mk 5 0 [(.mk 4 0 [(.mk 6 0 []), (.mk 4 0 [(.mk 6 0 []), (.mk 9 0 [(.mk 4 0 [(.mk 6 0 []), (.mk 6 0 [])]), (.mk 1 1 []), (.mk 4 0 [(.mk 6 0 []), (.mk 4 0 [(.mk 6 0 []), (.mk 8 0 [(.mk 1 0 [])])])]), (.mk 1 0 [])])])]), (.mk 8 0 [(.mk 8 0 [(.mk 7 0 [])])])]) [40, 91, 78, 93, 91, 78, 93, 60, 91, 78, 93, 78, 44, 35, 49, 44, 91, 78, 93, 91, 78, 93, 43, 35, 48, 44, 35, 48, 62, 32, 43, 43, 48, 41] := ⟨Tx.cast (.rnd 29 5 32 _ _ _ _ (.inr (.inr ⟨rfl, rfl⟩)) (.lam 28 _ _ _ _ (.nat 27) (.lam 27 _ _ _ _ (.nat 26) (tx4 (.inl ⟨rfl, rfl, rfl, rfl⟩) (.lam 25 _ _ _ _ (.nat 24) (.nat 24)) (.var 25 1 49 (by decide)) (.lam 25 _ _ _ _ (.nat 24) (.lam 24 _ _ _ _ (.nat 23) (.pre 23 8 43 _ _ (.inl ⟨rfl, rfl⟩) (.var 22 0 48 (by decide))))) (.var 25 0 48 (by decide))))) (.pre 28 8 43 _ _ (.inl ⟨rfl, rfl⟩) (.pre 27 8 43 _ _ (.inl ⟨rfl, rfl⟩) (.zero 26)))) (by simp [ser]), by decide +kernel, by decide⟩
theorem drws_1 : Good (.mk 5 0 [(.mk 5 0 [(.mk 4 0 [(.mk 6 0 []), (.mk 4 0 [(.mk 6 0 []), (.mk 9 0 [(.mk 4 0 [(.mk 6 0 []), (.mk 6 0 [])]), (.mk 1 1 []), (.mk 4 0 [(.mk 6 0 []), (.mk 4 0 [(.mk 6 0 []), (.mk 8 0 [(.mk 1 0 [])])])]), (.mk 1 0 [])])])]), (.mk 8 0 [(.mk 8 0 [(.mk 7 0 [])])])]), (.mk 8 0 [(.mk 7 0 [])])]) [40, 40, 91, 78, 93, 91, 78, 93, 60, 91, 78, 93, 78, 44, 35, 49, 44, 91, 78, 93, 91, 78, 93, 43, 35, 48, 44, 35, 48, 62, 32, 43, 43, 48, 41, 32, 43, 48, 41] := ⟨Tx.cast (.rnd 29 5 32 _ _ _ _ (.inr (.inr ⟨rfl, rfl⟩)) (.rnd 28 5 32 _ _ _ _ (.inr (.inr ⟨rfl, rfl⟩)) (.lam 27 _ _ _ _ (.nat 26) (.lam 26 _ _ _ _ (.nat 25) (tx4 (.inl ⟨rfl, rfl, rfl, rfl⟩) (.lam 24 _ _ _ _ (.nat 23) (.nat 23)) (.var 24 1 49 (by decide)) (.lam 24 _ _ _ _ (.nat 23) (.lam 23 _ _ _ _ (.nat 22) (.pre 22 8 43 _ _ (.inl ⟨rfl, rfl⟩) (.var 21 0 48 (by decide))))) (.var 24 0 48 (by decide))))) (.pre 27 8 43 _ _ (.inl ⟨rfl, rfl⟩) (.pre 26 8 43 _ _ (.inl ⟨rfl, rfl⟩) (.zero 25)))) (.pre 28 8 43 _ _ (.inl ⟨rfl, rfl⟩) (.zero 27))) (by simp [ser]), by decide +kernel, by decide⟩
theorem drws_2 : Good (.mk 5 0 [(.mk 4 0 [(.mk 6 0 []), (.mk 8 0 [(.mk 1 0 [])])]), (.mk 5 0 [(.mk 4 0 [(.mk 6 0 []), (.mk 8 0 [(.mk 8 0 [(.mk 1 0 [])])])]), (.mk 7 0 [])])]) [40, 91, 78, 93, 43, 35, 48, 32, 40, 91, 78, 93, 43, 43, 35, 48, 32, 48, 41, 41] := ⟨Tx.cast (.rnd 29 5 32 _ _ _ _ (.inr (.inr ⟨rfl, rfl⟩)) (.lam 28 _ _ _ _ (.nat 27) (.pre 27 8 43 _ _ (.inl ⟨rfl, rfl⟩) (.var 26 0 48 (by decide)))) (.rnd 28 5 32 _ _ _ _ (.inr (.inr ⟨rfl, rfl⟩)) (.lam 27 _ _ _ _ (.nat 26) (.pre 26 8 43 _ _ (.inl ⟨rfl, rfl⟩) (.pre 25 8 43 _ _ (.inl ⟨rfl, rfl⟩) (.var 24 0 48 (by decide))))) (.zero 27))) (by simp [ser]), by decide +kernel, by decide⟩
theorem drws_3 : Good (.mk 15 0 [(.mk 14 0 [(.mk 13 0 [(.mk 6 0 []), (.mk 6 0 [])]), (.mk 5 0 [(.mk 4 0 [(.mk 6 0 []), (.mk 1 0 [])]), (.mk 7 0 [])]), (.mk 8 0 [(.mk 7 0 [])])])]) [94, 124, 40, 78, 42, 78, 41, 44, 40, 91, 78, 93, 35, 48, 32, 48, 41, 44, 43, 48, 124] := ⟨Tx.cast (.pre 29 15 94 _ _ (.inr (.inr (.inl ⟨rfl, rfl⟩))) (tx3 (.inr (.inr (.inl ⟨rfl, rfl, rfl, rfl⟩))) (.rnd 27 13 42 _ _ _ _ (.inr (.inl ⟨rfl, rfl⟩)) (.nat 26) (.nat 26)) (.rnd 27 5 32 _ _ _ _ (.inr (.inr ⟨rfl, rfl⟩)) (.lam 26 _ _ _ _ (.nat 25) (.var 25 0 48 (by decide))) (.zero 26)) (.pre 27 8 43 _ _ (.inl ⟨rfl, rfl⟩) (.zero 26)))) (by simp [ser]), by decide +kernel, by decide⟩
theorem drws_4 : Good (.mk 16 0 [(.mk 14 0 [(.mk 13 0 [(.mk 6 0 []), (.mk 6 0 [])]), (.mk 7 0 []), (.mk 5 0 [(.mk 4 0 [(.mk 6 0 []), (.mk 8 0 [(.mk 1 0 [])])]), (.mk 7 0 [])])])]) [95, 124, 40, 78, 42, 78, 41, 44, 48, 44, 40, 91, 78, 93, 43, 35, 48, 32, 48, 41, 124] := ⟨Tx.cast (.pre 29 16 95 _ _ (.inr (.inr (.inr ⟨rfl, rfl⟩))) (tx3 (.inr (.inr (.inl ⟨rfl, rfl, rfl, rfl⟩))) (.rnd 27 13 42 _ _ _ _ (.inr (.inl ⟨rfl, rfl⟩)) (.nat 26) (.nat 26)) (.zero 27) (.rnd 27 5 32 _ _ _ _ (.inr (.inr ⟨rfl, rfl⟩)) (.lam 26 _ _ _ _ (.nat 25) (.pre 25 8 43 _ _ (.inl ⟨rfl, rfl⟩) (.var 24 0 48 (by decide)))) (.zero 26)))) (by simp [ser]), by decide +kernel, by decide⟩
theorem drws_5 : Good (.mk 12 0 [(.mk 4 0 [(.mk 6 0 []), (.mk 10 0 [(.mk 6 0 []), (.mk 7 0 []), (.mk 1 0 [])])]), (.mk 11 0 [(.mk 7 0 [])]), (.mk 11 0 [(.mk 7 0 [])])]) [64, 60, 91, 78, 93, 123, 78, 44, 48, 44, 35, 48, 125, 44, 33, 48, 44, 33, 48, 62] := ⟨Tx.cast (tx3 (.inr (.inr (.inr ⟨rfl, rfl, rfl, rfl⟩))) (.lam 28 _ _ _ _ (.nat 27) (tx3 (.inr (.inl ⟨rfl, rfl, rfl, rfl⟩)) (.nat 26) (.zero 26) (.var 26 0 48 (by decide)))) (.pre 28 11 33 _ _ (.inr (.inl ⟨rfl, rfl⟩)) (.zero 27)) (.pre 28 11 33 _ _ (.inr (.inl ⟨rfl, rfl⟩)) (.zero 27))) (by simp [ser]), by decide +kernel, by decide⟩
theorem drws_6 : Good (.mk 5 0 [(.mk 4 0 [(.mk 2 0 []), (.mk 4 0 [(.mk 1 0 []), (.mk 1 0 [])])]), (.mk 6 0 [])]) [40, 91, 42, 48, 93, 91, 35, 48, 93, 35, 48, 32, 78, 41] := ⟨Tx.cast (.rnd 29 5 32 _ _ _ _ (.inr (.inr ⟨rfl, rfl⟩)) (.lam 28 _ _ _ _ (.sort 27 0 48 (by decide)) (.lam 27 _ _ _ _ (.var 26 0 48 (by decide)) (.var 26 0 48 (by decide)))) (.nat 28)) (by simp [ser]), by decide +kernel, by decide⟩
theorem drws_7 : Good (.mk 5 0 [(.mk 4 0 [(.mk 6 0 []), (.mk 5 0 [(.mk 1 0 []), (.mk 1 0 [])])]), (.mk 4 0 [(.mk 6 0 []), (.mk 1 0 [])])]) [40, 91, 78, 93, 40, 35, 48, 32, 35, 48, 41, 32, 91, 78, 93, 35, 48, 41] := ⟨Tx.cast (.rnd 29 5 32 _ _ _ _ (.inr (.inr ⟨rfl, rfl⟩)) (.lam 28 _ _ _ _ (.nat 27) (.rnd 27 5 32 _ _ _ _ (.inr (.inr ⟨rfl, rfl⟩)) (.var 26 0 48 (by decide)) (.var 26 0 48 (by decide)))) (.lam 28 _ _ _ _ (.nat 27) (.var 27 0 48 (by decide)))) (by simp [ser]), by decide +kernel, by decide⟩
theorem drws_8 : Good (.mk 5 0 [(.mk 4 0 [(.mk 6 0 []), (.mk 5 0 [(.mk 1 0 []), (.mk 1 0 [])])]), (.mk 4 0 [(.mk 6 0 []), (.mk 5 0 [(.mk 1 0 []), (.mk 1 0 [])])])]) [40, 91, 78, 93, 40, 35, 48, 32, 35, 48, 41, 32, 91, 78, 93, 40, 35, 48, 32, 35, 48, 41, 41] := ⟨Tx.cast (.rnd 29 5 32 _ _ _ _ (.inr (.inr ⟨rfl, rfl⟩)) (.lam 28 _ _ _ _ (.nat 27) (.rnd 27 5 32 _ _ _ _ (.inr (.inr ⟨rfl, rfl⟩)) (.var 26 0 48 (by decide)) (.var 26 0 48 (by decide)))) (.lam 28 _ _ _ _ (.nat 27) (.rnd 27 5 32 _ _ _ _ (.inr (.inr ⟨rfl, rfl⟩)) (.var 26 0 48 (by decide)) (.var 26 0 48 (by decide))))) (by simp [ser]), by decide +kernel, by decide⟩
theorem drws_9 : Good (.mk 9 0 [(.mk 4 0 [(.mk 6 0 []), (.mk 2 0 [])]), (.mk 6 0 []), (.mk 4 0 [(.mk 6 0 []), (.mk 4 0 [(.mk 2 0 []), (.mk 3 0 [(.mk 6 0 []), (.mk 1 1 [])])])]), (.mk 8 0 [(.mk 8 0 [(.mk 8 0 [(.mk 7 0 [])])])])]) [60, 91, 78, 93, 42, 48, 44, 78, 44, 91, 78, 93, 91, 42, 48, 93, 40, 78, 62, 35, 49, 41, 44, 43, 43, 43, 48, 62] := ⟨Tx.cast (tx4 (.inl ⟨rfl, rfl, rfl, rfl⟩) (.lam 28 _ _ _ _ (.nat 27) (.sort 27 0 48 (by decide))) (.nat 28) (.lam 28 _ _ _ _ (.nat 27) (.lam 27 _ _ _ _ (.sort 26 0 48 (by decide)) (.rnd 26 3 62 _ _ _ _ (.inl ⟨rfl, rfl⟩) (.nat 25) (.var 25 1 49 (by decide))))) (.pre 28 8 43 _ _ (.inl ⟨rfl, rfl⟩) (.pre 27 8 43 _ _ (.inl ⟨rfl, rfl⟩) (.pre 26 8 43 _ _ (.inl ⟨rfl, rfl⟩) (.zero 25))))) (by simp [ser]), by decide +kernel, by decide⟩
theorem drws_10 : Good (.mk 4 0 [(.mk 6 0 []), (.mk 5 0 [(.mk 4 0 [(.mk 6 0 []), (.mk 5 0 [(.mk 1 0 []), (.mk 1 1 [])])]), (.mk 1 0 [])])]) [91, 78, 93, 40, 91, 78, 93, 40, 35, 48, 32, 35, 49, 41, 32, 35, 48, 41] := ⟨Tx.cast (.lam 29 _ _ _ _ (.nat 28) (.rnd 28 5 32 _ _ _ _ (.inr (.inr ⟨rfl, rfl⟩)) (.lam 27 _ _ _ _ (.nat 26) (.rnd 26 5 32 _ _ _ _ (.inr (.inr ⟨rfl, rfl⟩)) (.var 25 0 48 (by decide)) (.var 25 1 49 (by decide)))) (.var 27 0 48 (by decide)))) (by simp [ser]), by decide +kernel, by decide⟩
theorem drws_11 : Good (.mk 5 0 [(.mk 5 0 [(.mk 4 0 [(.mk 3 0 [(.mk 6 0 []), (.mk 6 0 [])]), (.mk 4 0 [(.mk 6 0 []), (.mk 5 0 [(.mk 1 1 []), (.mk 5 0 [(.mk 1 1 []), (.mk 1 0 [])])])])]), (.mk 4 0 [(.mk 6 0 []), (.mk 8 0 [(.mk 1 0 [])])])]), (.mk 1 0 [])]) [40, 40, 91, 40, 78, 62, 78, 41, 93, 91, 78, 93, 40, 35, 49, 32, 40, 35, 49, 32, 35, 48, 41, 41, 32, 91, 78, 93, 43, 35, 48, 41, 32, 35, 48, 41] := ⟨Tx.cast (.rnd 29 5 32 _ _ _ _ (.inr (.inr ⟨rfl, rfl⟩)) (.rnd 28 5 32 _ _ _ _ (.inr (.inr ⟨rfl, rfl⟩)) (.lam 27 _ _ _ _ (.rnd 26 3 62 _ _ _ _ (.inl ⟨rfl, rfl⟩) (.nat 25) (.nat 25)) (.lam 26 _ _ _ _ (.nat 25) (.rnd 25 5 32 _ _ _ _ (.inr (.inr ⟨rfl, rfl⟩)) (.var 24 1 49 (by decide)) (.rnd 24 5 32 _ _ _ _ (.inr (.inr ⟨rfl, rfl⟩)) (.var 23 1 49 (by decide)) (.var 23 0 48 (by decide)))))) (.lam 27 _ _ _ _ (.nat 26) (.pre 26 8 43 _ _ (.inl ⟨rfl, rfl⟩) (.var 25 0 48 (by decide))))) (.var 28 0 48 (by decide))) (by simp [ser]), by decide +kernel, by decide⟩
theorem drws_12 : Good (.mk 9 0 [(.mk 4 0 [(.mk 6 0 []), (.mk 6 0 [])]), (.mk 7 0 []), (.mk 4 0 [(.mk 6 0 []), (.mk 4 0 [(.mk 6 0 []), (.mk 1 1 [])])]), (.mk 5 0 [(.mk 4 0 [(.mk 6 0 []), (.mk 8 0 [(.mk 1 0 [])])]), (.mk 1 2 [])])]) [60, 91, 78, 93, 78, 44, 48, 44, 91, 78, 93, 91, 78, 93, 35, 49, 44, 40, 91, 78, 93, 43, 35, 48, 32, 35, 50, 41, 62] := ⟨Tx.cast (tx4 (.inl ⟨rfl, rfl, rfl, rfl⟩) (.lam 28 _ _ _ _ (.nat 27) (.nat 27)) (.zero 28) (.lam 28 _ _ _ _ (.nat 27) (.lam 27 _ _ _ _ (.nat 26) (.var 26 1 49 (by decide)))) (.rnd 28 5 32 _ _ _ _ (.inr (.inr ⟨rfl, rfl⟩)) (.lam 27 _ _ _ _ (.nat 26) (.pre 26 8 43 _ _ (.inl ⟨rfl, rfl⟩) (.var 25 0 48 (by decide)))) (.var 27 2 50 (by decide)))) (by simp [ser]), by decide +kernel, by decide⟩
theorem drws_good : GoodL drws drwsX := ⟨drws_0, drws_1, drws_2, drws_3, drws_4, drws_5, drws_6, drws_7, drws_8, drws_9, drws_10, drws_11, drws_12, trivial⟩
open Go.RowKit
set_option maxHeartbeats 2000000 in
set_option maxRecDepth 100000 in
theorem of_any (xs : List (List UInt8)) (B r p g : Nat) (w : World) (hx : 0 < xs.length) (hx2 : xs.length ≤ 1000) (hp : p ≤ 1000000000) (hB : B ≤ w.heap.size) (hr : Rdr B w r p) (hL : Blk w g (strs xs)) (hg : r ≠ g) :
    Calls Tryz.prog 34 #[.pointer (some ⟨r, 0, none⟩), .slice (some ⟨g, 0, none⟩) xs.length xs.length] w fun e w' => ∃ (m : Nat) (h : m < xs.length), e = .returned (.string (byt xs[m])) ∧ Rdr B w' r (p + 1) ∧ w.grownBy w' (some r) := by
  go_enter Tryz.func34, Tryz.ntmps34
  go_wp2_with (go_at_call 30; refine (pick_any B r p xs.length _ hp (by omega) hB hr).mono ?_; rintro e w1 ⟨m, rfl, hm, hm0, hr1, hg1⟩; have hm := hm (by omega); clear hm0; have hm' : m < xs.length := (by omega); have hc : w1.cell? ⟨g, m, none⟩ = some (.string (byt xs[m])) := (hL.grown hg1 (by simpa using hg.symm)).at_ (strs_get hm'))
  go_ret
  exact ⟨m, hm', rfl, hr1, hg1⟩
def plusX : List UInt8 := [91, 78, 93, 91, 78, 93, 60, 91, 78, 93, 78, 44, 35, 49, 44, 91, 78, 93, 91, 78, 93, 43, 35, 48, 44, 35, 48, 62]
set_option maxHeartbeats 2000000 in
set_option maxRecDepth 100000 in
theorem plus_any (w : World) : Calls Tryz.prog 35 #[] w fun e w' => e = .returned (.string (byt plusX)) ∧ w = w' := by
  go_enter Tryz.func35, Tryz.ntmps35
  go_wp2_with fail
  go_ret
  exact ⟨rfl, rfl⟩
open Go.RowKit
open Go.RowKit
theorem drws_small {k n : Int} {ks : List Tm} (h : Tm.mk k n ks ∈ drws) : sizes ks ≤ 60 := by
  have h1 : (drws.all fun t => decide (t.size ≤ 61)) = true := by decide
  have := of_decide_eq_true (List.all_eq_true.1 h1 _ h)
  rw [Tm.size] at this
  omega
theorem drws_hi3 {t : Tm} (h : t ∈ drws) : hi3 t = true := by
  have h1 : (drws.all hi3) = true := by decide +kernel
  exact List.all_eq_true.1 h1 _ h
set_option maxHeartbeats 8000000 in
set_option maxRecDepth 100000 in
theorem l3draw_any (B r p : Nat) (w : World) (hp : p ≤ 890000000) (hB : B ≤ w.heap.size) (hr : Rdr B w r p) : Calls Tryz.prog 13 #[.pointer (some ⟨r, 0, none⟩)] w (DrawnT B w r p 1030 341) := by
  have hrl := hr.lt
  have a1 : ∀ w, (Op.stringOp .add ⟨#[40]⟩ (byt plusX)).run Tryz.prog w = .ok (.string (byt [40, 91, 78, 93, 91, 78, 93, 60, 91, 78, 93, 78, 44, 35, 49, 44, 91, 78, 93, 91, 78, 93, 43, 35, 48, 44, 35, 48, 62])) w := fun w => add_strE (a := [40]) (b := plusX) rfl (by decide) w
  have a2 : ∀ w, (Op.stringOp .add (byt [40, 91, 78, 93, 91, 78, 93, 60, 91, 78, 93, 78, 44, 35, 49, 44, 91, 78, 93, 91, 78, 93, 43, 35, 48, 44, 35, 48, 62]) ⟨#[32, 43, 43, 48, 41]⟩).run Tryz.prog w = .ok (.string (byt [40, 91, 78, 93, 91, 78, 93, 60, 91, 78, 93, 78, 44, 35, 49, 44, 91, 78, 93, 91, 78, 93, 43, 35, 48, 44, 35, 48, 62, 32, 43, 43, 48, 41])) w := fun w => add_strE (a := [40, 91, 78, 93, 91, 78, 93, 60, 91, 78, 93, 78, 44, 35, 49, 44, 91, 78, 93, 91, 78, 93, 43, 35, 48, 44, 35, 48, 62]) (b := [32, 43, 43, 48, 41]) rfl (by decide) w
  have a3 : ∀ w, (Op.stringOp .add ⟨#[40, 40]⟩ (byt plusX)).run Tryz.prog w = .ok (.string (byt [40, 40, 91, 78, 93, 91, 78, 93, 60, 91, 78, 93, 78, 44, 35, 49, 44, 91, 78, 93, 91, 78, 93, 43, 35, 48, 44, 35, 48, 62])) w := fun w => add_strE (a := [40, 40]) (b := plusX) rfl (by decide) w
  have a4 : ∀ w, (Op.stringOp .add (byt [40, 40, 91, 78, 93, 91, 78, 93, 60, 91, 78, 93, 78, 44, 35, 49, 44, 91, 78, 93, 91, 78, 93, 43, 35, 48, 44, 35, 48, 62]) ⟨#[32, 43, 43, 48, 41, 32, 43, 48, 41]⟩).run Tryz.prog w = .ok (.string (byt [40, 40, 91, 78, 93, 91, 78, 93, 60, 91, 78, 93, 78, 44, 35, 49, 44, 91, 78, 93, 91, 78, 93, 43, 35, 48, 44, 35, 48, 62, 32, 43, 43, 48, 41, 32, 43, 48, 41])) w := fun w => add_strE (a := [40, 40, 91, 78, 93, 91, 78, 93, 60, 91, 78, 93, 78, 44, 35, 49, 44, 91, 78, 93, 91, 78, 93, 43, 35, 48, 44, 35, 48, 62]) (b := [32, 43, 43, 48, 41, 32, 43, 48, 41]) rfl (by decide) w
  go_enter Tryz.func13, Tryz.ntmps13
  go_wp2_with (first
    | (go_at_call 36; refine (parseTerm_any hgood.out _).mono ?_; rintro e w2 ⟨A2, c2, rfl, hl2, hf2, hb2⟩; have tok2 := trivial)
    | (go_at_call 34; refine (of_any drwsX B r p (w.heap.size + 1) _ (by decide) (by decide) (by omega) (by simp; omega) ((hr.alloc (by omega) _).alloc (by simp; omega) _) (Blk.new_ _ 9 (strs drwsX) (by simp)) (by omega)).mono ?_; rintro e w1 ⟨m, hm, rfl, hr1, hg1⟩; have hm13 : m < drws.length := hm; obtain ⟨k, n, ks, hk⟩ := tm_eta drws[m]; have hgood := hide (drws_good.at_ m (.mk k n ks) drwsX[m] (by rw [List.getElem?_eq_getElem hm13, hk]) (List.getElem?_eq_getElem hm)); have hsm := drws_small (k := k) (n := n) (ks := ks) (hk ▸ List.getElem_mem hm13); have h3c := drws_hi3 (t := .mk k n ks) (hk ▸ List.getElem_mem hm13); clear hk; have hZ : Blk w1 w.heap.size #[.int .i64 0, .int .i64 0, .slice none 0 0] := ((Blk.new_ w 25 #[.int .i64 0, .int .i64 0, .slice none 0 0] rfl).alloc _).grown hg1 (by simp; omega); have g1 : w.grownBy w1 (some r) := grown_trans (only_alloc (only_alloc (World.grownBy.refl _ _) _) _) hg1; have s1 := g1.size; have lz1 := hZ.lt)
    | (go_at_call 35; refine (plus_any _).mono ?_; rintro e w' ⟨rfl, rfl⟩))
  replace hZ := hZ.keep hb2
  have g2 := only_below g1 hb2
  have s2 := hb2.size
  refine (pick_any B r (p + 1) 3 _ (by omega) (by omega) (by simp; omega) ((hr1.below hb2 (by omega)).alloc (by omega) _)).mono ?_
  rintro e w3 ⟨m3, rfl, hm3, hm30, hr3, hg3⟩
  clear hm3 hm30
  have hX := (Blk.new_ w2 25 #[.int .i64 k, .int .i64 n, .slice A2 ks.length c2] rfl).grown hg3 (by simp; omega)
  replace hZ := (hZ.alloc (.cells #[.int .i64 k, .int .i64 n, .slice A2 ks.length c2] 25)).grown hg3 (by simp; omega)
  have g3 := grown_trans (only_alloc g2 (.cells #[.int .i64 k, .int .i64 n, .slice A2 ks.length c2] 25)) hg3
  have s3 := g3.size
  have f3 := (hf2.alloc (.cells #[.int .i64 k, .int .i64 n, .slice A2 ks.length c2] 25)).keep (fun b h1 h2 => hg3.block b h2 (by simp; omega))
  obtain ⟨x0, x1, x2⟩ := hX.three
  have lx := hX.lt
  have lz := hZ.lt
  by_cases h0 : m3 = 0
  · have q0 : ¬ 0 < m3 := by omega
    clear h0
    go_wp2_with (go_at_call 37; refine (any_any B r (p + 1 + 1) _ (by omega) (by omega) hr3).mono ?_; rintro e w4 ⟨k4, n4, ks4, A4, c4, p4, rfl, hl4, hs4, h34, hp4, hf4, hr4, hg4⟩; replace hZ := hZ.grown hg4 (by simp; omega); obtain ⟨d0, d1, d2⟩ := hZ.three; have e0 := hZ.frozen 0; have e1 := hZ.frozen 1; have e2 := hZ.frozen 2)
    have g4 := grown_trans g3 hg4
    refine bodyPost_ret (v := .agg #[.int .i64 k4, .int .i64 n4, .slice A4 ks4.length c4]) (by simp [results, Tryz.results13, go_sem, d0, d1, d2]) rfl ⟨k4, n4, ks4, A4, c4, p4, rfl, hl4, by omega, h34, by omega, ?_, ?_, ?_⟩
    · exact (((hf4.setCell (by simp; omega) _).setCell (by simp; omega) _).setCell (by simp; omega) _).mono (by omega)
    · exact ((hr4.setCell (by simp; omega) _).setCell (by simp; omega) _).setCell (by simp; omega) _
    · exact only_setCell (only_setCell (only_setCell g4 (.inr (by simp)) _) (.inr (by simp)) _) (.inr (by simp)) _
  · have q0 : 0 < m3 := by omega
    clear h0
    obtain ⟨d0, d1, d2⟩ := hZ.three
    have e0 := hZ.frozen 0
    have e1 := hZ.frozen 1
    have e2 := hZ.frozen 2
    go_wp2_with fail
    refine bodyPost_ret (v := .agg #[.int .i64 k, .int .i64 n, .slice A2 ks.length c2]) (by simp [results, Tryz.results13, go_sem, d0, d1, d2]) rfl ⟨k, n, ks, A2, c2, _, rfl, hl2, by omega, h3c, (by omega : p + 1 + 1 ≤ p + 1030), ?_, ?_, ?_⟩
    · exact (((f3.setCell (by simp; omega) _).setCell (by simp; omega) _).setCell (by simp; omega) _).mono (by omega)
    · exact ((hr3.setCell (by simp; omega) _).setCell (by simp; omega) _).setCell (by simp; omega) _
    · exact only_setCell (only_setCell (only_setCell g3 (.inr (by simp)) _) (.inr (by simp)) _) (.inr (by simp)) _
open Go.RowKit
theorem Part.mono {B B' : Nat} {w : World} {v : Value} {ts : List Tm} (h : Part B w v ts) (hB : B' ≤ B) : Part B' w v ts := by
  obtain ⟨xs, f, h1, h2, h3, h4, h5⟩ := h
  refine ⟨xs, f, ⟨h1.1, ?_⟩, h2, h3, fun b hb => Nat.le_trans hB (h4 b hb), h5⟩
  rcases h1.2 with hn | ⟨g, cap, cur, rfl, hb, r⟩
  · exact .inl hn
  · exact .inr ⟨g, cap, cur, rfl, by omega, r⟩
def GotV (w : World) (k n : Int) (ks : List Tm) (e : Ending) (w' : World) : Prop :=
  ∃ v, e = .returned (.agg #[.int .i64 k, .int .i64 n, v]) ∧ ks.length ≤ 9223372036854775807 ∧ Part w.heap.size w' v ks ∧ Below w.heap.size w w'
theorem gotV_T {w : World} {k n : Int} {ks : List Tm} : ∀ (e : Ending) (w' : World), GotV w k n ks e w' → GotT w k n ks e w' := fun e w' ⟨v, he, hl, hp, hb⟩ => by
  obtain ⟨A, c, rfl, hf⟩ := hp.fresh
  exact ⟨A, c, he, hl, hf, hb⟩
set_option maxHeartbeats 2000000 in
set_option maxRecDepth 100000 in
theorem sCopyV_any (N : Nat) : ∀ (k n : Int) (ks : List Tm) (A : Option Addr) (c : Nat) (w : World), sizes ks < N → sizes ks ≤ 1000000000 → Rd w A 0 ks →
    Calls Tryz.prog 29 #[.agg #[.int .i64 k, .int .i64 n, .slice A ks.length c]] w (GotV w k n ks) := by
  induction N with
  | zero => intro k n ks A c w hN; exact absurd hN (Nat.not_lt_zero _)
  | succ N ih =>
  intro k n ks A c w hN hM hr
  have hlen := length_le_sizes ks
  go_enter Tryz.func29, Tryz.ntmps29
  go_wp2_with fail
  go_loopw [4] (fun i wr => ∃ (j : Nat) (v : Value), j ≤ ks.length ∧ i = .int .i64 j ∧ Part (w.heap.size + 3) wr v (ks.take j) ∧ Blk wr (w.heap.size + 1 + 1) #[.int .i64 k, .int .i64 n, v] ∧ Blk wr (w.heap.size + 1) #[.int .i64 0, .int .i64 0, .slice none 0 0] ∧ Blk wr w.heap.size #[.int .i64 k, .int .i64 n, .slice A ks.length c] ∧ Below w.heap.size w wr)
    (fun i _ => ks.length - (intOf i).toNat)
  case atStart => exact ⟨0, _, Nat.zero_le _, rfl, Part.nil, Blk.new_ _ _ _ (by simp), (Blk.new_ _ _ _ (by simp)).alloc _, ((Blk.new_ _ _ _ rfl).alloc _).alloc _, (((Below.refl _ _).alloc (by simp) _).alloc (by simp) _).alloc (by simp; omega) _⟩
  case round =>
    obtain ⟨j, v, hj, rfl, hp, hB3, hB2, hB1, hb⟩ := hrel
    have c12 := hB1.at_ (i := 2) rfl
    by_cases hlt : j < ks.length
    · obtain ⟨b, off, k', n', ks', A', c', rfl, hkj, hc1, hc2, hc3, hl', hr'⟩ := (hr.below hb).at_ hlt
      have hsz := sizes_le (List.getElem_mem hlt)
      rw [hkj] at hsz
      simp only [Tm.size] at hsz
      have H3 := hide hkj
      clear hkj
      have hz := hB3.lt
      go_wp2_with fail
      have x2 := hB3.rule (i := 2) rfl
      have b2 := hB1.rule (i := 2) rfl
      have y0 := rule_of hc1
      have y1 := rule_of hc2
      have y2 := rule_of hc3
      refine wp_region_firstY (fun w' => Below wr.heap.size wr w') [0, 1, 2, 3, 4, 5, 6] [7, 8] [9, 10, 11] [_, _, _, _, _, _, _] [_, _] [_, _, _] (by kernel_rfl) (by kernel_rfl) rfl rfl rfl (fun _ _ d _ _ h => by cases d <;> exact h) (Below.refl _ _).drew ?_
      repeat (first | ((refine takeY_skip (a' := ?_) ?_ ?_ ?_); (rotate_left); (· (simp [Region.wanted, yielded]; done)); (· (simp only [List.getElem_toArray, List.getElem_cons_zero, List.getElem_cons_succ, Act.put, List.setIfInBounds_toArray, List.set_cons_zero, List.set_cons_succ]; exact rfl))) | ((refine takeY_step (v := ?_) (a' := ?_) ?_ ?_ ?_ ?_); (rotate_left 2); (· (simp [Region.wanted, yielded]; done)); (· (intro w' hS'; go_simp; try (with_reducible rfl))); (· (simp only [List.getElem_toArray, List.getElem_cons_zero, List.getElem_cons_succ, Act.put, List.setIfInBounds_toArray, List.set_cons_zero, List.set_cons_succ]; exact rfl))))
      refine takeY_nil (then_cons ?_)
      go_wp2_with (go_at_call 29; refine ((ih k' n' ks' A' c' _ (by omega) (by omega) hr'.drew).mono gotV_T).mono ?_; rintro e w1 ⟨A1, c1, rfl, hl1, hf1, hb1⟩)
      have hx1 : Below wr.heap.size wr w1 := (Below.refl _ _).drew.trans hb1
      refine mid_intro hx1 (then_cons ?_)
      go_wp2_with fail
      refine mid_intro (hx1.alloc hx1.size _) (then_nil ?_)
      refine wpList_append_built (B := w.heap.size + 3) (m := j) hp.drew hb1 (by simp; omega) hf1 hl1 (by rw [List.length_take]; omega) (by omega) rfl (.tmp 18) (.tmp 25) rfl rfl rfl ?_
      intro A2 c2 w2 hp2 hb2 hg2
      have q3 : Blk w2 (w.heap.size + 1 + 1) #[.int .i64 k, .int .i64 n, v] := (hB3.below hx1 (by omega)).below hb2 (by omega)
      have q2 : Blk w2 (w.heap.size + 1) #[.int .i64 0, .int .i64 0, .slice none 0 0] := (hB2.below hx1 (by omega)).below hb2 (by omega)
      have q1' : Blk w2 w.heap.size #[.int .i64 k, .int .i64 n, .slice (some ⟨b, off, none⟩) ks.length c] := (hB1.below hx1 (by omega)).below hb2 (by omega)
      have c3 : w2.cell? ⟨w.heap.size + 1 + 1, 2, none⟩ = some v := q3.at_ rfl
      have z3 := q3.frozen 2
      have hbf : Below w.heap.size w w2 := (hb.trans (hx1.mono (by omega))).trans (hb2.mono (by omega))
      clear x2 y0 y1 y2 b2
      go_wp2_with fail
      go_roundw
      case rel => exact ⟨j + 1, _, by omega, by go_num, by rw [List.take_succ_eq_append_getElem hlt, H3.out]; exact hp2.setCell (by simp) _, q3.set_ 2 _, q2.far (by simp) _, q1'.far (by simp; omega) _, hbf.setCell (by simp; omega) _⟩
      case measure => simp [intOf]; omega
    · have hjl : j = ks.length := by omega
      subst hjl
      rw [List.take_length] at hp
      have hvl : ∃ A' c', v = .slice A' ks.length c' := hp.shape
      have c0 : wr.cell? ⟨w.heap.size + 1 + 1, 0, none⟩ = some (.int .i64 k) := hB3.at_ rfl
      have c1 : wr.cell? ⟨w.heap.size + 1 + 1, 1, none⟩ = some (.int .i64 n) := hB3.at_ rfl
      have c2 : wr.cell? ⟨w.heap.size + 1 + 1, 2, none⟩ = some v := hB3.at_ rfl
      have d0 : wr.cell? ⟨w.heap.size + 1, 0, none⟩ = some (.int .i64 0) := hB2.at_ rfl
      have d1 : wr.cell? ⟨w.heap.size + 1, 1, none⟩ = some (.int .i64 0) := hB2.at_ rfl
      have d2 : wr.cell? ⟨w.heap.size + 1, 2, none⟩ = some (.slice none 0 0) := hB2.at_ rfl
      have e0 := hB2.frozen 0
      have e1 := hB2.frozen 1
      have e2 := hB2.frozen 2
      obtain ⟨A', c', rfl⟩ := hvl
      go_wp2_with fail
      refine bodyPost_ret (v := .agg #[.int .i64 k, .int .i64 n, .slice A' ks.length c']) (by simp [results, Tryz.results29, go_sem, d0, d1, d2]) rfl ⟨_, rfl, by omega, ?_, ?_⟩
      · exact ((((hp.setCell (by simp) _).setCell (by simp) _).setCell (by simp) _).mono (by omega))
      · exact (((hb.setCell (by simp) _).setCell (by simp) _).setCell (by simp) _)
open Go.RowKit
theorem run_append_leaf {B : Nat} {w0 w1 : World} {v : Value} {ts : List Tm} (hp : Part B w0 v ts) (hb : ∀ b, B ≤ b → b < w0.heap.size → w1.heap[b]? = w0.heap[b]?) (hs : w0.heap.size ≤ w1.heap.size) (hB : B ≤ w0.heap.size) (hlen : ts.length ≤ 1099511627776) (k n : Int) (c : Nat) (ty : TypeId) :
    ∃ A' c' w', (Builtin.append_ #[23, 23] ty #[v, .slice (some ⟨w1.heap.size, 0, none⟩) 1 1]).run Tryz.prog (w1.alloc (.cells #[.int .i64 k, .int .i64 n, .slice none 0 c] 25)) = .ok (.slice A' (ts.length + 1) c') w' ∧
      RdP (fun b => B ≤ b ∧ (b < w0.heap.size ∨ w1.heap.size ≤ b) ∧ b < w'.heap.size) w' A' 0 (ts ++ [.mk k n []]) ∧ w1.grownBy w' v.ownBlock ∧ (∀ g, v.ownBlock = some g → B ≤ g ∧ g < w0.heap.size) := by
  obtain ⟨i, hi, hz, hz1, hz2⟩ := info_parts tm_info
  obtain ⟨xs, f, h1, h2, h3, h4, h5⟩ := hp
  have hlt : ∀ g, v.ownBlock = some g → g < w0.heap.size := fun g hg => (h1.lt g hg).2
  have hge : ∀ g, v.ownBlock = some g → B ≤ g := fun g hg => (h1.lt g hg).1
  have hfl := h2.lt
  generalize hW : w1.alloc (.cells #[.int .i64 k, .int .i64 n, .slice none 0 c] 25) = w
  have hbw : ∀ b, b < w1.heap.size → w.heap[b]? = w1.heap[b]? := fun b h => by rw [← hW]; exact Below.heap_alloc _ _ b h
  have hsw : w.heap.size = w1.heap.size + 1 := by rw [← hW]; simp
  have hcell : Blk w w1.heap.size #[.int .i64 k, .int .i64 n, .slice none 0 c] := by rw [← hW]; exact Blk.new_ _ _ _ rfl
  have k1 : w.ownsRow B 25 3 v ts.length xs := by
    refine ⟨h1.1, ?_⟩
    rcases h1.2 with hn | ⟨g, cap, cur, rfl, hb', hg, r⟩
    · exact .inl hn
    · exact .inr ⟨g, cap, cur, rfl, hb', (hbw g (by have := hlt g rfl; omega)).trans ((hb g hb' (hlt g rfl)).trans hg), r⟩
  have k2 : OwX w ts xs f := h2.frame fun b hbf => (hbw b (by have := hfl b hbf; omega)).trans (hb b (h4 b hbf) (hfl b hbf))
  have ht : OwX w [.mk k n []] [.int .i64 k, .int .i64 n, .slice none 0 c] [] := OwX.one (OwT.iff.2 ⟨none, c, rfl, by simp, .inl ⟨rfl, rfl⟩⟩)
  obtain ⟨v', w', hrun, hown, hg, _, hat⟩ := run_append_own_at (P := Tryz.prog) w B 23 ty 25 i _ 3 40 Tryz.underlying23 hi hz hz1 hz2 rfl (by omega) v ts.length xs k1 ⟨w1.heap.size, 0, none⟩ 1 1 _ ht.length (fun j u hj => by
      rw [add_zero_]; exact hcell.at_ (by simpa using hj)) ht.oneCell
    (by simp only [maxLen]; omega) (by omega) (by omega)
  have e1 : ∀ b, b ∈ f → w'.heap[b]? = w.heap[b]? := fun b hbf => hg.block b (by have := hfl b hbf; omega) (fun e => h5 b e.symm hbf)
  have k3 : OwX w' (ts ++ [.mk k n []]) (xs ++ [.int .i64 k, .int .i64 n, .slice none 0 c]) (f ++ []) := (k2.frame e1).append (ht.frame fun b hb => by cases hb)
  rw [List.append_nil] at k3
  have hgs := hg.size
  have hgr : w1.grownBy w' v.ownBlock := by
    have : w1.grownBy w v.ownBlock := by rw [← hW]; exact grownBy_alloc_ (World.grownBy.refl _ _) _
    exact grownBy_trans this hg
  obtain ⟨h6, h7⟩ := hown
  rcases h7 with ⟨_, h0⟩ | ⟨g', cap, cur, rfl, hb', hg', _, _, _, htk⟩
  · omega
  · refine ⟨_, _, w', hrun, ?_, hgr, fun g hg => ⟨hge g hg, hlt g hg⟩⟩
    have hgl' : g' < w'.heap.size := (Array.getElem?_eq_some_iff.1 hg').1
    refine own_rdp.2 _ _ _ k3 (fun b hb => ⟨h4 b hb, .inl (hfl b hb), by have := hfl b hb; omega⟩) g' 0 0 ⟨hb', ?_, hgl'⟩ fun j u hu => ?_
    · rcases hat with e | e
      · left; exact hlt g' e.symm
      · right; injection e with e; have e : g' = w.heap.size := e; omega
    · have e0 : 0 + 0 * 3 + j = j := by omega
      rw [e0, cell_of_row w' g' j cur 25 (0, 0) hg']
      rw [← htk, List.getElem?_take] at hu
      split at hu
      · simpa using hu
      · cases hu
theorem wpList_append_leaf {B : Nat} {w0 w1 : World} {v : Value} {ts : List Tm} (hp : Part B w0 v ts) (hb : ∀ b, B ≤ b → b < w0.heap.size → w1.heap[b]? = w0.heap[b]?) (hs : w0.heap.size ≤ w1.heap.size) (hB : B ≤ w0.heap.size) {m : Nat} (hm : ts.length = m) (hlen : m ≤ 1099511627776) (k n : Int) (c : Nat)
    {ops : Array Oper} {rest : List Oper} {o : Oper} {a : Act} {Q : Exit → Act → World → Prop} (hgd : o.guard = none) (s x : Operand)
    (ho : o.op = .call { callee := .builtin .append, args := #[s, x], argTypes := #[23, 23] }) (hse : a.eval s = v) (hx : a.eval x = .slice (some ⟨w1.heap.size, 0, none⟩) 1 1)
    (h : ∀ A' c' w', RdP (fun b => B ≤ b ∧ (b < w0.heap.size ∨ w1.heap.size ≤ b) ∧ b < w'.heap.size) w' A' 0 (ts ++ [.mk k n []]) → w1.grownBy w' v.ownBlock → (∀ g, v.ownBlock = some g → B ≤ g ∧ g < w0.heap.size) → wpList Tryz.prog ops Q rest (a.put o.dst (.slice A' (m + 1) c')) w') :
    wpList Tryz.prog ops Q (o :: rest) a (w1.alloc (.cells #[.int .i64 k, .int .i64 n, .slice none 0 c] 25)) := by
  subst hm
  refine wpList_plain hgd fun K hK => ?_
  obtain ⟨A', c', w', hrun, h2, h3, h4⟩ := run_append_leaf hp hb hs hB hlen k n c o.type
  unfold Oper.wp execOp
  simp only [ho, resolve, invoke, builtin, Sem.run_bind, Sem.run_pure, Result.andThen_ok, List.map_toArray, List.map_cons, List.map_nil, hse, hx, hrun]
  exact hK _ _ (h A' c' w' h2 h3 h4)
theorem cell_set_ne {w : World} {g j q : Nat} (u : Value) (h : j ≠ q) : (w.setCell ⟨g, q, none⟩ u).cell? ⟨g, j, none⟩ = w.cell? ⟨g, j, none⟩ :=
  World.cell?_setCell_other w ⟨g, q, none⟩ ⟨g, j, none⟩ u (fun e => by injection e with _ e; omega)
/-- the first operand may be replaced by one without operands -/
theorem Part.head_set {B : Nat} {w : World} {v : Value} {t : Tm} {ts : List Tm} (hp : Part B w v (t :: ts)) : ∃ g cap, v = .slice (some ⟨g, 0, none⟩) (ts.length + 1) cap ∧ B ≤ g ∧ g < w.heap.size ∧
    ∀ W : World, (∀ b, B ≤ b → b < w.heap.size → W.heap[b]? = w.heap[b]?) → (∃ u0 u1 u2, W.cell? ⟨g, 0, none⟩ = some u0 ∧ W.cell? ⟨g, 1, none⟩ = some u1 ∧ W.cell? ⟨g, 2, none⟩ = some u2) ∧ (∀ j, W.frozen? ⟨g, j, none⟩ = false) ∧
      ∀ (k n : Int) (c : Nat), RdP (fun b => B ≤ b ∧ b < w.heap.size) (((W.setCell ⟨g, 0, none⟩ (.int .i64 k)).setCell ⟨g, 1, none⟩ (.int .i64 n)).setCell ⟨g, 2, none⟩ (.slice none 0 c)) (some ⟨g, 0, none⟩) 0 (.mk k n [] :: ts) := by
  obtain ⟨xs, f, h1, h2, h3, h4, h5⟩ := hp
  have hfl := h2.lt
  rcases h1.2 with ⟨_, h0⟩ | ⟨g, cap, cur, rfl, hb, hg, hn, _, hsz, htk⟩
  · simp at h0
  have hgl : g < w.heap.size := (Array.getElem?_eq_some_iff.1 hg).1
  have hxl := h2.length
  refine ⟨g, cap, by simp, hb, hgl, fun W hW => ?_⟩
  have hgW : W.heap[g]? = some (.cells cur 25 (0, 0)) := (hW g hb hgl).trans hg
  have hcells : ∀ j u, xs[j]? = some u → W.cell? ⟨g, j, none⟩ = some u := fun j u hu => by
    rw [cell_of_row W g j cur 25 (0, 0) hgW]
    rw [← htk, List.getElem?_take] at hu
    split at hu
    · simpa using hu
    · cases hu
  simp only [List.length_cons] at hxl
  have g3 : ∀ j, j < 3 → ∃ u, W.cell? ⟨g, j, none⟩ = some u := fun j hj => ⟨xs[j]'(by omega), hcells j _ (List.getElem?_eq_getElem (by omega))⟩
  obtain ⟨u0, c0⟩ := g3 0 (by omega)
  obtain ⟨u1, c1⟩ := g3 1 (by omega)
  obtain ⟨u2, c2⟩ := g3 2 (by omega)
  refine ⟨⟨u0, u1, u2, c0, c1, c2⟩, fun j => by simp [World.frozen?, hgW], fun k n c => ?_⟩
  obtain ⟨x1, x2, f1, f2, rfl, rfl, ht, hx⟩ := OwX.cons_iff.1 h2
  have hgf : g ∉ f1 ++ f2 := h5 g rfl
  have hx1 := ht.length
  have far : ∀ b, b ≠ g → (((W.setCell ⟨g, 0, none⟩ (.int .i64 k)).setCell ⟨g, 1, none⟩ (.int .i64 n)).setCell ⟨g, 2, none⟩ (.slice none 0 c)).heap[b]? = W.heap[b]? := fun b hbg => by
    rw [Below.heap_setCell _ _ _ _ hbg, Below.heap_setCell _ _ _ _ hbg, Below.heap_setCell _ _ _ _ hbg]
  have hx' : OwX (((W.setCell ⟨g, 0, none⟩ (.int .i64 k)).setCell ⟨g, 1, none⟩ (.int .i64 n)).setCell ⟨g, 2, none⟩ (.slice none 0 c)) (.mk k n [] :: ts) ([.int .i64 k, .int .i64 n, .slice none 0 c] ++ x2) ([] ++ f2) :=
    OwX.cons_iff.2 ⟨_, _, _, _, rfl, rfl, OwT.iff.2 ⟨none, c, rfl, by simp, .inl ⟨rfl, rfl⟩⟩, hx.frame fun b hbf => (far b (fun e => hgf (by subst e; simp [hbf]))).trans (hW b (h4 b (by simp [hbf])) (hfl b (by simp [hbf])))⟩
  refine own_rdp.2 _ _ _ hx' (fun b hbf => ⟨h4 b (by simp at hbf; simp [hbf]), hfl b (by simp at hbf; simp [hbf])⟩) g 0 0 ⟨hb, hgl⟩ fun j u hu => ?_
  have e0 : 0 + 0 * 3 + j = j := by omega
  rw [e0]
  have hBk : Blk W g cur := ⟨25, hgW⟩
  have hc3 : 3 ≤ cur.size := by rw [hsz]; simp only [List.length_cons] at hn; omega
  have hB3 := ((hBk.set_ 0 (.int .i64 k)).set_ 1 (.int .i64 n)).set_ 2 (.slice none 0 c)
  match j, hu with
  | 0, hu =>
    simp only [List.cons_append, List.getElem?_cons_zero] at hu
    rw [hB3.cell 0, ← hu]; simp [Array.getElem?_setIfInBounds]; intro h0; subst h0; simp at hc3
  | 1, hu =>
    simp only [List.cons_append, List.getElem?_cons_succ, List.getElem?_cons_zero] at hu
    rw [hB3.cell 1, ← hu]; simp [Array.getElem?_setIfInBounds]; omega
  | 2, hu =>
    simp only [List.cons_append, List.getElem?_cons_succ, List.getElem?_cons_zero] at hu
    rw [hB3.cell 2, ← hu]; simp [Array.getElem?_setIfInBounds]; omega
  | j + 3, hu =>
    rw [cell_set_ne _ (by omega), cell_set_ne _ (by omega), cell_set_ne _ (by omega)]
    refine hcells (j + 3) u ?_
    rw [List.getElem?_append_right (by omega), hx1]
    simpa using hu
end Go.Proofs.YtodkpgkefjegnaaGreatDoor
