/-
 Contracts of the functions that the law reaches, and plain lemmas. No condition.
-/
import Derived.Test.YtddkehjdjfmhmaaK5
import Derived.Test.YtddkehjdjfmhmaaK7
import Derived.Test.YtddkehjdjfmhmaaK9
import Derived.Test.YtddkehjdjfmhmaaK11
import Derived.Test.YtddkehjdjfmhmaaK14
namespace Go.Proofs.Ytddkehjdjfmhmaa
set_option linter.unusedSimpArgs false
set_option linter.unusedVariables false
open Go.RowKit
def prs0 : List Tm := [(.mk 4 0 [(.mk 2 0 []), (.mk 4 0 [(.mk 1 0 []), (.mk 1 0 [])])]), (.mk 4 0 [(.mk 6 0 []), (.mk 11 0 [(.mk 1 0 [])])]), (.mk 4 0 [(.mk 6 0 []), (.mk 4 0 [(.mk 6 0 []), (.mk 9 0 [(.mk 4 0 [(.mk 6 0 []), (.mk 6 0 [])]), (.mk 1 1 []), (.mk 4 0 [(.mk 6 0 []), (.mk 4 0 [(.mk 6 0 []), (.mk 8 0 [(.mk 1 0 [])])])]), (.mk 1 0 [])])])]), (.mk 3 0 [(.mk 6 0 []), (.mk 2 0 [])]), (.mk 5 0 [(.mk 4 0 [(.mk 2 0 []), (.mk 4 0 [(.mk 1 0 []), (.mk 1 0 [])])]), (.mk 6 0 [])]), (.mk 4 0 [(.mk 13 0 [(.mk 6 0 []), (.mk 6 0 [])]), (.mk 14 0 [(.mk 13 0 [(.mk 6 0 []), (.mk 6 0 [])]), (.mk 16 0 [(.mk 1 0 [])]), (.mk 15 0 [(.mk 1 0 [])])])]), (.mk 4 0 [(.mk 6 0 []), (.mk 14 0 [(.mk 13 0 [(.mk 6 0 []), (.mk 10 0 [(.mk 6 0 []), (.mk 1 0 []), (.mk 1 1 [])])]), (.mk 1 0 []), (.mk 11 0 [(.mk 1 0 [])])])]), (.mk 4 0 [(.mk 6 0 []), (.mk 4 0 [(.mk 6 0 []), (.mk 4 0 [(.mk 10 0 [(.mk 6 0 []), (.mk 1 1 []), (.mk 1 0 [])]), (.mk 12 0 [(.mk 4 0 [(.mk 6 0 []), (.mk 10 0 [(.mk 6 0 []), (.mk 1 0 []), (.mk 1 3 [])])]), (.mk 1 0 []), (.mk 11 0 [(.mk 1 2 [])])])])])]), (.mk 9 0 [(.mk 4 0 [(.mk 6 0 []), (.mk 2 0 [])]), (.mk 6 0 []), (.mk 4 0 [(.mk 6 0 []), (.mk 4 0 [(.mk 2 0 []), (.mk 3 0 [(.mk 6 0 []), (.mk 1 1 [])])])]), (.mk 8 0 [(.mk 8 0 [(.mk 7 0 [])])])]), (.mk 3 0 [(.mk 2 0 []), (.mk 3 0 [(.mk 1 0 []), (.mk 1 1 [])])]), (.mk 4 0 [(.mk 2 0 []), (.mk 4 0 [(.mk 3 0 [(.mk 1 0 []), (.mk 1 1 [])]), (.mk 1 0 [])])]), (.mk 2 2 [])]
def prs0X : List (List UInt8) := [[91, 42, 48, 93, 91, 35, 48, 93, 35, 48], [91, 78, 93, 33, 35, 48], [91, 78, 93, 91, 78, 93, 60, 91, 78, 93, 78, 44, 35, 49, 44, 91, 78, 93, 91, 78, 93, 43, 35, 48, 44, 35, 48, 62], [40, 78, 62, 42, 48, 41], [40, 91, 42, 48, 93, 91, 35, 48, 93, 35, 48, 32, 78, 41], [91, 40, 78, 42, 78, 41, 93, 124, 40, 78, 42, 78, 41, 44, 95, 35, 48, 44, 94, 35, 48, 124], [91, 78, 93, 124, 40, 78, 42, 123, 78, 44, 35, 48, 44, 35, 49, 125, 41, 44, 35, 48, 44, 33, 35, 48, 124], [91, 78, 93, 91, 78, 93, 91, 123, 78, 44, 35, 49, 44, 35, 48, 125, 93, 64, 60, 91, 78, 93, 123, 78, 44, 35, 48, 44, 35, 51, 125, 44, 35, 48, 44, 33, 35, 50, 62], [60, 91, 78, 93, 42, 48, 44, 78, 44, 91, 78, 93, 91, 42, 48, 93, 40, 78, 62, 35, 49, 41, 44, 43, 43, 48, 62], [40, 42, 48, 62, 40, 35, 48, 62, 35, 49, 41, 41], [91, 42, 48, 93, 91, 40, 35, 48, 62, 35, 49, 41, 93, 35, 48], [42, 50]]
theorem prs0_0 : Good (.mk 4 0 [(.mk 2 0 []), (.mk 4 0 [(.mk 1 0 []), (.mk 1 0 [])])]) [91, 42, 48, 93, 91, 35, 48, 93, 35, 48] := ⟨Tx.cast (.lam 29 _ _ _ _ (.sort 28 0 48 (by decide)) (.lam 28 _ _ _ _ (.var 27 0 48 (by decide)) (.var 27 0 48 (by decide)))) (by simp [ser]), by decide +kernel, by decide⟩
theorem prs0_1 : Good (.mk 4 0 [(.mk 6 0 []), (.mk 11 0 [(.mk 1 0 [])])]) [91, 78, 93, 33, 35, 48] := ⟨Tx.cast (.lam 29 _ _ _ _ (.nat 28) (.pre 28 11 33 _ _ (.inr (.inl ⟨rfl, rfl⟩)) (.var 27 0 48 (by decide)))) (by simp [ser]), by decide +kernel, by decide⟩
theorem prs0_2 : Good (.mk 4 0 [(.mk 6 0 []), (.mk 4 0 [(.mk 6 0 []), (.mk 9 0 [(.mk 4 0 [(.mk 6 0 []), (.mk 6 0 [])]), (.mk 1 1 []), (.mk 4 0 [(.mk 6 0 []), (.mk 4 0 [(.mk 6 0 []), (.mk 8 0 [(.mk 1 0 [])])])]), (.mk 1 0 [])])])]) [91, 78, 93, 91, 78, 93, 60, 91, 78, 93, 78, 44, 35, 49, 44, 91, 78, 93, 91, 78, 93, 43, 35, 48, 44, 35, 48, 62] := ⟨Tx.cast (.lam 29 _ _ _ _ (.nat 28) (.lam 28 _ _ _ _ (.nat 27) (tx4 (.inl ⟨rfl, rfl, rfl, rfl⟩) (.lam 26 _ _ _ _ (.nat 25) (.nat 25)) (.var 26 1 49 (by decide)) (.lam 26 _ _ _ _ (.nat 25) (.lam 25 _ _ _ _ (.nat 24) (.pre 24 8 43 _ _ (.inl ⟨rfl, rfl⟩) (.var 23 0 48 (by decide))))) (.var 26 0 48 (by decide))))) (by simp [ser]), by decide +kernel, by decide⟩
theorem prs0_3 : Good (.mk 3 0 [(.mk 6 0 []), (.mk 2 0 [])]) [40, 78, 62, 42, 48, 41] := ⟨Tx.cast (.rnd 29 3 62 _ _ _ _ (.inl ⟨rfl, rfl⟩) (.nat 28) (.sort 28 0 48 (by decide))) (by simp [ser]), by decide +kernel, by decide⟩
theorem prs0_4 : Good (.mk 5 0 [(.mk 4 0 [(.mk 2 0 []), (.mk 4 0 [(.mk 1 0 []), (.mk 1 0 [])])]), (.mk 6 0 [])]) [40, 91, 42, 48, 93, 91, 35, 48, 93, 35, 48, 32, 78, 41] := ⟨Tx.cast (.rnd 29 5 32 _ _ _ _ (.inr (.inr ⟨rfl, rfl⟩)) (.lam 28 _ _ _ _ (.sort 27 0 48 (by decide)) (.lam 27 _ _ _ _ (.var 26 0 48 (by decide)) (.var 26 0 48 (by decide)))) (.nat 28)) (by simp [ser]), by decide +kernel, by decide⟩
theorem prs0_5 : Good (.mk 4 0 [(.mk 13 0 [(.mk 6 0 []), (.mk 6 0 [])]), (.mk 14 0 [(.mk 13 0 [(.mk 6 0 []), (.mk 6 0 [])]), (.mk 16 0 [(.mk 1 0 [])]), (.mk 15 0 [(.mk 1 0 [])])])]) [91, 40, 78, 42, 78, 41, 93, 124, 40, 78, 42, 78, 41, 44, 95, 35, 48, 44, 94, 35, 48, 124] := ⟨Tx.cast (.lam 29 _ _ _ _ (.rnd 28 13 42 _ _ _ _ (.inr (.inl ⟨rfl, rfl⟩)) (.nat 27) (.nat 27)) (tx3 (.inr (.inr (.inl ⟨rfl, rfl, rfl, rfl⟩))) (.rnd 27 13 42 _ _ _ _ (.inr (.inl ⟨rfl, rfl⟩)) (.nat 26) (.nat 26)) (.pre 27 16 95 _ _ (.inr (.inr (.inr ⟨rfl, rfl⟩))) (.var 26 0 48 (by decide))) (.pre 27 15 94 _ _ (.inr (.inr (.inl ⟨rfl, rfl⟩))) (.var 26 0 48 (by decide))))) (by simp [ser]), by decide +kernel, by decide⟩
theorem prs0_6 : Good (.mk 4 0 [(.mk 6 0 []), (.mk 14 0 [(.mk 13 0 [(.mk 6 0 []), (.mk 10 0 [(.mk 6 0 []), (.mk 1 0 []), (.mk 1 1 [])])]), (.mk 1 0 []), (.mk 11 0 [(.mk 1 0 [])])])]) [91, 78, 93, 124, 40, 78, 42, 123, 78, 44, 35, 48, 44, 35, 49, 125, 41, 44, 35, 48, 44, 33, 35, 48, 124] := ⟨Tx.cast (.lam 29 _ _ _ _ (.nat 28) (tx3 (.inr (.inr (.inl ⟨rfl, rfl, rfl, rfl⟩))) (.rnd 27 13 42 _ _ _ _ (.inr (.inl ⟨rfl, rfl⟩)) (.nat 26) (tx3 (.inr (.inl ⟨rfl, rfl, rfl, rfl⟩)) (.nat 25) (.var 25 0 48 (by decide)) (.var 25 1 49 (by decide)))) (.var 27 0 48 (by decide)) (.pre 27 11 33 _ _ (.inr (.inl ⟨rfl, rfl⟩)) (.var 26 0 48 (by decide))))) (by simp [ser]), by decide +kernel, by decide⟩
theorem prs0_7 : Good (.mk 4 0 [(.mk 6 0 []), (.mk 4 0 [(.mk 6 0 []), (.mk 4 0 [(.mk 10 0 [(.mk 6 0 []), (.mk 1 1 []), (.mk 1 0 [])]), (.mk 12 0 [(.mk 4 0 [(.mk 6 0 []), (.mk 10 0 [(.mk 6 0 []), (.mk 1 0 []), (.mk 1 3 [])])]), (.mk 1 0 []), (.mk 11 0 [(.mk 1 2 [])])])])])]) [91, 78, 93, 91, 78, 93, 91, 123, 78, 44, 35, 49, 44, 35, 48, 125, 93, 64, 60, 91, 78, 93, 123, 78, 44, 35, 48, 44, 35, 51, 125, 44, 35, 48, 44, 33, 35, 50, 62] := ⟨Tx.cast (.lam 29 _ _ _ _ (.nat 28) (.lam 28 _ _ _ _ (.nat 27) (.lam 27 _ _ _ _ (tx3 (.inr (.inl ⟨rfl, rfl, rfl, rfl⟩)) (.nat 25) (.var 25 1 49 (by decide)) (.var 25 0 48 (by decide))) (tx3 (.inr (.inr (.inr ⟨rfl, rfl, rfl, rfl⟩))) (.lam 25 _ _ _ _ (.nat 24) (tx3 (.inr (.inl ⟨rfl, rfl, rfl, rfl⟩)) (.nat 23) (.var 23 0 48 (by decide)) (.var 23 3 51 (by decide)))) (.var 25 0 48 (by decide)) (.pre 25 11 33 _ _ (.inr (.inl ⟨rfl, rfl⟩)) (.var 24 2 50 (by decide))))))) (by simp [ser]), by decide +kernel, by decide⟩
theorem prs0_8 : Good (.mk 9 0 [(.mk 4 0 [(.mk 6 0 []), (.mk 2 0 [])]), (.mk 6 0 []), (.mk 4 0 [(.mk 6 0 []), (.mk 4 0 [(.mk 2 0 []), (.mk 3 0 [(.mk 6 0 []), (.mk 1 1 [])])])]), (.mk 8 0 [(.mk 8 0 [(.mk 7 0 [])])])]) [60, 91, 78, 93, 42, 48, 44, 78, 44, 91, 78, 93, 91, 42, 48, 93, 40, 78, 62, 35, 49, 41, 44, 43, 43, 48, 62] := ⟨Tx.cast (tx4 (.inl ⟨rfl, rfl, rfl, rfl⟩) (.lam 28 _ _ _ _ (.nat 27) (.sort 27 0 48 (by decide))) (.nat 28) (.lam 28 _ _ _ _ (.nat 27) (.lam 27 _ _ _ _ (.sort 26 0 48 (by decide)) (.rnd 26 3 62 _ _ _ _ (.inl ⟨rfl, rfl⟩) (.nat 25) (.var 25 1 49 (by decide))))) (.pre 28 8 43 _ _ (.inl ⟨rfl, rfl⟩) (.pre 27 8 43 _ _ (.inl ⟨rfl, rfl⟩) (.zero 26)))) (by simp [ser]), by decide +kernel, by decide⟩
theorem prs0_9 : Good (.mk 3 0 [(.mk 2 0 []), (.mk 3 0 [(.mk 1 0 []), (.mk 1 1 [])])]) [40, 42, 48, 62, 40, 35, 48, 62, 35, 49, 41, 41] := ⟨Tx.cast (.rnd 29 3 62 _ _ _ _ (.inl ⟨rfl, rfl⟩) (.sort 28 0 48 (by decide)) (.rnd 28 3 62 _ _ _ _ (.inl ⟨rfl, rfl⟩) (.var 27 0 48 (by decide)) (.var 27 1 49 (by decide)))) (by simp [ser]), by decide +kernel, by decide⟩
theorem prs0_10 : Good (.mk 4 0 [(.mk 2 0 []), (.mk 4 0 [(.mk 3 0 [(.mk 1 0 []), (.mk 1 1 [])]), (.mk 1 0 [])])]) [91, 42, 48, 93, 91, 40, 35, 48, 62, 35, 49, 41, 93, 35, 48] := ⟨Tx.cast (.lam 29 _ _ _ _ (.sort 28 0 48 (by decide)) (.lam 28 _ _ _ _ (.rnd 27 3 62 _ _ _ _ (.inl ⟨rfl, rfl⟩) (.var 26 0 48 (by decide)) (.var 26 1 49 (by decide))) (.var 27 0 48 (by decide)))) (by simp [ser]), by decide +kernel, by decide⟩
theorem prs0_11 : Good (.mk 2 2 []) [42, 50] := ⟨Tx.cast (.sort 29 2 50 (by decide)) (by simp [ser]), by decide +kernel, by decide⟩
theorem prs0_good : GoodL prs0 prs0X := ⟨prs0_0, prs0_1, prs0_2, prs0_3, prs0_4, prs0_5, prs0_6, prs0_7, prs0_8, prs0_9, prs0_10, prs0_11, trivial⟩
def ctx1 : List Tm := [(.mk 2 0 []), (.mk 1 0 []), (.mk 3 0 [(.mk 1 1 []), (.mk 1 2 [])])]
def ctx1X : List (List UInt8) := [[42, 48], [35, 48], [40, 35, 49, 62, 35, 50, 41]]
theorem ctx1_0 : Good (.mk 2 0 []) [42, 48] := ⟨Tx.cast (.sort 29 0 48 (by decide)) (by simp [ser]), by decide +kernel, by decide⟩
theorem ctx1_1 : Good (.mk 1 0 []) [35, 48] := ⟨Tx.cast (.var 29 0 48 (by decide)) (by simp [ser]), by decide +kernel, by decide⟩
theorem ctx1_2 : Good (.mk 3 0 [(.mk 1 1 []), (.mk 1 2 [])]) [40, 35, 49, 62, 35, 50, 41] := ⟨Tx.cast (.rnd 29 3 62 _ _ _ _ (.inl ⟨rfl, rfl⟩) (.var 28 1 49 (by decide)) (.var 28 2 50 (by decide))) (by simp [ser]), by decide +kernel, by decide⟩
theorem ctx1_good : GoodL ctx1 ctx1X := ⟨ctx1_0, ctx1_1, ctx1_2, trivial⟩
def prs1 : List Tm := [(.mk 5 0 [(.mk 1 0 []), (.mk 1 1 [])]), (.mk 11 0 [(.mk 1 1 [])]), (.mk 10 0 [(.mk 1 2 []), (.mk 1 1 []), (.mk 5 0 [(.mk 1 0 []), (.mk 1 1 [])])]), (.mk 4 0 [(.mk 1 2 []), (.mk 1 1 [])]), (.mk 14 0 [(.mk 13 0 [(.mk 1 2 []), (.mk 1 3 [])]), (.mk 1 1 []), (.mk 5 0 [(.mk 1 0 []), (.mk 1 1 [])])]), (.mk 4 0 [(.mk 10 0 [(.mk 1 2 []), (.mk 1 1 []), (.mk 5 0 [(.mk 1 0 []), (.mk 1 1 [])])]), (.mk 12 0 [(.mk 4 0 [(.mk 1 3 []), (.mk 1 4 [])]), (.mk 1 0 []), (.mk 1 2 [])])])]
def prs1X : List (List UInt8) := [[40, 35, 48, 32, 35, 49, 41], [33, 35, 49], [123, 35, 50, 44, 35, 49, 44, 40, 35, 48, 32, 35, 49, 41, 125], [91, 35, 50, 93, 35, 49], [124, 40, 35, 50, 42, 35, 51, 41, 44, 35, 49, 44, 40, 35, 48, 32, 35, 49, 41, 124], [91, 123, 35, 50, 44, 35, 49, 44, 40, 35, 48, 32, 35, 49, 41, 125, 93, 64, 60, 91, 35, 51, 93, 35, 52, 44, 35, 48, 44, 35, 50, 62]]
theorem prs1_0 : Good (.mk 5 0 [(.mk 1 0 []), (.mk 1 1 [])]) [40, 35, 48, 32, 35, 49, 41] := ⟨Tx.cast (.rnd 29 5 32 _ _ _ _ (.inr (.inr ⟨rfl, rfl⟩)) (.var 28 0 48 (by decide)) (.var 28 1 49 (by decide))) (by simp [ser]), by decide +kernel, by decide⟩
theorem prs1_1 : Good (.mk 11 0 [(.mk 1 1 [])]) [33, 35, 49] := ⟨Tx.cast (.pre 29 11 33 _ _ (.inr (.inl ⟨rfl, rfl⟩)) (.var 28 1 49 (by decide))) (by simp [ser]), by decide +kernel, by decide⟩
theorem prs1_2 : Good (.mk 10 0 [(.mk 1 2 []), (.mk 1 1 []), (.mk 5 0 [(.mk 1 0 []), (.mk 1 1 [])])]) [123, 35, 50, 44, 35, 49, 44, 40, 35, 48, 32, 35, 49, 41, 125] := ⟨Tx.cast (tx3 (.inr (.inl ⟨rfl, rfl, rfl, rfl⟩)) (.var 28 2 50 (by decide)) (.var 28 1 49 (by decide)) (.rnd 28 5 32 _ _ _ _ (.inr (.inr ⟨rfl, rfl⟩)) (.var 27 0 48 (by decide)) (.var 27 1 49 (by decide)))) (by simp [ser]), by decide +kernel, by decide⟩
theorem prs1_3 : Good (.mk 4 0 [(.mk 1 2 []), (.mk 1 1 [])]) [91, 35, 50, 93, 35, 49] := ⟨Tx.cast (.lam 29 _ _ _ _ (.var 28 2 50 (by decide)) (.var 28 1 49 (by decide))) (by simp [ser]), by decide +kernel, by decide⟩
theorem prs1_4 : Good (.mk 14 0 [(.mk 13 0 [(.mk 1 2 []), (.mk 1 3 [])]), (.mk 1 1 []), (.mk 5 0 [(.mk 1 0 []), (.mk 1 1 [])])]) [124, 40, 35, 50, 42, 35, 51, 41, 44, 35, 49, 44, 40, 35, 48, 32, 35, 49, 41, 124] := ⟨Tx.cast (tx3 (.inr (.inr (.inl ⟨rfl, rfl, rfl, rfl⟩))) (.rnd 28 13 42 _ _ _ _ (.inr (.inl ⟨rfl, rfl⟩)) (.var 27 2 50 (by decide)) (.var 27 3 51 (by decide))) (.var 28 1 49 (by decide)) (.rnd 28 5 32 _ _ _ _ (.inr (.inr ⟨rfl, rfl⟩)) (.var 27 0 48 (by decide)) (.var 27 1 49 (by decide)))) (by simp [ser]), by decide +kernel, by decide⟩
theorem prs1_5 : Good (.mk 4 0 [(.mk 10 0 [(.mk 1 2 []), (.mk 1 1 []), (.mk 5 0 [(.mk 1 0 []), (.mk 1 1 [])])]), (.mk 12 0 [(.mk 4 0 [(.mk 1 3 []), (.mk 1 4 [])]), (.mk 1 0 []), (.mk 1 2 [])])]) [91, 123, 35, 50, 44, 35, 49, 44, 40, 35, 48, 32, 35, 49, 41, 125, 93, 64, 60, 91, 35, 51, 93, 35, 52, 44, 35, 48, 44, 35, 50, 62] := ⟨Tx.cast (.lam 29 _ _ _ _ (tx3 (.inr (.inl ⟨rfl, rfl, rfl, rfl⟩)) (.var 27 2 50 (by decide)) (.var 27 1 49 (by decide)) (.rnd 27 5 32 _ _ _ _ (.inr (.inr ⟨rfl, rfl⟩)) (.var 26 0 48 (by decide)) (.var 26 1 49 (by decide)))) (tx3 (.inr (.inr (.inr ⟨rfl, rfl, rfl, rfl⟩))) (.lam 27 _ _ _ _ (.var 26 3 51 (by decide)) (.var 26 4 52 (by decide))) (.var 27 0 48 (by decide)) (.var 27 2 50 (by decide)))) (by simp [ser]), by decide +kernel, by decide⟩
theorem prs1_good : GoodL prs1 prs1X := ⟨prs1_0, prs1_1, prs1_2, prs1_3, prs1_4, prs1_5, trivial⟩
def ctx2 : List Tm := [(.mk 6 0 []), (.mk 10 0 [(.mk 6 0 []), (.mk 1 0 []), (.mk 8 0 [(.mk 7 0 [])])])]
def ctx2X : List (List UInt8) := [[78], [123, 78, 44, 35, 48, 44, 43, 48, 125]]
theorem ctx2_0 : Good (.mk 6 0 []) [78] := ⟨Tx.cast (.nat 29) (by simp [ser]), by decide +kernel, by decide⟩
theorem ctx2_1 : Good (.mk 10 0 [(.mk 6 0 []), (.mk 1 0 []), (.mk 8 0 [(.mk 7 0 [])])]) [123, 78, 44, 35, 48, 44, 43, 48, 125] := ⟨Tx.cast (tx3 (.inr (.inl ⟨rfl, rfl, rfl, rfl⟩)) (.nat 28) (.var 28 0 48 (by decide)) (.pre 28 8 43 _ _ (.inl ⟨rfl, rfl⟩) (.zero 27))) (by simp [ser]), by decide +kernel, by decide⟩
theorem ctx2_good : GoodL ctx2 ctx2X := ⟨ctx2_0, ctx2_1, trivial⟩
def prs2 : List Tm := [(.mk 1 0 []), (.mk 12 0 [(.mk 4 0 [(.mk 6 0 []), (.mk 10 0 [(.mk 6 0 []), (.mk 8 0 [(.mk 1 2 [])]), (.mk 8 0 [(.mk 1 0 [])])])]), (.mk 1 0 []), (.mk 11 0 [(.mk 8 0 [(.mk 1 1 [])])])]), (.mk 8 0 [(.mk 1 1 [])]), (.mk 12 0 [(.mk 4 0 [(.mk 6 0 []), (.mk 6 0 [])]), (.mk 1 0 []), (.mk 1 1 [])]), (.mk 9 0 [(.mk 4 0 [(.mk 6 0 []), (.mk 6 0 [])]), (.mk 7 0 []), (.mk 4 0 [(.mk 6 0 []), (.mk 4 0 [(.mk 6 0 []), (.mk 1 1 [])])]), (.mk 1 1 [])])]
def prs2X : List (List UInt8) := [[35, 48], [64, 60, 91, 78, 93, 123, 78, 44, 43, 35, 50, 44, 43, 35, 48, 125, 44, 35, 48, 44, 33, 43, 35, 49, 62], [43, 35, 49], [64, 60, 91, 78, 93, 78, 44, 35, 48, 44, 35, 49, 62], [60, 91, 78, 93, 78, 44, 48, 44, 91, 78, 93, 91, 78, 93, 35, 49, 44, 35, 49, 62]]
theorem prs2_0 : Good (.mk 1 0 []) [35, 48] := ⟨Tx.cast (.var 29 0 48 (by decide)) (by simp [ser]), by decide +kernel, by decide⟩
theorem prs2_1 : Good (.mk 12 0 [(.mk 4 0 [(.mk 6 0 []), (.mk 10 0 [(.mk 6 0 []), (.mk 8 0 [(.mk 1 2 [])]), (.mk 8 0 [(.mk 1 0 [])])])]), (.mk 1 0 []), (.mk 11 0 [(.mk 8 0 [(.mk 1 1 [])])])]) [64, 60, 91, 78, 93, 123, 78, 44, 43, 35, 50, 44, 43, 35, 48, 125, 44, 35, 48, 44, 33, 43, 35, 49, 62] := ⟨Tx.cast (tx3 (.inr (.inr (.inr ⟨rfl, rfl, rfl, rfl⟩))) (.lam 28 _ _ _ _ (.nat 27) (tx3 (.inr (.inl ⟨rfl, rfl, rfl, rfl⟩)) (.nat 26) (.pre 26 8 43 _ _ (.inl ⟨rfl, rfl⟩) (.var 25 2 50 (by decide))) (.pre 26 8 43 _ _ (.inl ⟨rfl, rfl⟩) (.var 25 0 48 (by decide))))) (.var 28 0 48 (by decide)) (.pre 28 11 33 _ _ (.inr (.inl ⟨rfl, rfl⟩)) (.pre 27 8 43 _ _ (.inl ⟨rfl, rfl⟩) (.var 26 1 49 (by decide))))) (by simp [ser]), by decide +kernel, by decide⟩
theorem prs2_2 : Good (.mk 8 0 [(.mk 1 1 [])]) [43, 35, 49] := ⟨Tx.cast (.pre 29 8 43 _ _ (.inl ⟨rfl, rfl⟩) (.var 28 1 49 (by decide))) (by simp [ser]), by decide +kernel, by decide⟩
theorem prs2_3 : Good (.mk 12 0 [(.mk 4 0 [(.mk 6 0 []), (.mk 6 0 [])]), (.mk 1 0 []), (.mk 1 1 [])]) [64, 60, 91, 78, 93, 78, 44, 35, 48, 44, 35, 49, 62] := ⟨Tx.cast (tx3 (.inr (.inr (.inr ⟨rfl, rfl, rfl, rfl⟩))) (.lam 28 _ _ _ _ (.nat 27) (.nat 27)) (.var 28 0 48 (by decide)) (.var 28 1 49 (by decide))) (by simp [ser]), by decide +kernel, by decide⟩
theorem prs2_4 : Good (.mk 9 0 [(.mk 4 0 [(.mk 6 0 []), (.mk 6 0 [])]), (.mk 7 0 []), (.mk 4 0 [(.mk 6 0 []), (.mk 4 0 [(.mk 6 0 []), (.mk 1 1 [])])]), (.mk 1 1 [])]) [60, 91, 78, 93, 78, 44, 48, 44, 91, 78, 93, 91, 78, 93, 35, 49, 44, 35, 49, 62] := ⟨Tx.cast (tx4 (.inl ⟨rfl, rfl, rfl, rfl⟩) (.lam 28 _ _ _ _ (.nat 27) (.nat 27)) (.zero 28) (.lam 28 _ _ _ _ (.nat 27) (.lam 27 _ _ _ _ (.nat 26) (.var 26 1 49 (by decide)))) (.var 28 1 49 (by decide))) (by simp [ser]), by decide +kernel, by decide⟩
theorem prs2_good : GoodL prs2 prs2X := ⟨prs2_0, prs2_1, prs2_2, prs2_3, prs2_4, trivial⟩
def ctx3 : List Tm := [(.mk 3 0 [(.mk 6 0 []), (.mk 2 0 [])]), (.mk 3 0 [(.mk 6 0 []), (.mk 5 0 [(.mk 1 1 []), (.mk 1 0 [])])])]
def ctx3X : List (List UInt8) := [[40, 78, 62, 42, 48, 41], [40, 78, 62, 40, 35, 49, 32, 35, 48, 41, 41]]
theorem ctx3_0 : Good (.mk 3 0 [(.mk 6 0 []), (.mk 2 0 [])]) [40, 78, 62, 42, 48, 41] := ⟨Tx.cast (.rnd 29 3 62 _ _ _ _ (.inl ⟨rfl, rfl⟩) (.nat 28) (.sort 28 0 48 (by decide))) (by simp [ser]), by decide +kernel, by decide⟩
theorem ctx3_1 : Good (.mk 3 0 [(.mk 6 0 []), (.mk 5 0 [(.mk 1 1 []), (.mk 1 0 [])])]) [40, 78, 62, 40, 35, 49, 32, 35, 48, 41, 41] := ⟨Tx.cast (.rnd 29 3 62 _ _ _ _ (.inl ⟨rfl, rfl⟩) (.nat 28) (.rnd 28 5 32 _ _ _ _ (.inr (.inr ⟨rfl, rfl⟩)) (.var 27 1 49 (by decide)) (.var 27 0 48 (by decide)))) (by simp [ser]), by decide +kernel, by decide⟩
theorem ctx3_good : GoodL ctx3 ctx3X := ⟨ctx3_0, ctx3_1, trivial⟩
def prs3 : List Tm := [(.mk 5 0 [(.mk 1 0 []), (.mk 7 0 [])]), (.mk 4 0 [(.mk 6 0 []), (.mk 5 0 [(.mk 1 1 []), (.mk 1 0 [])])]), (.mk 5 0 [(.mk 1 1 []), (.mk 8 0 [(.mk 8 0 [(.mk 7 0 [])])])]), (.mk 4 0 [(.mk 6 0 []), (.mk 4 0 [(.mk 10 0 [(.mk 6 0 []), (.mk 1 0 []), (.mk 7 0 [])]), (.mk 12 0 [(.mk 1 3 []), (.mk 1 0 []), (.mk 5 0 [(.mk 1 2 []), (.mk 1 1 [])])])])])]
def prs3X : List (List UInt8) := [[40, 35, 48, 32, 48, 41], [91, 78, 93, 40, 35, 49, 32, 35, 48, 41], [40, 35, 49, 32, 43, 43, 48, 41], [91, 78, 93, 91, 123, 78, 44, 35, 48, 44, 48, 125, 93, 64, 60, 35, 51, 44, 35, 48, 44, 40, 35, 50, 32, 35, 49, 41, 62]]
theorem prs3_0 : Good (.mk 5 0 [(.mk 1 0 []), (.mk 7 0 [])]) [40, 35, 48, 32, 48, 41] := ⟨Tx.cast (.rnd 29 5 32 _ _ _ _ (.inr (.inr ⟨rfl, rfl⟩)) (.var 28 0 48 (by decide)) (.zero 28)) (by simp [ser]), by decide +kernel, by decide⟩
theorem prs3_1 : Good (.mk 4 0 [(.mk 6 0 []), (.mk 5 0 [(.mk 1 1 []), (.mk 1 0 [])])]) [91, 78, 93, 40, 35, 49, 32, 35, 48, 41] := ⟨Tx.cast (.lam 29 _ _ _ _ (.nat 28) (.rnd 28 5 32 _ _ _ _ (.inr (.inr ⟨rfl, rfl⟩)) (.var 27 1 49 (by decide)) (.var 27 0 48 (by decide)))) (by simp [ser]), by decide +kernel, by decide⟩
theorem prs3_2 : Good (.mk 5 0 [(.mk 1 1 []), (.mk 8 0 [(.mk 8 0 [(.mk 7 0 [])])])]) [40, 35, 49, 32, 43, 43, 48, 41] := ⟨Tx.cast (.rnd 29 5 32 _ _ _ _ (.inr (.inr ⟨rfl, rfl⟩)) (.var 28 1 49 (by decide)) (.pre 28 8 43 _ _ (.inl ⟨rfl, rfl⟩) (.pre 27 8 43 _ _ (.inl ⟨rfl, rfl⟩) (.zero 26)))) (by simp [ser]), by decide +kernel, by decide⟩
theorem prs3_3 : Good (.mk 4 0 [(.mk 6 0 []), (.mk 4 0 [(.mk 10 0 [(.mk 6 0 []), (.mk 1 0 []), (.mk 7 0 [])]), (.mk 12 0 [(.mk 1 3 []), (.mk 1 0 []), (.mk 5 0 [(.mk 1 2 []), (.mk 1 1 [])])])])]) [91, 78, 93, 91, 123, 78, 44, 35, 48, 44, 48, 125, 93, 64, 60, 35, 51, 44, 35, 48, 44, 40, 35, 50, 32, 35, 49, 41, 62] := ⟨Tx.cast (.lam 29 _ _ _ _ (.nat 28) (.lam 28 _ _ _ _ (tx3 (.inr (.inl ⟨rfl, rfl, rfl, rfl⟩)) (.nat 26) (.var 26 0 48 (by decide)) (.zero 26)) (tx3 (.inr (.inr (.inr ⟨rfl, rfl, rfl, rfl⟩))) (.var 26 3 51 (by decide)) (.var 26 0 48 (by decide)) (.rnd 26 5 32 _ _ _ _ (.inr (.inr ⟨rfl, rfl⟩)) (.var 25 2 50 (by decide)) (.var 25 1 49 (by decide)))))) (by simp [ser]), by decide +kernel, by decide⟩
theorem prs3_good : GoodL prs3 prs3X := ⟨prs3_0, prs3_1, prs3_2, prs3_3, trivial⟩
open Go.RowKit
open Go.RowKit
open Go.RowKit
open Go.RowKit
open Go.RowKit
def RdPF (B : Nat) (w : World) (A : Option Addr) (ps : List (List Int)) : Prop := ∀ j (hj : j < ps.length), ∃ b off P c, A = some ⟨b, off, none⟩ ∧ B ≤ b ∧ w.cell? ⟨b, off + j, none⟩ = some (.slice P ps[j].length c) ∧ RdI w P ps[j] ∧ ps[j].length ≤ c ∧ ∀ a, P = some a → B ≤ a.block
theorem RowP.formF {B : Nat} {w : World} {v : Value} {ps : List (List Int)} (h : RowP B w v ps) : ∃ A c, v = .slice A ps.length c ∧ RdPF B w A ps := by
 obtain ⟨vs, h1, h2⟩ := h
 rcases h1.2 with ⟨rfl, h0⟩ | ⟨g, cap, cur, rfl, hb, hg, hn, hm, hs, htk⟩
 ·have : ps = [] := List.eq_nil_of_length_eq_zero h0
  subst this
  exact ⟨none, 0, rfl, fun j hj => absurd hj (Nat.not_lt_zero _)⟩
 ·refine ⟨some ⟨g, 0, none⟩, cap, rfl, fun j hj => ?_⟩
  obtain ⟨A, c, e, hi, hcl, hne⟩ := h2 j hj
  refine ⟨g, 0, A, c, rfl, hb, ?_, hi, hcl, fun a ha => (hne a ha).1⟩
  rw [Nat.zero_add, cell_of_row w g j cur 26 (0, 0) hg]
  rw [← htk, Nat.mul_one, List.getElem?_take, if_pos hj] at e
  simpa using e
theorem RdPF.below {B : Nat} {w w' : World} {A : Option Addr} {ps : List (List Int)} (h : RdPF B w A ps) (hb : Below w.heap.size w w') : RdPF B w' A ps := fun j hj => by
 obtain ⟨b, off, P, c, hA, h1, hc, hi, hcl, h2⟩ := h j hj
 have hk : Keeps w w' := .of_below hb
 exact ⟨b, off, P, c, hA, h1, hk _ _ hc, hi.keeps hk, hcl, h2⟩
theorem RdPF.grown {B r : Nat} {w w' : World} {A : Option Addr} {ps : List (List Int)} (h : RdPF B w A ps) (hb : w.grownBy w' (some r)) (hr : r < B) : RdPF B w' A ps := fun j hj => by
 obtain ⟨b, off, P, c, hA, h1, hc, hi, hcl, h2⟩ := h j hj
 refine ⟨b, off, P, c, hA, h1, ?_, hi.grown hb (fun a ha e => by have := h2 a ha; injection e; omega), hcl, h2⟩
 exact (World.cell?_of_block (w := w) (a := ⟨b, off + j, none⟩) (hb.block b (World.block_lt_of_cell? w _ hc) (fun e => by injection e; omega))).trans hc
theorem RdPF.at_ {B : Nat} {w : World} {A : Option Addr} {ps : List (List Int)} (h : RdPF B w A ps) (j : Nat) (hj : j < ps.length) : ∃ b off P c xs, A = some ⟨b, off, none⟩ ∧ B ≤ b ∧ xs ∈ ps ∧ w.cell? ⟨b, off + j, none⟩ = some (.slice P xs.length c) ∧ RdI w P xs ∧ xs.length ≤ c ∧ ∀ a, P = some a → B ≤ a.block := by
 obtain ⟨b, off, P, c, hA, h1, hc, hi, hcl, h2⟩ := h j hj
 exact ⟨b, off, P, c, ps[j], hA, h1, List.getElem_mem hj, hc, hi, hcl, h2⟩
mutual
theorem plT_sub (f : Tm → Bool) : ∀ (t : Tm) (p x : List Int), x ∈ plT f p t → x ∈ plT allT p t
 | .mk k n ks, p, x, h => by
  rw [plT, if_pos (show allT (.mk k n ks) = true from rfl)]
  rw [plT] at h
  rcases List.mem_append.1 h with h | h
  ·split at h
   ·exact List.mem_append.2 (.inl h)
   ·cases h
  ·exact List.mem_append.2 (.inr (plL_sub f ks p 0 x h))
theorem plL_sub (f : Tm → Bool) : ∀ (ts : List Tm) (p : List Int) (i : Nat) (x : List Int), x ∈ plL f p i ts → x ∈ plL allT p i ts
 | [], p, i, x, h => by rw [plL] at h; cases h
 | t :: ts, p, i, x, h => by
  rw [plL] at h ⊢
  rcases List.mem_append.1 h with h | h
  ·exact List.mem_append.2 (.inl (plT_sub f t _ x h))
  ·exact List.mem_append.2 (.inr (plL_sub f ts _ _ x h))
end
set_option maxHeartbeats 4000000 in
set_option maxRecDepth 100000 in
theorem redexF_any (k n : Int) (ks : List Tm) (A : Option Addr) (c : Nat) (w : World) (hv : validT (.mk k n ks) = true) (hr : Rd w A 0 ks) :
  Calls Try.prog 36 #[.agg #[.int .i64 k, .int .i64 n, .slice A ks.length c]] w (fun e w' => ∃ g c2, e = .returned (.slice g (plT rdT [] (.mk k n ks)).length c2) ∧ Below w.heap.size w w' ∧ RdPF w.heap.size w' g (plT rdT [] (.mk k n ks))) := by
 have hlen := length_le_sizes ks
 have hzk := validT_size hv
 rw [Tm.size] at hzk
 have hv' := hide hv
 clear hv
 go_enter Try.func36, Try.ntmps36
 go_wp2_with (first
  | (go_at_call 55; refine name_callsC ?_; intro wx hwx; have bx : Below w1.heap.size w1 wx := (by rw [hwx]; exact by_alloc (by_alloc (by_refl _) _) _); have hRx : RowP w.heap.size wx (.slice (some ⟨w1.heap.size, 0, none⟩) 0 0) [] := (by rw [hwx]; exact (RowP.empty w1 g1.size).alloc _); have lx1 : w1.heap.size + 1 < wx.heap.size := (by rw [hwx]; simp); clear hwx; have rx := ((hr.rdp.mono (q := fun b => b < w.heap.size) (fun b hb => hb)).below g1).below bx; refine (l8Red_any w.heap.size _ k n ks A c [] (w1.heap.size + 1) 0 [] (some ⟨w1.heap.size, 0, none⟩) 0 wx hv'.out (Nat.lt_succ_self _) (by omega) (by simp; omega) (by simp; omega) (by have := g1.size; omega) rx (fun j hj => absurd hj (Nat.not_lt_zero _)) (Nat.le_refl _) (by omega) (by simp [Value.ownBlock]) hRx).mono ?_; rintro e w2 ⟨A2, c2, rfl, hR2, hg2, ho2⟩)
  | (go_at_call 30; refine (sTermValid_any k n ks A c _ (by omega) (hr.alloc _)).mono ?_; rw [hv'.out]; rintro e w1 ⟨rfl, hb1⟩; have hX := (Blk.new_ w 25 #[.int .i64 k, .int .i64 n, .slice A ks.length c] rfl).keep hb1; obtain ⟨x0, x1, x2⟩ := hX.three; have lX := hX.lt; have lX1 : w.heap.size < w1.heap.size + 1 := (by omega); have g1 : Below w.heap.size w w1 := (by_alloc (by_refl _) _).trans (hb1.mono (by simp))))
 go_ret
 rw [List.nil_append] at hR2
 have s1 := g1.size
 have sx := bx.size
 have hb2 : Below w.heap.size w w2 := by
  have hbx := g1.trans (bx.mono s1)
  exact ⟨hg2.os.trans hbx.os, hg2.tape.trans hbx.tape, hg2.output.trans hbx.output, Nat.le_trans hbx.size hg2.size, fun i hi => (hg2.block i (by omega) (by simp [Value.ownBlock]; omega)).trans (hbx.block i hi)⟩
 obtain ⟨A3, c3, e3, h3⟩ := hR2.formF
 injection e3 with e4 e5 e6
 subst e4 e6
 exact ⟨A2, c2, rfl, hb2, h3⟩
theorem RdPF.mono {B B' : Nat} {w : World} {A : Option Addr} {ps : List (List Int)} (h : RdPF B w A ps) (hB : B' ≤ B) : RdPF B' w A ps := fun j hj => by
 obtain ⟨b, off, P, c, hA, h1, hc, hi, hcl, h2⟩ := h j hj
 exact ⟨b, off, P, c, hA, by omega, hc, hi, hcl, fun a ha => by have := h2 a ha; omega⟩
theorem placesF_any (k n : Int) (ks : List Tm) (A : Option Addr) (c : Nat) (w : World) (hv : validT (.mk k n ks) = true) (hr : Rd w A 0 ks) :
  Calls Try.prog 35 #[.agg #[.int .i64 k, .int .i64 n, .slice A ks.length c]] w (fun e w' => ∃ g c2, e = .returned (.slice (some ⟨g, 0, none⟩) (plT allT [] (.mk k n ks)).length c2) ∧ Below w.heap.size w w' ∧ RdPF w.heap.size w' (some ⟨g, 0, none⟩) (plT allT [] (.mk k n ks))) := by
 refine (placesOf_any k n ks A c w hv hr).mono ?_
 rintro e w1 ⟨g, c1, rfl, hgB, hgl, hb1, hrow⟩
 refine ⟨g, c1, rfl, hb1, fun j hj => ?_⟩
 obtain ⟨P, cp, h1, h2, h3, h4⟩ := hrow j hj
 exact ⟨g, 0, P, cp, rfl, hgB, by simpa using h1, h2, h3, fun a ha => h4 a ha⟩
def DrawnP (B : Nat) (w : World) (r p : Nat) (e : Ending) (w' : World) : Prop :=
 ∃ (P : Option Addr) (xs : List Int) (cp p' : Nat), e = .returned (.slice P xs.length cp) ∧ xs.length ≤ cp ∧ xs.length ≤ 401 ∧ RdI w' P xs ∧ (∀ a, P = some a → w.heap.size ≤ a.block) ∧ p' ≤ p + 5 ∧ Rdr B w' r p' ∧ w.grownBy w' (some r)
theorem pl_len401 {k n : Int} {ks : List Tm} (hz : sizes ks ≤ 400) {f : Tm → Bool} {x : List Int} (hx : x ∈ plT f [] (.mk k n ks)) : x.length ≤ 401 := by
 have h := plT_len (.mk k n ks) [] x (plT_sub f _ _ _ hx)
 rw [Tm.size] at h
 simp at h
 omega
set_option maxHeartbeats 16000000 in
set_option maxRecDepth 100000 in
theorem path_any (B r p : Nat) (k n : Int) (ks : List Tm) (A : Option Addr) (c : Nat) (w : World) (hp : p ≤ 900000000) (hB : B ≤ w.heap.size) (hR : Rdr B w r p) (hv : validT (.mk k n ks) = true) (hr : Rd w A 0 ks) :
  Calls Try.prog 13 #[.pointer (some ⟨r, 0, none⟩), .agg #[.int .i64 k, .int .i64 n, .slice A ks.length c]] w (DrawnP B w r p) := by
 have hz4 := validT_size' hv
 have hrl := hR.lt
 have hv' := hide hv
 clear hv
 obtain ⟨rs, hrs⟩ : ∃ rs, plT rdT [] (.mk k n ks) = rs := ⟨_, rfl⟩
 obtain ⟨ps, hps⟩ : ∃ ps, plT allT [] (.mk k n ks) = ps := ⟨_, rfl⟩
 have hrm : Hid (∀ x ∈ rs, x.length ≤ 401) := hide (fun x hx => pl_len401 hz4 (by rw [hrs]; exact hx))
 have hpm : Hid (∀ x ∈ ps, x.length ≤ 401) := hide (fun x hx => pl_len401 hz4 (by rw [hps]; exact hx))
 have hpl : ps.length = sizes ks + 1 := by rw [← hps, pl_length, Tm.size]
 have hpl1 : 1 ≤ ps.length := by omega
 have hpl2 : ps.length ≤ 401 := by omega
 have hrl2 : rs.length ≤ 401 := by rw [← hrs]; have := plT_le rdT (.mk k n ks) []; rw [Tm.size] at this; omega
 have hrs' := hide hrs
 have hps' := hide hps
 clear hrs hps hpl
 by_cases hr0 : rs = []
 ·subst hr0
  have tokA := trivial
  go_enter Try.func13, Try.ntmps13
  go_wp2_with (first
  | (go_at_call 36; have _t := tokB; refine (redexF_any k n ks A c _ hv'.out hr1).mono ?_; rw [hrs'.out]; rintro e w2 ⟨gr, c2, rfl, hb2, hrF2⟩; replace hrF2 := hrF2.mono s1; have g2 : Below w.heap.size w w2 := g1.trans (hb2.mono s1); have hpF2 := hpF1.below hb2; have hX2 := hX1.keep hb2; have s2 := hb2.size; have hR2 := hR.below g2 hB; clear tokB _t; have tokC := trivial)
  | (go_at_call 35; have _t := tokA; refine (placesF_any k n ks A c _ hv'.out (hr.alloc _)).mono ?_; rw [hps'.out]; rintro e w1 ⟨g, c1, rfl, hb1, hpF1⟩; replace hpF1 : RdPF w.heap.size w1 (some ⟨g, 0, none⟩) ps := hpF1.mono (by simp); have hX1 := (Blk.new_ w 25 #[.int .i64 k, .int .i64 n, .slice A ks.length c] rfl).keep hb1; obtain ⟨x0, x1, x2⟩ := hX1.three; have lX := hX1.lt; have g1 : Below w.heap.size w w1 := (by_alloc (by_refl _) _).trans (hb1.mono (by simp)); have s1 := g1.size; have hr1 := hr.below g1; clear tokA _t; have tokB := trivial))
  have gw2 : w.grownBy w2 (some r) := only_below (World.grownBy.refl _ _) g2
  have s2w := g2.size
  refine (pick_any B r (p) 10 _ (by omega) (by omega) (by omega) hR2).mono ?_
  rintro e w4 ⟨m4, rfl, hm4, -, hR4, hg4⟩
  clear hm4
  have g4 := grown_trans gw2 hg4
  have hpF4 := hpF2.grown hg4 (by omega)
  have s4 := g4.size
  by_cases h4 : m4 = 0
  ·subst h4
   have tokN := trivial
   go_wp2_with (first
    | (go_at_call 27; have _t := tokM; refine (num_any [0, 1, 9223372036854775807] B r (p + 1 + 1) w5.heap.size _ (by decide) (by decide) (by omega) (by simp; omega) (hR5.alloc (by omega) _) (Blk.new_ _ 3 (intc [0, 1, 9223372036854775807]) (by simp)) (by omega)).mono ?_; rintro e w6 ⟨i6, -, rfl, hR6, hg6⟩; have g6 := grown_trans (only_alloc g5 _) hg6; have s6 := g6.size; clear tokM _t)
    | (go_at_call 27; have _t := tokN; refine (num_any [0, 1, 4, -1] B r (p + 1) w4.heap.size _ (by decide) (by decide) (by omega) (by simp; omega) (hR4.alloc (by omega) _) (Blk.new_ _ 3 (intc [0, 1, 4, -1]) (by simp)) (by omega)).mono ?_; rintro e w5 ⟨i5, -, rfl, hR5, hg5⟩; have g5 := grown_trans (only_alloc g4 _) hg5; have s5 := g5.size; clear tokN _t; have tokM := trivial))
   go_ret
   refine ⟨some ⟨w6.heap.size, 0, none⟩, [i5, i6], 2, p + 1 + 1 + 1, rfl, by simp, by simp, ?_, fun a ha => by injection ha with ha; rw [← ha]; show w.heap.size ≤ w6.heap.size; omega, by omega, hR6.alloc (by omega) _, only_alloc g6 _⟩
   intro j hj
   refine ⟨w6.heap.size, 0, rfl, ?_⟩
   have hN : Blk (w6.alloc (.cells #[.int .i64 i5, .int .i64 i6] 3)) w6.heap.size #[.int .i64 i5, .int .i64 i6] := Blk.new_ _ 3 _ (by simp)
   have h2 : j < 2 := hj
   rcases j with _ | _ | j
   ·exact hN.at_ (i := 0) rfl
   ·exact hN.at_ (i := 1) rfl
   ·omega
  ·have q4 : (0 : Int) < (m4 : Int) := by omega
   have q4n : 0 < m4 := by omega
   have tokL := trivial
   go_wp2_with (go_at_call 12; have _t := tokL; refine (pick_any B r (p + 1) (ps.length : Int) _ (by omega) (by omega) (by omega) hR4).mono ?_; rintro e w9 ⟨m9, rfl, hm9, -, hR9, hg9⟩; have hm9' : m9 < ps.length := (by have := hm9 (by omega); omega); clear hm9; obtain ⟨b9, o9, P9, c9, xs9, eA9, hb9, hx9, hc9, hi9, hl9, hB9⟩ := (hpF4.grown hg9 (by omega)).at_ m9 hm9'; (first | subst eA9 | (injection eA9 with eA9; injection eA9 with eA1 eA2; subst eA1 eA2; rw [Nat.zero_add] at hc9)); have hlm : (m9 : Int) < (ps.length : Int) := (by omega); have hm9p : 0 ≤ (m9 : Int) := (by omega); have g9 := grown_trans g4 hg9; clear tokL _t)
   go_ret
   exact ⟨P9, xs9, c9, p + 1 + 1, rfl, hl9, hpm.out _ hx9, hi9, hB9, by omega, hR9, g9⟩
 ·have hrl1 : 1 ≤ rs.length := by
   rcases rs with _ | ⟨x, xs⟩
   ·exact absurd rfl hr0
   ·simp
  have hrq : (0 : Int) < (rs.length : Int) := by omega
  clear hr0
  have tokA := trivial
  go_enter Try.func13, Try.ntmps13
  go_wp2_with (first
  | (go_at_call 36; have _t := tokB; refine (redexF_any k n ks A c _ hv'.out hr1).mono ?_; rw [hrs'.out]; rintro e w2 ⟨gr, c2, rfl, hb2, hrF2⟩; replace hrF2 := hrF2.mono s1; have g2 : Below w.heap.size w w2 := g1.trans (hb2.mono s1); have hpF2 := hpF1.below hb2; have hX2 := hX1.keep hb2; have s2 := hb2.size; have hR2 := hR.below g2 hB; clear tokB _t; have tokC := trivial)
  | (go_at_call 35; have _t := tokA; refine (placesF_any k n ks A c _ hv'.out (hr.alloc _)).mono ?_; rw [hps'.out]; rintro e w1 ⟨g, c1, rfl, hb1, hpF1⟩; replace hpF1 : RdPF w.heap.size w1 (some ⟨g, 0, none⟩) ps := hpF1.mono (by simp); have hX1 := (Blk.new_ w 25 #[.int .i64 k, .int .i64 n, .slice A ks.length c] rfl).keep hb1; obtain ⟨x0, x1, x2⟩ := hX1.three; have lX := hX1.lt; have g1 : Below w.heap.size w w1 := (by_alloc (by_refl _) _).trans (hb1.mono (by simp)); have s1 := g1.size; have hr1 := hr.below g1; clear tokA _t; have tokB := trivial))
  have gw2 : w.grownBy w2 (some r) := only_below (World.grownBy.refl _ _) g2
  have s2w := g2.size
  refine (pick_any B r p 2 _ (by omega) (by omega) (by omega) hR2).mono ?_
  rintro e w3 ⟨m3, rfl, hm3, -, hR3, hg3⟩
  clear hm3
  have g3 := grown_trans gw2 hg3
  have hpF3 := hpF2.grown hg3 (by omega)
  have hrF3 := hrF2.grown hg3 (by omega)
  have s3 := g3.size
  by_cases h3 : m3 = 0
  ·subst h3
   have tokL := trivial
   go_wp2_with (go_at_call 12; have _t := tokL; refine (pick_any B r (p + 1) (rs.length : Int) _ (by omega) (by omega) (by omega) hR3).mono ?_; rintro e w9 ⟨m9, rfl, hm9, -, hR9, hg9⟩; have hm9' : m9 < rs.length := (by have := hm9 (by omega); omega); clear hm9; obtain ⟨b9, o9, P9, c9, xs9, eA9, hb9, hx9, hc9, hi9, hl9, hB9⟩ := (hrF3.grown hg9 (by omega)).at_ m9 hm9'; (first | subst eA9 | (injection eA9 with eA9; injection eA9 with eA1 eA2; subst eA1 eA2; rw [Nat.zero_add] at hc9)); have hlm : (m9 : Int) < (rs.length : Int) := (by omega); have hm9p : 0 ≤ (m9 : Int) := (by omega); have g9 := grown_trans g3 hg9; clear tokL _t)
   go_ret
   exact ⟨P9, xs9, c9, p + 1 + 1, rfl, hl9, hrm.out _ hx9, hi9, hB9, by omega, hR9, g9⟩
  ·have q3 : ((m3 : Int) == 0) = false := by simpa using h3
   have q3b : ¬ (m3 : Int) = 0 := by omega
   clear h3
   go_wp2_with fail
   refine (pick_any B r (p + 1) 10 _ (by omega) (by omega) (by omega) hR3).mono ?_
   rintro e w4 ⟨m4, rfl, hm4, -, hR4, hg4⟩
   clear hm4
   have g4 := grown_trans g3 hg4
   have hpF4 := hpF3.grown hg4 (by omega)
   have s4 := g4.size
   by_cases h4 : m4 = 0
   ·subst h4
    have tokN := trivial
    go_wp2_with (first
     | (go_at_call 27; have _t := tokM; refine (num_any [0, 1, 9223372036854775807] B r (p + 1 + 1 + 1) w5.heap.size _ (by decide) (by decide) (by omega) (by simp; omega) (hR5.alloc (by omega) _) (Blk.new_ _ 3 (intc [0, 1, 9223372036854775807]) (by simp)) (by omega)).mono ?_; rintro e w6 ⟨i6, -, rfl, hR6, hg6⟩; have g6 := grown_trans (only_alloc g5 _) hg6; have s6 := g6.size; clear tokM _t)
     | (go_at_call 27; have _t := tokN; refine (num_any [0, 1, 4, -1] B r (p + 1 + 1) w4.heap.size _ (by decide) (by decide) (by omega) (by simp; omega) (hR4.alloc (by omega) _) (Blk.new_ _ 3 (intc [0, 1, 4, -1]) (by simp)) (by omega)).mono ?_; rintro e w5 ⟨i5, -, rfl, hR5, hg5⟩; have g5 := grown_trans (only_alloc g4 _) hg5; have s5 := g5.size; clear tokN _t; have tokM := trivial))
    go_ret
    refine ⟨some ⟨w6.heap.size, 0, none⟩, [i5, i6], 2, p + 1 + 1 + 1 + 1, rfl, by simp, by simp, ?_, fun a ha => by injection ha with ha; rw [← ha]; show w.heap.size ≤ w6.heap.size; omega, by omega, hR6.alloc (by omega) _, only_alloc g6 _⟩
    intro j hj
    refine ⟨w6.heap.size, 0, rfl, ?_⟩
    have hN : Blk (w6.alloc (.cells #[.int .i64 i5, .int .i64 i6] 3)) w6.heap.size #[.int .i64 i5, .int .i64 i6] := Blk.new_ _ 3 _ (by simp)
    have h2 : j < 2 := hj
    rcases j with _ | _ | j
    ·exact hN.at_ (i := 0) rfl
    ·exact hN.at_ (i := 1) rfl
    ·omega
   ·have q4 : (0 : Int) < (m4 : Int) := by omega
    have q4n : 0 < m4 := by omega
    have tokL := trivial
    go_wp2_with (go_at_call 12; have _t := tokL; refine (pick_any B r (p + 1 + 1) (ps.length : Int) _ (by omega) (by omega) (by omega) hR4).mono ?_; rintro e w9 ⟨m9, rfl, hm9, -, hR9, hg9⟩; have hm9' : m9 < ps.length := (by have := hm9 (by omega); omega); clear hm9; obtain ⟨b9, o9, P9, c9, xs9, eA9, hb9, hx9, hc9, hi9, hl9, hB9⟩ := (hpF4.grown hg9 (by omega)).at_ m9 hm9'; (first | subst eA9 | (injection eA9 with eA9; injection eA9 with eA1 eA2; subst eA1 eA2; rw [Nat.zero_add] at hc9)); have hlm : (m9 : Int) < (ps.length : Int) := (by omega); have hm9p : 0 ≤ (m9 : Int) := (by omega); have g9 := grown_trans g4 hg9; clear tokL _t)
    go_ret
    exact ⟨P9, xs9, c9, p + 1 + 1 + 1, rfl, hl9, hpm.out _ hx9, hi9, hB9, by omega, hR9, g9⟩
open Go.RowKit
inductive NT where
 | var (i : Nat)
 | zero
 | suc (a : NT)
 | app (b a : NT)
 | elim (z s n : NT)
 | part (q : Bool) (a b : NT)
 | mov (x z : NT)
def kN : Tm := .mk 6 0 []
def NT.tm : NT → Tm
 | .var i => .mk 1 i []
 | .zero => .mk 7 0 []
 | .suc a => .mk 8 0 [a.tm]
 | .app b a => .mk 5 0 [.mk 4 0 [kN, b.tm], a.tm]
 | .elim z s n => .mk 9 0 [.mk 4 0 [kN, kN], z.tm, .mk 4 0 [kN, .mk 4 0 [kN, s.tm]], n.tm]
 | .part q a b => .mk (if q = true then 16 else 15) 0 [.mk 14 0 [.mk 13 0 [kN, kN], a.tm, b.tm]]
 | .mov x z => .mk 12 0 [.mk 4 0 [kN, kN], .mk 11 0 [x.tm], z.tm]
def NT.ok : Nat → NT → Prop
 | n, .var i => i < n
 | _, .zero => True
 | n, .suc a => a.ok n
 | n, .app b a => b.ok (n + 1) ∧ a.ok n
 | n, .elim z s m => z.ok n ∧ s.ok (n + 2) ∧ m.ok n
 | n, .part _ a b => a.ok n ∧ b.ok n
 | n, .mov x z => x.ok n ∧ z.ok n
def IsN (n : Nat) (t : Tm) : Prop := ∃ x : NT, x.ok n ∧ x.tm = t
theorem isN_app {n : Int} (hn : 0 ≤ n) {b a : Tm} (hb : IsN (n + 1).toNat b) (ha : IsN n.toNat a) : IsN n.toNat (.mk 5 0 [.mk 4 0 [.mk 6 0 [], b], a]) := by
 obtain ⟨x, hx, rfl⟩ := hb
 obtain ⟨y, hy, rfl⟩ := ha
 rw [show (n + 1).toNat = n.toNat + 1 by omega] at hx
 exact ⟨.app x y, ⟨hx, hy⟩, rfl⟩
theorem isN_elim {n : Int} (hn : 0 ≤ n) {z s m : Tm} (hz : IsN n.toNat z) (hs : IsN (n + 2).toNat s) (hm : IsN n.toNat m) : IsN n.toNat (.mk 9 0 [.mk 4 0 [.mk 6 0 [], .mk 6 0 []], z, .mk 4 0 [.mk 6 0 [], .mk 4 0 [.mk 6 0 [], s]], m]) := by
 obtain ⟨x, hx, rfl⟩ := hz
 obtain ⟨y, hy, rfl⟩ := hs
 obtain ⟨v, hv, rfl⟩ := hm
 rw [show (n + 2).toNat = n.toNat + 2 by omega] at hy
 exact ⟨.elim x y v, ⟨hx, hy, hv⟩, rfl⟩
theorem isN_part {n : Int} (hn : 0 ≤ n) {k : Int} (hk : k ∈ ([15, 16] : List Int)) {a b : Tm} (ha : IsN n.toNat a) (hb : IsN n.toNat b) : IsN n.toNat (.mk k 0 [.mk 14 0 [.mk 13 0 [.mk 6 0 [], .mk 6 0 []], a, b]]) := by
 obtain ⟨x, hx, rfl⟩ := ha
 obtain ⟨y, hy, rfl⟩ := hb
 simp only [List.mem_cons, List.not_mem_nil, or_false] at hk
 rcases hk with rfl | rfl
 ·exact ⟨.part false x y, ⟨hx, hy⟩, rfl⟩
 ·exact ⟨.part true x y, ⟨hx, hy⟩, rfl⟩
theorem isN_mov {n : Int} (hn : 0 ≤ n) {x z : Tm} (hx : IsN n.toNat x) (hz : IsN n.toNat z) : IsN n.toNat (.mk 12 0 [.mk 4 0 [.mk 6 0 [], .mk 6 0 []], .mk 11 0 [x], z]) := by
 obtain ⟨x, hx, rfl⟩ := hx
 obtain ⟨y, hy, rfl⟩ := hz
 exact ⟨.mov x y, ⟨hx, hy⟩, rfl⟩
theorem isN_suc {n : Int} (hn : 0 ≤ n) {x : Tm} (hx : IsN n.toNat x) : IsN n.toNat (.mk 8 0 [x]) := by
 obtain ⟨x, hx, rfl⟩ := hx
 exact ⟨.suc x, hx, rfl⟩
theorem isN_var {n : Int} (hn : 0 ≤ n) {m : Nat} (hm : (m : Int) < n) : IsN n.toNat (.mk 1 m []) := ⟨.var m, show m < n.toNat by omega, rfl⟩
theorem isN_zero (n : Nat) : IsN n (.mk 7 0 []) := ⟨.zero, trivial, rfl⟩
end Go.Proofs.Ytddkehjdjfmhmaa
