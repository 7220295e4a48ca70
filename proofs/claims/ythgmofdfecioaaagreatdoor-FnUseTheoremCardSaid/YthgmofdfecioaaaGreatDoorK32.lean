/-
  Contracts of the functions that the law reaches, and plain lemmas. No condition.
-/
import Derived.Test.YthgmofdfecioaaaGreatDoorK3
import Derived.Test.YthgmofdfecioaaaGreatDoorK4
import Derived.Test.YthgmofdfecioaaaGreatDoorK5
import Derived.Test.YthgmofdfecioaaaGreatDoorK22
import Derived.Test.YthgmofdfecioaaaGreatDoorK30
import Derived.Test.YthgmofdfecioaaaGreatDoorK31
import Derived.IntWalk
import Derived.Laws.BitsAllLaws
import Derived.Laws.BitsLemmas
import Derived.Test.YthgmofdfecioaaaGreatDoorChecked
import Derived.ChangeSlices
import Derived.ProofKit
import Derived.OpenShut
import Derived.JoinedCond
import Derived.Carry
import Derived.Below
import Derived.ChangeSame
namespace Go.Proofs.YthgmofdfecioaaaGreatDoor
set_option linter.unusedSimpArgs false
set_option linter.unusedVariables false
open Go.RowKit
set_option maxHeartbeats 8000000 in
set_option maxRecDepth 100000 in
theorem iUse_no1 {thm : Int} {sR pR sB pB : List UInt8} {oS oP : Option Tm} (h : ThmAt thm sR pR sB pB oS oP) {n : Int} (ho : oS = none) (w : World) (hm : GM w) : Calls Tryz.prog 7 #[.int .i64 thm, .int .i64 n] w (GotU w none) := by
  have hT := hide (fun w (hm : GM w) => iType_any h w hm)
  obtain ⟨kT, nT, ksT, hTk⟩ : ∃ k n1 ks, oS.getD (.mk 0 0 []) = .mk k n1 ks := by cases h : oS.getD (.mk 0 0 []); exact ⟨_, _, _, rfl⟩
  have hTb : oS.isSome = false := by rw [ho]; rfl
  replace hTk := hide hTk
  replace hTb := hide hTb
  have hm' := hide hm
  clear h hm
  go_enter Tryz.func7, Tryz.ntmps7
  go_wp2_with (first
    | (go_at_call 14; refine (hT.out _ ((hm'.out.alloc _).alloc _)).mono ?_; rintro e w1 hgo; obtain ⟨A1, c1, rfl, hl1, hf1, hb1⟩ := gotP_at hgo hTk.out hTb.out; clear hgo; have hZ4 := ((Blk.new_ w 27 #[.int .i64 0, .int .i64 0, .slice none 0 0] rfl).alloc (.cells #[.int .i64 0, .int .i64 0, .slice none 0 0] 27)).keep hb1; have hZ5 : Blk w1 (w.heap.size + 1) #[.int .i64 0, .int .i64 0, .slice none 0 0] := (Blk.new_ _ 27 _ (by simp)).keep hb1; have s1 : w.heap.size + 1 + 1 ≤ w1.heap.size := (by have := hb1.size; simpa using this); have g1 : Below w.heap.size w w1 := (((Below.refl _ _).alloc (Nat.le_refl _) _).alloc (by simp) _).trans (hb1.mono (by simp; omega)); have hRs := hf1.rd; obtain ⟨d0, d1, d2⟩ := hZ4.three; have e0 := hZ4.frozen 0; have e1 := hZ4.frozen 1; have e2 := hZ4.frozen 2; obtain ⟨f0, f1, f2⟩ := hZ5.three; have i0 := hZ5.frozen 0; have i1 := hZ5.frozen 1; have i2 := hZ5.frozen 2; have lz5 := hZ5.lt; have lz4 := hZ4.lt))
  have hne : w.heap.size ≠ w.heap.size + 1 := by omega
  refine bodyPost_ret (v := .tuple #[.agg #[.int .i64 0, .int .i64 0, .slice none 0 0], .agg #[.int .i64 0, .int .i64 0, .slice none 0 0], .bool false]) (by simp [results, Tryz.results7, go_sem, d0, d1, d2, f0, f1, f2, lz4, lz5]) rfl ⟨0, 0, [], none, 0, 0, 0, [], none, 0, [], [], w.heap.size, rfl, rfl, rfl, by simp, by simp, ⟨.inl ⟨rfl, rfl⟩, List.nodup_nil, by simp, by simp⟩, ⟨.inl ⟨rfl, rfl⟩, List.nodup_nil, by simp, by simp⟩, Nat.le_refl _, by have := g1.size; simp; omega, ?_⟩
  exact ((((((g1.setCell (by simp) _).setCell (by simp) _).setCell (by simp) _).setCell (by simp) _).setCell (by simp) _).setCell (by simp) _).alloc (by simp; have := g1.size; omega) _
set_option maxHeartbeats 8000000 in
set_option maxRecDepth 100000 in
theorem iUse_no2 {thm : Int} {sR pR sB pB : List UInt8} {oS oP : Option Tm} (h : ThmAt thm sR pR sB pB oS oP) {n : Int} {b : Tm} (hn : ¬ (0 ≤ n ∧ n ≤ 20)) (ho : oS = some (.mk 3 0 [.mk 6 0 [], b])) (w : World) (hm : GM w) : Calls Tryz.prog 7 #[.int .i64 thm, .int .i64 n] w (GotU w none) := by
  have hT := hide (fun w (hm : GM w) => iType_any h w hm)
  have hTk : oS.getD (.mk 0 0 []) = .mk 3 0 [.mk 6 0 [], b] := by rw [ho]; rfl
  have hTb : oS.isSome = true := by rw [ho]; rfl
  have hq : (decide ((0 : Int) ≤ n) && decide (n ≤ 20)) = false := by rw [Bool.and_eq_false_iff, decide_eq_false_iff_not, decide_eq_false_iff_not]; omega
  replace hTk := hide hTk
  replace hTb := hide hTb
  have hm' := hide hm
  clear h hm
  go_enter Tryz.func7, Tryz.ntmps7
  go_wp2_with (first
    | (go_at_call 24; refine (isNumber_any _ _).mono ?_; rw [hq]; rintro e w9 ⟨rfl, rfl⟩)
    | (go_at_call 14; refine (hT.out _ ((hm'.out.alloc _).alloc _)).mono ?_; rintro e w1 hgo; obtain ⟨A1, c1, rfl, hl1, hf1, hb1⟩ := gotP_at hgo hTk.out hTb.out; clear hgo; have hZ4 := ((Blk.new_ w 27 #[.int .i64 0, .int .i64 0, .slice none 0 0] rfl).alloc (.cells #[.int .i64 0, .int .i64 0, .slice none 0 0] 27)).keep hb1; have hZ5 : Blk w1 (w.heap.size + 1) #[.int .i64 0, .int .i64 0, .slice none 0 0] := (Blk.new_ _ 27 _ (by simp)).keep hb1; have s1 : w.heap.size + 1 + 1 ≤ w1.heap.size := (by have := hb1.size; simpa using this); have g1 : Below w.heap.size w w1 := (((Below.refl _ _).alloc (Nat.le_refl _) _).alloc (by simp) _).trans (hb1.mono (by simp; omega)); have hRs := hf1.rd; obtain ⟨b0, off0, k0', n0', ks0', A0', c0', hA0, hk0, i1, i2, i3, hl0', hr0'⟩ := hRs.at_ (j := 0) (by simp); injection hk0 with h1 h2 h3; subst h1 h2 h3 hA0; simp only [Nat.zero_mul, Nat.add_zero] at i1 i2 i3; have lb0 := World.block_lt_of_cell? _ _ i1; clear i2 i3; obtain ⟨d0, d1, d2⟩ := hZ4.three; have e0 := hZ4.frozen 0; have e1 := hZ4.frozen 1; have e2 := hZ4.frozen 2; obtain ⟨f0, f1, f2⟩ := hZ5.three; have i0 := hZ5.frozen 0; have i1 := hZ5.frozen 1; have i2 := hZ5.frozen 2; have lz5 := hZ5.lt; have lz4 := hZ4.lt))
  have hne : w.heap.size ≠ w.heap.size + 1 := by omega
  refine bodyPost_ret (v := .tuple #[.agg #[.int .i64 0, .int .i64 0, .slice none 0 0], .agg #[.int .i64 0, .int .i64 0, .slice none 0 0], .bool false]) (by simp [results, Tryz.results7, go_sem, d0, d1, d2, f0, f1, f2, lz4, lz5]) rfl ⟨0, 0, [], none, 0, 0, 0, [], none, 0, [], [], w.heap.size, rfl, rfl, rfl, by simp, by simp, ⟨.inl ⟨rfl, rfl⟩, List.nodup_nil, by simp, by simp⟩, ⟨.inl ⟨rfl, rfl⟩, List.nodup_nil, by simp, by simp⟩, Nat.le_refl _, by have := g1.size; simp; omega, ?_⟩
  exact ((((((g1.setCell (by simp) _).setCell (by simp) _).setCell (by simp) _).setCell (by simp) _).setCell (by simp) _).setCell (by simp) _).alloc (by simp; have := g1.size; omega) _
set_option maxHeartbeats 8000000 in
set_option maxRecDepth 100000 in
theorem iUse_no3 {thm : Int} {sR pR sB pB : List UInt8} {oS oP : Option Tm} (h : ThmAt thm sR pR sB pB oS oP) {n : Int} {n0 : Int} {ks0 : List Tm} {b : Tm} (ho : oS = some (.mk 3 0 [.mk 10 n0 ks0, b])) (w : World) (hm : GM w) : Calls Tryz.prog 7 #[.int .i64 thm, .int .i64 n] w (GotU w none) := by
  have hT := hide (fun w (hm : GM w) => iType_any h w hm)
  have hTk : oS.getD (.mk 0 0 []) = .mk 3 0 [.mk 10 n0 ks0, b] := by rw [ho]; rfl
  have hTb : oS.isSome = true := by rw [ho]; rfl
  replace hTk := hide hTk
  replace hTb := hide hTb
  have hm' := hide hm
  clear h hm
  go_enter Tryz.func7, Tryz.ntmps7
  go_wp2_with (first
    | (go_at_call 14; refine (hT.out _ ((hm'.out.alloc _).alloc _)).mono ?_; rintro e w1 hgo; obtain ⟨A1, c1, rfl, hl1, hf1, hb1⟩ := gotP_at hgo hTk.out hTb.out; clear hgo; have hZ4 := ((Blk.new_ w 27 #[.int .i64 0, .int .i64 0, .slice none 0 0] rfl).alloc (.cells #[.int .i64 0, .int .i64 0, .slice none 0 0] 27)).keep hb1; have hZ5 : Blk w1 (w.heap.size + 1) #[.int .i64 0, .int .i64 0, .slice none 0 0] := (Blk.new_ _ 27 _ (by simp)).keep hb1; have s1 : w.heap.size + 1 + 1 ≤ w1.heap.size := (by have := hb1.size; simpa using this); have g1 : Below w.heap.size w w1 := (((Below.refl _ _).alloc (Nat.le_refl _) _).alloc (by simp) _).trans (hb1.mono (by simp; omega)); have hRs := hf1.rd; obtain ⟨b0, off0, k0', n0', ks0', A0', c0', hA0, hk0, i1, i2, i3, hl0', hr0'⟩ := hRs.at_ (j := 0) (by simp); injection hk0 with h1 h2 h3; subst h1 h2 h3 hA0; simp only [Nat.zero_mul, Nat.add_zero] at i1 i2 i3; have lb0 := World.block_lt_of_cell? _ _ i1; clear i2 i3; obtain ⟨d0, d1, d2⟩ := hZ4.three; have e0 := hZ4.frozen 0; have e1 := hZ4.frozen 1; have e2 := hZ4.frozen 2; obtain ⟨f0, f1, f2⟩ := hZ5.three; have i0 := hZ5.frozen 0; have i1 := hZ5.frozen 1; have i2 := hZ5.frozen 2; have lz5 := hZ5.lt; have lz4 := hZ4.lt))
  have hne : w.heap.size ≠ w.heap.size + 1 := by omega
  refine bodyPost_ret (v := .tuple #[.agg #[.int .i64 0, .int .i64 0, .slice none 0 0], .agg #[.int .i64 0, .int .i64 0, .slice none 0 0], .bool false]) (by simp [results, Tryz.results7, go_sem, d0, d1, d2, f0, f1, f2, lz4, lz5]) rfl ⟨0, 0, [], none, 0, 0, 0, [], none, 0, [], [], w.heap.size, rfl, rfl, rfl, by simp, by simp, ⟨.inl ⟨rfl, rfl⟩, List.nodup_nil, by simp, by simp⟩, ⟨.inl ⟨rfl, rfl⟩, List.nodup_nil, by simp, by simp⟩, Nat.le_refl _, by have := g1.size; simp; omega, ?_⟩
  exact ((((((g1.setCell (by simp) _).setCell (by simp) _).setCell (by simp) _).setCell (by simp) _).setCell (by simp) _).setCell (by simp) _).alloc (by simp; have := g1.size; omega) _
theorem iUse_any {thm : Int} {sR pR sB pB : List UInt8} {oS oP : Option Tm} (h : ThmAt thm sR pR sB pB oS oP) {n : Int} {r : Option (Tm × Tm)} (hu : UseAt oS oP n r) (w : World) (hm : GM w) : Calls Tryz.prog 7 #[.int .i64 thm, .int .i64 n] w (GotU w r) := by
  rcases hu with ⟨s, p, m, pk, pn, pks, kb, nb, kbs, rk, rn, rks, rfl, rfl, rfl, hu, rfl⟩ | ⟨hno, rfl⟩
  · exact iUse_yes h hu w hm
  · rcases hno with ho | ⟨hn, b, ho⟩ | ⟨n0, ks0, b, ho⟩
    · exact iUse_no1 h ho w hm
    · exact iUse_no2 h hn ho w hm
    · exact iUse_no3 h ho w hm
open Go.RowKit
/-- the reader at block r: its bytes lie elsewhere, all below B; so many numbers have been asked for -/
def Rdr (B : Nat) (w : World) (r p : Nat) : Prop :=
  ∃ (A : Option Addr) (bs : List Int) (c : Nat), Blk w r #[.slice A bs.length c, .int .i64 p] ∧ bs.length ≤ 2000 ∧ r < B ∧
    ∀ j (hj : j < bs.length), ∃ b off, A = some ⟨b, off, none⟩ ∧ w.cell? ⟨b, off + j, none⟩ = some (.int .u8 bs[j]) ∧ 0 ≤ bs[j] ∧ bs[j] ≤ 255 ∧ b ≠ r ∧ b < B
theorem Rdr.keep {B r p : Nat} {w w' : World} (h : Rdr B w r p) (hk : ∀ b, b < B → w'.heap[b]? = w.heap[b]?) : Rdr B w' r p := by
  obtain ⟨A, bs, c, ⟨t, h1⟩, h2, h3, h4⟩ := h
  refine ⟨A, bs, c, ⟨t, (hk r h3).trans h1⟩, h2, h3, fun j hj => ?_⟩
  obtain ⟨b, off, e, h5, h6, h7, h8, h9⟩ := h4 j hj
  exact ⟨b, off, e, (World.cell?_of_block (w := w) (a := ⟨b, off + j, none⟩) (hk b h9)).trans h5, h6, h7, h8, h9⟩
theorem Rdr.below {B B' r p : Nat} {w w' : World} (h : Rdr B w r p) (hb : Below B' w w') (hB : B ≤ B') : Rdr B w' r p := h.keep fun b hl => hb.block b (by omega)
theorem Rdr.alloc {B r p : Nat} {w : World} (h : Rdr B w r p) (hB : B ≤ w.heap.size) (o : Obj) : Rdr B (w.alloc o) r p := h.keep fun b hl => Below.heap_alloc w o b (by omega)
theorem Rdr.drew {B r p : Nat} {w : World} (h : Rdr B w r p) : Rdr B w.drew r p := h
theorem Rdr.setCell {B r p : Nat} {w : World} (h : Rdr B w r p) {a : Addr} (ha : B ≤ a.block) (u : Value) : Rdr B (w.setCell a u) r p := h.keep fun b hl => Below.heap_setCell w a u b (by omega)
theorem Rdr.step {B r p : Nat} {w : World} (h : Rdr B w r p) (q : Nat) : Rdr B (w.setCell ⟨r, 1, none⟩ (.int .i64 q)) r q := by
  obtain ⟨A, bs, c, h1, h2, h3, h4⟩ := h
  refine ⟨A, bs, c, h1.set_ 1 _, h2, h3, fun j hj => ?_⟩
  obtain ⟨b, off, e, h5, h6, h7, h8, h9⟩ := h4 j hj
  exact ⟨b, off, e, (World.cell?_of_block (w := w) (a := ⟨b, off + j, none⟩) (Below.heap_setCell w _ _ b h8)).trans h5, h6, h7, h8, h9⟩
/-- what asking for a number below n gives -/
def Picked (B : Nat) (w : World) (r p : Nat) (n : Int) (e : Ending) (w' : World) : Prop :=
  ∃ m : Nat, e = .returned (.int .i64 m) ∧ (1 ≤ n → (m : Int) < n) ∧ (n < 1 → m = 0) ∧ Rdr B w' r (p + 1) ∧ w.grownBy w' (some r)
theorem ofInt_i64 (a : Nat) (ha : a < 9223372036854775808) : (BitVec.ofInt 64 (a : Int)).toNat = a := by
  rw [BitVec.ofInt_natCast, BitVec.toNat_ofNat]; exact Nat.mod_eq_of_lt (by omega)
theorem i64_xor_nat (a b : Nat) (ha : a < 9223372036854775808) (hb : b < 9223372036854775808) : bits .xor .i64 (a : Int) (b : Int) = ((a ^^^ b : Nat) : Int) := by
  have hx : a ^^^ b < 2 ^ 63 := Nat.xor_lt_two_pow (by omega) (by omega)
  show IntKind.i64.wrap ((BitVec.ofInt 64 (a : Int) ^^^ BitVec.ofInt 64 (b : Int)).toNat : Int) = _
  rw [BitVec.toNat_xor, ofInt_i64 a ha, ofInt_i64 b hb, IntKind.wrap_i64]
  omega
theorem mix_sum (x1 x2 : Int) (p dv : Nat) (h1 : 0 ≤ x1) (h2 : x1 ≤ 255) (h3 : 0 ≤ x2) (h4 : x2 ≤ 255) (h5 : p ≤ 1000000000) (h6 : dv ≤ p) :
    wrap64 (x1 * 131 + x2 * 1117 + (p : Int) * 29 + wrap64 (wrap64 (dv : Int) * 53)) = x1 * 131 + x2 * 1117 + (p : Int) * 29 + (dv : Int) * 53 ∧ 0 ≤ x1 * 131 + x2 * 1117 + (p : Int) * 29 + (dv : Int) * 53 ∧ x1 * 131 + x2 * 1117 + (p : Int) * 29 + (dv : Int) * 53 ≤ ((200000000000 : Nat) : Int) := by
  have e1 : wrap64 (dv : Int) = dv := IntWalk.wrap64_in _ ⟨by omega, by omega⟩
  have e2 : wrap64 ((dv : Int) * 53) = (dv : Int) * 53 := IntWalk.wrap64_in _ ⟨by omega, by omega⟩
  rw [e1, e2]
  exact ⟨IntWalk.wrap64_in _ ⟨by omega, by omega⟩, by omega, by omega⟩
theorem div_wrap (m : Nat) (h : m ≤ 200000000000) : wrap64 ((m : Int) / 64) = (m : Int) / 64 := IntWalk.wrap64_in _ ⟨by omega, by omega⟩
set_option maxHeartbeats 4000000 in
set_option maxRecDepth 100000 in
theorem pick_any (B r p : Nat) (n : Int) (w : World) (hp : p ≤ 1000000000) (hn : n ≤ 1000000000) (hB : B ≤ w.heap.size) (hr : Rdr B w r p) :
    Calls Tryz.prog 49 #[.pointer (some ⟨r, 0, none⟩), .int .i64 n] w (Picked B w r p n) := by
  have hst := hr.step (p + 1)
  obtain ⟨A, bs, c, h1, h2, h3, h4⟩ := hr
  have b0 := h1.at_ (i := 0) rfl
  have b1 := h1.at_ (i := 1) rfl
  have e1 := h1.frozen 1
  have b2 := (h1.set_ 1 (.int .i64 (p + 1 : Nat))).at_ (i := 0) rfl
  have b3 := (h1.set_ 1 (.int .i64 (p + 1 : Nat))).at_ (i := 1) rfl
  have hg : w.grownBy (w.setCell ⟨r, 1, none⟩ (.int .i64 (p + 1 : Nat))) (some r) := only_setCell (World.grownBy.refl _ _) (.inl rfl) _
  by_cases hn1 : n < 1
  · go_enter Tryz.func49, Tryz.ntmps49
    go_wp2_with fail
    go_ret
    exact ⟨0, rfl, by omega, fun _ => rfl, hst, hg⟩
  · by_cases hl : bs.length = 0
    · have hq : ((bs.length : Int) == 0) = true := by simp [hl]
      have hl' := hide hl
      clear hl
      go_enter Tryz.func49, Tryz.ntmps49
      go_wp2_with fail
      go_ret
      exact ⟨0, rfl, fun h => by simp; omega, fun _ => rfl, hst, hg⟩
    · have hq : ((bs.length : Int) == 0) = false := beq_eq_false_iff_ne.2 (by omega)
      by_cases hk : p < bs.length
      · obtain ⟨b, off, rfl, h5, h6, h7, h8, h9⟩ := h4 p hk
        generalize bs[p] = x at *
        have h5' : (w.setCell ⟨r, 1, none⟩ (.int .i64 (p + 1 : Nat))).cell? ⟨b, off + p, none⟩ = some (.int .u8 x) := (World.cell?_of_block (w := w) (a := ⟨b, off + p, none⟩) (Below.heap_setCell w _ _ b h8)).trans h5
        go_enter Tryz.func49, Tryz.ntmps49
        go_wp2_with fail
        go_ret
        refine ⟨(x % n).toNat, ?_, fun h => ?_, fun h => (by omega), hst, hg⟩
        · rw [Int.toNat_of_nonneg (Int.emod_nonneg _ (by omega))]; rfl
        · rw [Int.toNat_of_nonneg (Int.emod_nonneg _ (by omega))]; exact Int.emod_lt_of_pos _ (by omega)
      · have hlp : 0 < bs.length := by omega
        have hj1 := Nat.mod_lt p hlp
        have t1 : (p : Int).tmod (bs.length : Int) = ((p % bs.length : Nat) : Int) := by rw [Int.tmod_eq_emod_of_nonneg (by omega)]; rfl
        generalize p % bs.length = j1 at hj1 t1
        have t2 : IntKind.i64.wrap ((p : Int) * 7) = ((p * 7 : Nat) : Int) := by rw [IntWalk.i64_in _ (by omega)]; omega
        obtain ⟨q7, hq7⟩ : ∃ q7, p * 7 = q7 := ⟨_, rfl⟩
        rw [hq7] at t2
        have t3 : IntKind.i64.wrap ((q7 : Int) + 3) = ((q7 + 3 : Nat) : Int) := by rw [IntWalk.i64_in _ (by omega)]; omega
        obtain ⟨q8, hq8⟩ : ∃ q8, q7 + 3 = q8 := ⟨_, rfl⟩
        rw [hq8] at t3
        have hj2 := Nat.mod_lt q8 hlp
        have t4 : (q8 : Int).tmod (bs.length : Int) = ((q8 % bs.length : Nat) : Int) := by rw [Int.tmod_eq_emod_of_nonneg (by omega)]; rfl
        generalize q8 % bs.length = j2 at hj2 t4
        obtain ⟨ba, offa, rfl, a5, a6, a7, a8, a9⟩ := h4 j1 hj1
        obtain ⟨bb, offb, hA, c5, c6, c7, c8, c9⟩ := h4 j2 hj2
        injection hA with hA
        injection hA with hA1 hA2
        subst hA1 hA2
        generalize bs[j1] = x1 at *
        generalize bs[j2] = x2 at *
        have a5' : (w.setCell ⟨r, 1, none⟩ (.int .i64 (p + 1 : Nat))).cell? ⟨ba, offa + j1, none⟩ = some (.int .u8 x1) := (World.cell?_of_block (w := w) (a := ⟨ba, offa + j1, none⟩) (Below.heap_setCell w _ _ ba a8)).trans a5
        have c5' : (w.setCell ⟨r, 1, none⟩ (.int .i64 (p + 1 : Nat))).cell? ⟨ba, offa + j2, none⟩ = some (.int .u8 x2) := (World.cell?_of_block (w := w) (a := ⟨ba, offa + j2, none⟩) (Below.heap_setCell w _ _ ba a8)).trans c5
        have hdv := Nat.div_le_self p bs.length
        have t10 : (p : Int).tdiv (bs.length : Int) = ((p / bs.length : Nat) : Int) := by rw [Int.tdiv_eq_ediv_of_nonneg (by omega)]; rfl
        generalize p / bs.length = dv at hdv t10
        obtain ⟨hX, hX0, hX1⟩ := mix_sum x1 x2 p dv a6 a7 c6 c7 hp hdv
        obtain ⟨m8, hm8⟩ : ∃ m8 : Nat, x1 * 131 + x2 * 1117 + (p : Int) * 29 + (dv : Int) * 53 = (m8 : Int) := ⟨(x1 * 131 + x2 * 1117 + (p : Int) * 29 + (dv : Int) * 53).toNat, (Int.toNat_of_nonneg hX0).symm⟩
        rw [hm8] at hX hX0 hX1
        have hb8 : m8 ≤ 200000000000 := Int.ofNat_le.1 hX1
        clear hX0 hX1
        have t14 : wrap64 ((m8 : Int) / 64) = (m8 : Int) / 64 := div_wrap m8 hb8
        have hb9 : m8 / 64 ≤ m8 := Nat.div_le_self _ _
        have t13 : bits .xor .i64 (m8 : Int) ((m8 : Int) / 64) = ((m8 ^^^ (m8 / 64) : Nat) : Int) := by
          have := i64_xor_nat m8 (m8 / 64) (by omega) (by omega)
          rw [← this]; rfl
        generalize m8 ^^^ (m8 / 64) = m9 at t13
        have hX' := hide hX
        have T13 := hide t13
        have T14 := hide t14
        clear t13 t14
        clear hm8 hq8 hq7 h4 h1 hdv hX
        go_enter Tryz.func49, Tryz.ntmps49
        go_wp2_with fail
        refine name_world ?_
        intro wx hwx
        have r0 : wx.cell? ⟨r, 0, none⟩ = some (.slice (some ⟨ba, offa, none⟩) bs.length c) := by rw [hwx]; exact b2
        have r1 : wx.cell? ⟨ba, offa + j1, none⟩ = some (.int .u8 x1) := by rw [hwx]; exact a5'
        have r2 : wx.cell? ⟨ba, offa + j2, none⟩ = some (.int .u8 x2) := by rw [hwx]; exact c5'
        have hgx : w.grownBy wx (some r) := by rw [hwx]; exact hg
        have hsx : Rdr B wx r (p + 1) := by rw [hwx]; exact hst
        replace r0 := rule_of r0
        replace r1 := rule_of r1
        replace r2 := rule_of r2
        clear hwx hg hst a5' c5' b2 b3
        refine wp_region_firstY (fun w' => Below wx.heap.size wx w') [0, 1, 2, 3, 4, 5, 6, 7, 8, 9, 10, 11, 12, 13, 14, 15, 16, 17, 18, 19, 20, 21, 22, 23, 24, 25, 26, 27, 28, 29, 30, 31, 32, 33, 34, 35, 36, 37, 38, 39, 40, 41, 42, 43, 44, 45] [] [] [_, _, _, _, _, _, _, _, _, _, _, _, _, _, _, _, _, _, _, _, _, _, _, _, _, _, _, _, _, _, _, _, _, _, _, _, _, _, _, _, _, _, _, _, _, _] [] [] (by kernel_rfl) (by kernel_rfl) rfl rfl rfl (fun _ _ d _ _ h => by cases d <;> exact h) (Below.refl _ _).drew ?_
        repeat (first | ((refine takeY_skip (a' := ?_) ?_ ?_ ?_); (rotate_left); (· (simp [Region.wanted, yielded]; done)); (· (simp only [List.getElem_toArray, List.getElem_cons_zero, List.getElem_cons_succ, Act.put, List.setIfInBounds_toArray, List.set_cons_zero, List.set_cons_succ]; exact rfl))) | ((refine takeY_step (v := ?_) (a' := ?_) ?_ ?_ ?_ ?_); (rotate_left 2); (· (simp [Region.wanted, yielded]; done)); (· (intro w' hS'; go_simp; try (with_reducible rfl))); (· (simp only [List.getElem_toArray, List.getElem_cons_zero, List.getElem_cons_succ, Act.put, List.setIfInBounds_toArray, List.set_cons_zero, List.set_cons_succ]; exact rfl))))
        refine takeY_nil (then_nil ?_)
        have hX := hX'.out
        go_wp2_with fail
        go_ret
        refine ⟨(m9 % n.toNat : Nat), ?_, fun h => ?_, fun h => (by omega), hsx, only_drew hgx⟩
        · have hc : ((m9 % n.toNat : Nat) : Int) = (m9 : Int) % n := by
            rw [Int.natCast_emod, Int.toNat_of_nonneg (by omega)]
          rw [hc]
          show Ending.returned (.int .i64 ((bits .xor .i64 (m8 : Int) (wrap64 ((m8 : Int) / 64))).tmod n)) = _
          rw [T14.out, T13.out, Int.tmod_eq_emod_of_nonneg (by omega)]
        · have h5 := Nat.mod_lt m9 (show 0 < n.toNat by omega)
          omega
/-- bytes that can be read -/
def RdY (w : World) (A : Option Addr) (bs : List Int) : Prop := ∀ j (hj : j < bs.length), ∃ b off, A = some ⟨b, off, none⟩ ∧ w.cell? ⟨b, off + j, none⟩ = some (.int .u8 bs[j]) ∧ 0 ≤ bs[j] ∧ bs[j] ≤ 255
theorem RdY.take {w : World} {A : Option Addr} {bs : List Int} (h : RdY w A bs) (n : Nat) : RdY w A (bs.take n) := fun j hj => by
  rw [List.length_take] at hj
  obtain ⟨b, off, e, h1, h2, h3⟩ := h j (by omega)
  exact ⟨b, off, e, by rw [List.getElem_take]; exact h1, by rw [List.getElem_take]; exact h2, by rw [List.getElem_take]; exact h3⟩
theorem RdY.keeps {w w' : World} {A : Option Addr} {bs : List Int} (h : RdY w A bs) (hk : Keeps w w') : RdY w' A bs := fun j hj => by
  obtain ⟨b, off, e, h1, h2, h3⟩ := h j hj
  exact ⟨b, off, e, hk _ _ h1, h2, h3⟩
theorem Rdr.new {w : World} {A : Option Addr} {bs : List Int} {c : Nat} {t : TypeId} (h : RdY w A bs) (hl : bs.length ≤ 2000) : Rdr (w.heap.size + 1) (w.alloc (.cells #[.slice A bs.length c, .int .i64 0] t)) w.heap.size 0 :=
  ⟨A, bs, c, Blk.new_ _ _ _ rfl, hl, by omega, fun j hj => by
    obtain ⟨b, off, e, h1, h2, h3⟩ := h j hj
    have hb := World.block_lt_of_cell? _ _ h1
    have hb : b < w.heap.size := hb
    exact ⟨b, off, e, Keeps.alloc _ _ _ _ h1, h2, h3, by omega, by omega⟩⟩
/-- an open reader -/
def Opened (w : World) (e : Ending) (w' : World) : Prop := ∃ r, e = .returned (.pointer (some ⟨r, 0, none⟩)) ∧ w.heap.size ≤ r ∧ r < w'.heap.size ∧ Rdr w'.heap.size w' r 0 ∧ Below w.heap.size w w'
theorem Rdr.mono {B B' : Nat} {w : World} {r p : Nat} (h : Rdr B w r p) (hB : B ≤ B') : Rdr B' w r p := by
  obtain ⟨A, bs, c, h1, h2, h3, h4⟩ := h
  exact ⟨A, bs, c, h1, h2, by omega, fun j hj => by obtain ⟨b, off, e, h5, h6, h7, h8, h9⟩ := h4 j hj; exact ⟨b, off, e, h5, h6, h7, h8, by omega⟩⟩
set_option maxHeartbeats 2000000 in
set_option maxRecDepth 100000 in
theorem open_any (bs : List Int) (A : Option Addr) (c : Nat) (w : World) (hl : bs.length ≤ 9223372036854775807) (hc : bs.length ≤ c) (hr : RdY w A bs) : Calls Tryz.prog 21 #[.slice A bs.length c] w (Opened w) := by
  by_cases h2 : bs.length ≤ 2000
  · go_enter Tryz.func21, Tryz.ntmps21
    go_wp2_with fail
    go_ret
    exact ⟨w.heap.size, rfl, Nat.le_refl _, by simp, by simpa using Rdr.new hr h2, (Below.refl _ _).alloc (Nat.le_refl _) _⟩
  · have hr2 := hr.take 2000
    have hl2 : (bs.take 2000).length = 2000 := by rw [List.length_take]; omega
    have hc2 : 2000 ≤ c := by omega
    generalize bs.take 2000 = bs2 at hr2 hl2
    have hl2' := hide hl2
    clear hl2
    go_enter Tryz.func21, Tryz.ntmps21
    go_wp2_with fail
    go_ret
    refine ⟨w.heap.size, rfl, Nat.le_refl _, by simp, ?_, (Below.refl _ _).alloc (Nat.le_refl _) _⟩
    have := Rdr.new (c := c) (t := 66) hr2 (by have := hl2'.out; omega)
    rw [hl2'.out] at this
    simpa using this
open Go.RowKit
def intc (xs : List Int) : Array Value := (xs.map (Value.int .i64)).toArray
theorem intc_get {xs : List Int} {j : Nat} (h : j < xs.length) : (intc xs)[j]? = some (.int .i64 xs[j]) := by simp [intc, List.getElem?_eq_getElem h]
/-- what the draw of an element gives -/
def Drawn (B : Nat) (w : World) (r p : Nat) (xs : List Int) (e : Ending) (w' : World) : Prop :=
  ∃ x, x ∈ xs ∧ e = .returned (.int .i64 x) ∧ Rdr B w' r (p + 1) ∧ w.grownBy w' (some r)
set_option maxHeartbeats 2000000 in
set_option maxRecDepth 100000 in
theorem num_any (xs : List Int) (B r p g : Nat) (w : World) (hx : 0 < xs.length) (hx2 : xs.length ≤ 1000) (hp : p ≤ 1000000000) (hB : B ≤ w.heap.size) (hr : Rdr B w r p) (hL : Blk w g (intc xs)) (hg : r ≠ g) :
    Calls Tryz.prog 23 #[.pointer (some ⟨r, 0, none⟩), .slice (some ⟨g, 0, none⟩) xs.length xs.length] w (Drawn B w r p xs) := by
  go_enter Tryz.func23, Tryz.ntmps23
  go_wp2_with (go_at_call 49; refine (pick_any B r p xs.length _ hp (by omega) hB hr).mono ?_; rintro e w1 ⟨m, rfl, hm, hm0, hr1, hg1⟩; have hm := hm (by omega); clear hm0; have hm' : m < xs.length := (by omega); have hc : w1.cell? ⟨g, m, none⟩ = some (.int .i64 xs[m]) := (hL.grown hg1 (by simpa using hg.symm)).at_ (intc_get hm'))
  go_ret
  exact ⟨xs[m], List.getElem_mem hm', rfl, hr1, hg1⟩
section
open Go.ChangeShapes Go.WideShapes Go.ChangeAt Go.RowKit
set_option maxRecDepth 100000 in
theorem open_code {H : Type} {enc : TypeId × Value → H} {W : World} {base : Nat} {spare : Nat → Bool} {held : Bool} {r : Reach} {b0 : Nat} {v : Value} {d : DataW H} {p : List MemPlace} (hv : Value.okWide Tryz.prog W r b0 22 v) (h : DataW.Trod enc Tryz.prog W base spare held 22 v d p) :
    ∃ (xs : List Int) (A : Option Addr) (c : Nat), v = .slice A xs.length c ∧ xs.length ≤ 9223372036854775807 ∧ xs.length ≤ c ∧ RdY W A xs := by
  obtain ⟨a, len, cap, rfl⟩ := Go.WideShapes.okWide_slice Tryz.underlying22 hv
  obtain ⟨fuel, hf⟩ := h
  have hmax : maxLen ≤ 9223372036854775807 := by decide
  rcases open_ints Tryz.underlying22 Tryz.underlying5 (by kernel_rfl) hf with ⟨hcs, _⟩ | ⟨a', len', cap', zs, hcs, _, hl, hm, hz, _, hcell, hwf⟩
  · injection hcs with hcs
    injection hcs with e1 e2 e3
    subst e1 e2 e3
    exact ⟨[], none, 0, rfl, by simp, by simp, fun j hj => absurd hj (Nat.not_lt_zero _)⟩
  · injection hcs with hcs
    injection hcs with e1 e2 e3
    subst e1 e2 e3
    have hzl : len ≤ zs.length := by rw [hz]; split <;> omega
    refine ⟨zs.take len, some a', cap, by rw [List.length_take, Nat.min_eq_left hzl], by rw [List.length_take]; omega, by rw [List.length_take]; omega, fun j hj => ?_⟩
    rw [List.length_take, Nat.min_eq_left hzl] at hj
    have h1 := hcell j (by omega)
    have h00 := hcell 0 (by omega)
    obtain ⟨b, off, spot⟩ := a'
    have hspot : spot = none := by
      have := World.cell?_spot h00
      simpa [Addr.add] using this
    subst hspot
    have e : (⟨b, off, none⟩ : Addr).add j = ⟨b, off + j, none⟩ := by unfold Addr.add; split <;> simp_all
    rw [e, List.getD_eq_getElem?_getD, List.getElem?_eq_getElem (by omega), Option.getD_some] at h1
    have hw := hwf zs[j] (List.getElem_mem _)
    have hw' : (decide ((0 : Int) ≤ zs[j]) && decide (zs[j] ≤ 255)) = true := hw
    simp only [Bool.and_eq_true, decide_eq_true_eq] at hw'
    exact ⟨b, off, rfl, by rw [h1, List.getElem_take], by rw [List.getElem_take]; exact hw'.1, by rw [List.getElem_take]; exact hw'.2⟩
section
variable {H : Type} {enc : TypeId × Value → H} {P : Program}
/-- the row's last step, where of the world behind the call 'Below' alone is known -/
theorem post_below {f : Func} {s : ChangeSpec} {apart fresh handsOn again : Bool} {W W' : World} {args : Array Value} {v : Value} {ds gs : List (DataW H)} {before pa pv : List MemPlace}
    (hW : DataW.Whole enc P f.params.toList s.vars apart W args.toList ds gs before)
    (hres : ∀ (b : Nat) (sp : Nat → Bool) (hd : Bool), DataW.TrodAll enc P W' b sp hd f.resultTypes.toList (v.resultList f.resultTypes.size) (s.fn H (ds ++ gs)).results [])
    (hargs : ∀ sp : Nat → Bool, (∀ p ∈ before, sp p.block = true) → DataW.TrodAll enc P W' 0 sp true f.params.toList args.toList (s.fn H (ds ++ gs)).args pa)
    (hvars : ∀ sp : Nat → Bool, (∀ p ∈ before, sp p.block = true) → DataW.TrodVars enc P W' sp s.vars (s.fn H (ds ++ gs)).vars pv)
    (hps : before = pa ++ pv) (hb : Below W.heap.size W W')
    (hok : ∀ (j : Nat) (t : TypeId) (r : Value), f.resultTypes[j]? = some t → (v.resultList f.resultTypes.size)[j]? = some r → Value.okWide P W' .any 0 t r) :
    s.post enc P f apart fresh handsOn again W args v W' := by
  have hlt : ∀ p ∈ before, p.block < W.heap.size := fun p hp => hW.lt p hp
  have hold : ∀ p ∈ before, (fun b => decide (b < W.heap.size)) p.block = true := fun p hp => by simpa using hlt p hp
  refine ⟨ds, gs, before, [], pa, pv, hW, hres _ _ _, hargs _ hold, hvars _ hold, World.keptBut_mono (fun p hp => ⟨hp, ?_⟩) (hb.frame (· ∈ before)), fun _ => ?_⟩
  · rw [hps, List.mem_append] at hp
    exact Or.inr hp
  · obtain ⟨_, _, _, _, _, hz, hn⟩ := hW
    refine ⟨hok, _, _, ([] ++ pa) ++ pv, ⟨[] ++ pa, pv, trodAll_append (hargs _ (fun _ _ => rfl)) (hres _ _ _), hvars _ (fun _ _ => rfl), rfl, ?_, ?_⟩, ?_⟩
    · intro b off hp
      have hin : MemPlace.cell b off ∈ before := by rw [hps]; simpa using hp
      rw [hb.frozen (hlt _ hin)]
      exact hz b off hin
    · intro ha
      have := hn ha
      rw [hps] at this
      simpa using this
    · intro p hp _
      rw [hps]
      simpa using hp
end
end
open Go.RowKit
theorem Rdr.lt {B : Nat} {w : World} {r p : Nat} (h : Rdr B w r p) : r < B := by obtain ⟨_, _, _, _, _, h, _⟩ := h; exact h
theorem grown_below {B r : Nat} {w w' : World} (h : w.grownBy w' (some r)) (hB : B ≤ w.heap.size) (hr : B ≤ r) : Below B w w' := ⟨h.os, h.tape, h.output, h.size, fun k hk => h.block k (by omega) (fun e => by injection e; omega)⟩
def thmL : List Int := [1, 2, 3, 4, 5, 0, 6, -1]
def numL : List Int := [0, 1, 2, 3, 5, 20, 21, -1]
set_option maxRecDepth 100000 in
theorem l17Thm_any (B r p : Nat) (w : World) (hp : p ≤ 1000000000) (hB : B ≤ w.heap.size) (hr : Rdr B w r p) : Calls Tryz.prog 22 #[.pointer (some ⟨r, 0, none⟩)] w (Drawn B w r p thmL) := by
  have hrl := hr.lt
  go_enter Tryz.func22, Tryz.ntmps22
  go_wp2_with (go_at_call 23; refine (num_any thmL B r p w.heap.size _ (by decide) (by decide) (by omega) (by simp; omega) (hr.alloc (by omega) _) (Blk.new_ _ 3 _ rfl) (by omega)).mono ?_; rintro e w3 ⟨x, hx, rfl, hr3, hg3⟩)
  go_ret
  exact ⟨x, hx, rfl, hr3, grown_trans (only_alloc (World.grownBy.refl _ _) _) hg3⟩
/-- a theorem and a number -/
def DrawnII (w : World) (e : Ending) (w' : World) : Prop := ∃ a b : Int, a ∈ thmL ∧ b ∈ numL ∧ e = .returned (.tuple #[.int .i64 a, .int .i64 b]) ∧ Below w.heap.size w w'
set_option maxRecDepth 100000 in
theorem drawUse_any (bs : List Int) (A : Option Addr) (c : Nat) (w : World) (hl : bs.length ≤ 9223372036854775807) (hc : bs.length ≤ c) (hr : RdY w A bs) : Calls Tryz.prog 6 #[.slice A bs.length c] w (DrawnII w) := by
  go_enter Tryz.func6, Tryz.ntmps6
  go_wp2_with (first
    | (go_at_call 23; have _t := tok2; refine (num_any numL w1.heap.size r (0 + 1) w2.heap.size _ (by decide) (by decide) (by omega) (by simp; omega) (hr2.alloc (by omega) _) (Blk.new_ _ 3 _ rfl) (by omega)).mono ?_; rintro e w3 ⟨y, hy, rfl, hr3, hg3⟩)
    | (go_at_call 22; have _t := tok1; refine (l17Thm_any w1.heap.size r 0 _ (by omega) (Nat.le_refl _) hr1).mono ?_; rintro e w2 ⟨x, hx, rfl, hr2, hg2⟩; have s2 := hg2.size; have tok2 := trivial)
    | (go_at_call 21; refine (open_any bs A c _ hl hc hr).mono ?_; rintro e w1 ⟨r, rfl, hr0, hrlt, hr1, hb1⟩; have tok1 := trivial))
  go_ret2
  have g2 := grown_below hg2 (B := w.heap.size) hb1.size (by omega)
  exact ⟨x, y, hx, hy, rfl, (hb1.trans g2).trans (grown_below (grown_trans (only_alloc (World.grownBy.refl _ _) _) hg3) (by have := hb1.size; omega) (by omega))⟩
set_option maxRecDepth 100000 in
theorem drawPrf_any (bs : List Int) (A : Option Addr) (c : Nat) (w : World) (hl : bs.length ≤ 9223372036854775807) (hc : bs.length ≤ c) (hr : RdY w A bs) : Calls Tryz.prog 11 #[.slice A bs.length c] w fun e w' => ∃ a : Int, a ∈ thmL ∧ e = .returned (.int .i64 a) ∧ Below w.heap.size w w' := by
  go_enter Tryz.func11, Tryz.ntmps11
  go_wp2_with (first
    | (go_at_call 22; have _t := tok1; refine (l17Thm_any w1.heap.size r 0 _ (by omega) (Nat.le_refl _) hr1).mono ?_; rintro e w2 ⟨x, hx, rfl, hr2, hg2⟩; have s2 := hg2.size; have tok2 := trivial)
    | (go_at_call 21; refine (open_any bs A c _ hl hc hr).mono ?_; rintro e w1 ⟨r, rfl, hr0, hrlt, hr1, hb1⟩; have tok1 := trivial))
  go_ret
  exact ⟨x, hx, rfl, hb1.trans (grown_below hg2 hb1.size (by omega))⟩
theorem gotS_at {w : World} {r : Option (Tm × Tm)} {e : Ending} {w' : World} (h : GotS w r e w') {k1 n1 k2 n2 : Int} {ks1 ks2 : List Tm} {b : Bool} (h1 : (r.map Prod.fst).getD (.mk 0 0 []) = .mk k1 n1 ks1) (h2 : (r.map Prod.snd).getD (.mk 0 0 []) = .mk k2 n2 ks2) (hb : r.isSome = b) :
    ∃ A1 c1 A2 c2, e = .returned (.tuple #[.agg #[.int .i64 k1, .int .i64 n1, .slice A1 ks1.length c1], .agg #[.int .i64 k2, .int .i64 n2, .slice A2 ks2.length c2], .bool b]) ∧ ks1.length ≤ 9223372036854775807 ∧ ks2.length ≤ 9223372036854775807 ∧ Rd w' A1 0 ks1 ∧ Rd w' A2 0 ks2 ∧ Below w.heap.size w w' := by
  obtain ⟨x1, y1, z1, A1, c1, x2, y2, z2, A2, c2, e1, e2, rfl, l1, l2, r1, r2, hw⟩ := h
  rw [h1] at e1
  rw [h2] at e2
  injection e1 with a1 a2 a3
  injection e2 with a4 a5 a6
  subst a1 a2 a3 a4 a5 a6 hb
  exact ⟨A1, c1, A2, c2, rfl, l1, l2, r1, r2, hw⟩
theorem gotU_at {w : World} {r : Option (Tm × Tm)} {e : Ending} {w' : World} (h : GotU w r e w') {k1 n1 k2 n2 : Int} {ks1 ks2 : List Tm} {b : Bool} (h1 : (r.map Prod.fst).getD (.mk 0 0 []) = .mk k1 n1 ks1) (h2 : (r.map Prod.snd).getD (.mk 0 0 []) = .mk k2 n2 ks2) (hb : r.isSome = b) :
    ∃ A1 c1 A2 c2, e = .returned (.tuple #[.agg #[.int .i64 k1, .int .i64 n1, .slice A1 ks1.length c1], .agg #[.int .i64 k2, .int .i64 n2, .slice A2 ks2.length c2], .bool b]) ∧ ks1.length ≤ 9223372036854775807 ∧ ks2.length ≤ 9223372036854775807 ∧ Rd w' A1 0 ks1 ∧ Rd w' A2 0 ks2 ∧ Below w.heap.size w w' := by
  obtain ⟨x1, y1, z1, A1, c1, x2, y2, z2, A2, c2, f1, f2, mid, e1, e2, rfl, l1, l2, r1, r2, m1, m2, hw⟩ := h
  rw [h1] at e1
  rw [h2] at e2
  injection e1 with a1 a2 a3
  injection e2 with a4 a5 a6
  subst a1 a2 a3 a4 a5 a6 hb
  exact ⟨A1, c1, A2, c2, rfl, l1, l2, r1.rd, r2.rd, hw⟩
theorem use_size {oS oP : Option Tm} {n : Int} {r : Option (Tm × Tm)} (h : UseAt oS oP n r) {k1 n1 k2 n2 : Int} {ks1 ks2 : List Tm} (h1 : (r.map Prod.fst).getD (.mk 0 0 []) = .mk k1 n1 ks1) (h2 : (r.map Prod.snd).getD (.mk 0 0 []) = .mk k2 n2 ks2) : sizes ks1 ≤ 400 ∧ sizes ks2 ≤ 400 := by
  rcases h with ⟨s, p, m, pk, pn, pks, kb, nb, kbs, rk, rn, rks, rfl, rfl, rfl, hu, rfl⟩ | ⟨hno, rfl⟩
  · simp only [Option.map_some, Option.getD_some] at h1 h2
    injection h1 with a1 a2 a3
    injection h2 with a4 a5 a6
    subst a1 a2 a3 a4 a5 a6
    exact ⟨validT_size' hu.hav, validT_size' hu.hr⟩
  · simp only [Option.map_none, Option.getD_none] at h1 h2
    injection h1 with a1 a2 a3
    injection h2 with a4 a5 a6
    subst a3 a6
    simp [sizes]
open Go.RowKit
set_option maxRecDepth 100000 in
set_option maxHeartbeats 8000000 in
theorem icheckThm_any (N : Nat) {thm : Int} {sR pR sB pB : List UInt8} {oP : Option Tm} (k2 n2 : Int) (s2 : List Tm) (h : ThmAt thm sR pR sB pB (some (.mk k2 n2 s2)) oP) (k n : Int) (ks : List Tm) (A : Option Addr) (c : Nat) (l : Int) (w : World) (hm : GM w) (hl : lvS (infS N [] (.mk k2 n2 s2)) = some l) (hc : chkS (infS N [] (.mk k n ks)) (.mk k2 n2 s2) = true) (hv : validT (.mk k n ks) = true) (hv2 : validT (.mk k2 n2 s2) = true) (hra : Rd w A 0 ks) :
    Calls Tryz.prog 16 #[.int .i64 thm, .agg #[.int .i64 k, .int .i64 n, .slice A ks.length c]] w fun e w' => e = .returned (.int .i64 0) ∧ Below w.heap.size w w' := by
  have hI := hide (fun (w : World) (hm : GM w) => (iType_any h w hm).mono fun e w' (hg : GotP w (some (.mk k2 n2 s2)) e w') => show ∃ A2 c2, e = .returned (.tuple #[.agg #[.int .i64 k2, .int .i64 n2, .slice A2 s2.length c2], .bool true]) ∧ Rd w' A2 0 s2 ∧ Below w.heap.size w w' from by
    obtain ⟨k', n', ks', A', c', hk, he, hl', hf, hb⟩ := hg
    injection (show Tm.mk k2 n2 s2 = .mk k' n' ks' from hk) with q1 q2 q3
    subst q1 q2 q3
    exact ⟨A', c', he, hf.rd, hb⟩)
  have hK := hide (fun (A2 : Option Addr) (c2 : Nat) (w : World) (hra : Rd w A 0 ks) (hr2 : Rd w A2 0 s2) => icheckType_any N none 0 k n ks A c k2 n2 s2 A2 c2 l w hl hc hv hv2 hra hr2)
  have hmh := hide hm
  clear hl hv hv2 hc h hm
  go_enter Tryz.func16, Tryz.ntmps16
  go_wp2_with (first
    | (go_at_call 18; have _t := tok1; refine (hK.out A2 c2 _ ((hra.below g1).alloc _) (r1.alloc _)).mono ?_; rintro e w2 ⟨rfl, hb2⟩; have g2 := (g1.alloc g1.size (.cells #[.int .i64 k2, .int .i64 n2, .slice A2 s2.length c2] 27)).trans (hb2.mono (by have := g1.size; simp; omega)))
    | (go_at_call 14; refine (hI.out _ (hmh.out.alloc _)).mono ?_; rintro e w1 ⟨A2, c2, rfl, r1, hb1⟩; have hX1 := (Blk.new_ w 27 #[.int .i64 k, .int .i64 n, .slice A ks.length c] rfl).keep hb1; have g1 : Below w.heap.size w w1 := ((Below.refl _ _).alloc (Nat.le_refl _) _).trans (hb1.mono (by simp)); have lX := hX1.lt; obtain ⟨x0, x1, x2⟩ := hX1.three; have tok1 := trivial))
  go_ret
  exact ⟨rfl, g2⟩
end Go.Proofs.YthgmofdfecioaaaGreatDoor
