/-
  Texts of this claim, merged: contracts of the functions that the law reaches. No condition.
-/
import Derived.Test.YthgmofdfecioaaaGreatDoorK2
import Derived.Test.YthgmofdfecioaaaGreatDoorK4
import Derived.Test.YthgmofdfecioaaaGreatDoorK5
import Derived.Deep.Upon
import Derived.Lib.SliceRun
import Derived.WalkSpells
import Derived.WalkLawsBesides

namespace Go.Proofs.YthgmofdfecioaaaGreatDoor
open Go.RowKit
set_option linter.unusedSimpArgs false
set_option linter.unusedVariables false

/-- a list in blocks of its own, from B on, none of zs -/
def ApF (w : World) (B : Nat) (zs : List Nat) (A : Option Addr) (ks : List Tm) : Prop := ∃ fp, Ow w A ks fp ∧ fp.Nodup ∧ ∀ b, b ∈ fp → B ≤ b ∧ b ∉ zs
section
variable {w w' : World} {B B' : Nat} {zs : List Nat} {A : Option Addr} {ks : List Tm}
theorem ApF.rd (h : ApF w B zs A ks) : Rd w A 0 ks := by obtain ⟨fp, h, _⟩ := h; exact h.rd
theorem ApF.below (h : ApF w B zs A ks) (hb : Below w.heap.size w w') : ApF w' B zs A ks := by
  obtain ⟨fp, h, hn, hf⟩ := h; exact ⟨fp, h.frame fun b hm => hb.block b (h.lt b hm), hn, hf⟩
theorem ApF.add (h : ApF w B zs A ks) (hb : Below w.heap.size w w') : ApF w' B (w.heap.size :: zs) A ks := by
  obtain ⟨fp, h, hn, hf⟩ := h
  refine ⟨fp, h.frame fun b hm => hb.block b (h.lt b hm), hn, fun b hm => ⟨(hf b hm).1, fun he => ?_⟩⟩
  rcases List.mem_cons.1 he with rfl | he
  · have := h.lt _ hm; omega
  · exact (hf b hm).2 he
theorem ApF.setZ (h : ApF w B zs A ks) {a : Addr} (ha : a.block < B ∨ a.block ∈ zs) (u : Value) : ApF (w.setCell a u) B zs A ks := by
  obtain ⟨fp, h, hn, hf⟩ := h
  refine ⟨fp, h.frame fun b hm => Below.heap_setCell w a u b (fun e => ?_), hn, hf⟩
  subst e
  rcases ha with ha | ha
  · have := (hf _ hm).1; omega
  · exact (hf _ hm).2 ha
theorem Fresh.apf (h : Fresh B w A ks) (hB : B' ≤ B) (hz : ∀ z, z ∈ zs → z < B) : ApF w B' zs A ks := by
  obtain ⟨fp, h, hn, hf⟩ := h
  exact ⟨fp, h, hn, fun b hm => ⟨Nat.le_trans hB (hf b hm), fun he => by have := hz b he; have := hf b hm; omega⟩⟩
theorem ApF.owf (h : ApF w B zs A ks) (hB : B' ≤ B) : ∃ fp, OwF w A ks fp B' w.heap.size := by
  obtain ⟨fp, h, hn, hf⟩ := h
  exact ⟨fp, h, hn, fun b hm => Nat.le_trans hB (hf b hm).1, fun b hm => h.lt b hm⟩
end
/-- a row of two new terms -/
theorem apf_row {L M : Nat} {w n : World} {zs : List Nat} {A2 A3 : Option Addr} {pk pn nk : Int} {pks nks : List Tm} {c2 c3 : Nat} {fp : List Nat} (hp : Ow w A2 pks fp) (hn : fp.Nodup) (hl : ∀ b, b ∈ fp → L ≤ b ∧ b < M)
    (hN : ApF w M zs A3 nks) (hlp : pks.length ≤ 9223372036854775807) (hln : nks.length ≤ 9223372036854775807) (hg : Blk n w.heap.size #[.int .i64 pk, .int .i64 pn, .slice A2 pks.length c2, .int .i64 nk, .int .i64 0, .slice A3 nks.length c3]) (hk : Below w.heap.size w n)
    (hz : ∀ z, z ∈ zs → M ≤ z ∧ z < w.heap.size) (hLM : L ≤ M) (hMw : M ≤ w.heap.size) : ApF n L zs (some ⟨w.heap.size, 0, none⟩) [.mk pk pn pks, .mk nk 0 nks] := by
  obtain ⟨f2, h2, hn2, hf2⟩ := hN
  have k1 : Ow n A2 pks fp := hp.frame fun b hm => hk.block b (hp.lt b hm)
  have k2 : Ow n A3 nks f2 := h2.frame fun b hm => hk.block b (h2.lt b hm)
  obtain ⟨t, hg⟩ := hg
  refine ⟨w.heap.size :: (fp ++ f2), .inr ⟨_, _, t, fp ++ f2, by simp, rfl, hg, rfl, ?_⟩, ?_, ?_⟩
  · refine OwX.cons_iff.2 ⟨[.int .i64 pk, .int .i64 pn, .slice A2 pks.length c2], [.int .i64 nk, .int .i64 0, .slice A3 nks.length c3], fp, f2, by simp, rfl, OwT.iff.2 ⟨A2, c2, rfl, hlp, k1⟩, OwX.one (OwT.iff.2 ⟨A3, c3, rfl, hln, k2⟩)⟩
  · refine List.nodup_cons.2 ⟨fun hm => ?_, List.nodup_append.2 ⟨hn, hn2, fun x hx y hy e => ?_⟩⟩
    · rcases List.mem_append.1 hm with hm | hm
      · have := hp.lt _ hm; omega
      · have := h2.lt _ hm; omega
    · have := (hl x hx).2; have := (hf2 y hy).1; omega
  · intro b hb
    rcases List.mem_cons.1 hb with rfl | hb
    · exact ⟨by omega, fun he => by have := (hz _ he).2; omega⟩
    · rcases List.mem_append.1 hb with hm | hm
      · exact ⟨(hl b hm).1, fun he => by have := (hz _ he).1; have := (hl b hm).2; omega⟩
      · exact ⟨by have := (hf2 b hm).1; omega, (hf2 b hm).2⟩
/-- two terms in blocks of their own, the one's below the other's, and whether they are -/
def GotU (w : World) (r : Option (Tm × Tm)) (e : Ending) (w' : World) : Prop :=
  ∃ (k1 n1 : Int) (ks1 : List Tm) (A1 : Option Addr) (c1 : Nat) (k2 n2 : Int) (ks2 : List Tm) (A2 : Option Addr) (c2 : Nat) (f1 f2 : List Nat) (mid : Nat), (r.map Prod.fst).getD (.mk 0 0 []) = .mk k1 n1 ks1 ∧ (r.map Prod.snd).getD (.mk 0 0 []) = .mk k2 n2 ks2 ∧
    e = .returned (.tuple #[.agg #[.int .i64 k1, .int .i64 n1, .slice A1 ks1.length c1], .agg #[.int .i64 k2, .int .i64 n2, .slice A2 ks2.length c2], .bool r.isSome]) ∧ ks1.length ≤ 9223372036854775807 ∧ ks2.length ≤ 9223372036854775807 ∧ OwF w' A1 ks1 f1 w.heap.size mid ∧ OwF w' A2 ks2 f2 mid w'.heap.size ∧ w.heap.size ≤ mid ∧ mid ≤ w'.heap.size ∧ Below w.heap.size w w'
end Go.Proofs.YthgmofdfecioaaaGreatDoor

namespace Go.Proofs.YthgmofdfecioaaaGreatDoor
open Go.RowKit
set_option linter.unusedSimpArgs false
set_option linter.unusedVariables false

theorem ApF.drew {w : World} {B : Nat} {zs : List Nat} {A : Option Addr} {ks : List Tm} (h : ApF w B zs A ks) : ApF w.drew B zs A ks := by
  obtain ⟨fp, h, hn, hf⟩ := h; exact ⟨fp, h.frame fun b hm => rfl, hn, hf⟩
set_option maxHeartbeats 8000000 in
set_option maxRecDepth 100000 in
theorem iUse_yes {thm : Int} {sR pR sB pB : List UInt8} {s p : Tm} (h : ThmAt thm sR pR sB pB (some s) (some p)) {m : Nat} {pk pn : Int} {pks : List Tm} {kb nb : Int} {kbs : List Tm} {rk rn : Int} {rks : List Tm} (hu : UseOk s p m pk pn pks kb nb kbs rk rn rks) (w : World) (hm : GM w) :
    Calls Tryz.prog 7 #[.int .i64 thm, .int .i64 m] w (GotU w (some (.mk 5 0 [.mk pk pn pks, numT m], .mk rk rn rks))) := by
  obtain ⟨nk, nks, hnum⟩ := numT_eta m
  have hm20 := hu.hm
  have hT := hide (fun w (hm : GM w) => by have := iType_any h w hm; rw [hu.hs] at this; exact this)
  have hP := hide (fun w (hm : GM w) => by have := iProof_any h w hm; rw [hu.hp] at this; exact this)
  have hN := hide (fun w => by have := inumeral_any m (by omega) w; rw [hnum] at this; exact this)
  have hnv := hu.hnv
  rw [hnum] at hnv
  have hnz := validT_size' hnv
  have hbz := validT_size' hu.hbv
  have hI := hide (fun A c U cu (w : World) (h1 : Rd w A 0 kbs) (h2 : Rd w U 0 nks) => by
    have := subst_any kb nb kbs A c 0 nk 0 nks U cu w ⟨by omega, by omega⟩ (by simp only [validT, Bool.and_eq_true] at hnv; exact hnv.1) (by omega) h2 (by omega) (by have := hu.hbv; simp only [validT, Bool.and_eq_true] at this; exact this.1) h1
    rw [← hnum, hu.hj] at this; exact this)
  have hav := hu.hav
  rw [hnum] at hav
  have hszp := validT_size' hu.hpv
  have hsza := validT_size' hav
  have hav' := hide hav
  have hnum' := hide hnum
  have hm' := hide hm
  have hq : (decide ((0 : Int) ≤ (m : Int)) && decide ((m : Int) ≤ 20)) = true := by simp; omega
  clear h hu hav hnum hm hnv
  go_enter Tryz.func7, Tryz.ntmps7
  go_wp2_with (first
    | (go_at_call 12; refine (hP.out _ ((hm'.out.keep g1).alloc _)).mono ?_; rintro e w2 hgo; obtain ⟨A2, c2, rfl, hl2, hf2, hb2⟩ := gotP_at hgo rfl rfl; clear hgo; have hT7 := (Blk.new_ w1 27 #[.int .i64 3, .int .i64 0, .slice (some ⟨b0, off0, none⟩) 2 c1] rfl).keep hb2; replace hZ4 := (hZ4.alloc (.cells #[.int .i64 3, .int .i64 0, .slice (some ⟨b0, off0, none⟩) 2 c1] 27)).keep hb2; replace hZ5 := (hZ5.alloc (.cells #[.int .i64 3, .int .i64 0, .slice (some ⟨b0, off0, none⟩) 2 c1] 27)).keep hb2; replace hRs := (hRs.alloc (.cells #[.int .i64 3, .int .i64 0, .slice (some ⟨b0, off0, none⟩) 2 c1] 27)).below hb2; have s2 : w1.heap.size + 1 ≤ w2.heap.size := (by have := hb2.size; simpa using this); have g2 : Below w.heap.size w w2 := (g1.alloc g1.size _).trans (hb2.mono (by have := g1.size; simp; omega)); clear i1 i2 i3)
    | (go_at_call 24; refine (isNumber_any _ _).mono ?_; rw [hq]; rintro e w9 ⟨rfl, rfl⟩)
    | (go_at_call 14; refine (hT.out _ ((hm'.out.alloc _).alloc _)).mono ?_; rintro e w1 hgo; obtain ⟨A1, c1, rfl, hl1, hf1, hb1⟩ := gotP_at hgo rfl rfl; clear hgo; have hZ4 := ((Blk.new_ w 27 #[.int .i64 0, .int .i64 0, .slice none 0 0] rfl).alloc (.cells #[.int .i64 0, .int .i64 0, .slice none 0 0] 27)).keep hb1; have hZ5 : Blk w1 (w.heap.size + 1) #[.int .i64 0, .int .i64 0, .slice none 0 0] := (Blk.new_ _ 27 _ (by simp)).keep hb1; have s1 : w.heap.size + 1 + 1 ≤ w1.heap.size := (by have := hb1.size; simpa using this); have g1 : Below w.heap.size w w1 := (((Below.refl _ _).alloc (Nat.le_refl _) _).alloc (by simp) _).trans (hb1.mono (by simp; omega)); have hRs := hf1.rd; obtain ⟨b0, off0, k0', n0', ks0', A0', c0', hA0, hk0, i1, i2, i3, hl0', hr0'⟩ := hRs.at_ (j := 0) (by simp); injection hk0 with h1 h2 h3; subst h1 h2 h3 hA0; simp only [Nat.zero_mul, Nat.add_zero] at i1 i2 i3; have lb0 := World.block_lt_of_cell? _ _ i1))
  refine name_world ?_
  intro wy hwy
  have sy0 := congrArg (fun w : World => w.heap.size) hwy
  simp at sy0
  have ky : Below w2.heap.size w2 wy := by rw [hwy]; exact (Below.refl _ _).alloc (Nat.le_refl _) _
  have hT9 : Blk wy w2.heap.size #[.int .i64 pk, .int .i64 pn, .slice A2 pks.length c2] := by rw [hwy]; exact Blk.new_ _ 27 _ rfl
  have sy : w2.heap.size < wy.heap.size := by omega
  clear hwy sy0
  have gy : Below w.heap.size w wy := g2.trans (ky.mono g2.size)
  replace hZ4 := hZ4.keep ky
  replace hZ5 := hZ5.keep ky
  replace hT7 := hT7.keep ky
  replace hRs := hRs.below ky
  obtain ⟨fpP, hPo, hPn, hPl⟩ := hf2
  replace hPo : Ow wy A2 pks fpP := hPo.frame fun b hb => ky.block b (hPo.lt b hb)
  have hPl2 : ∀ b, b ∈ fpP → w1.heap.size ≤ b ∧ b < wy.heap.size := fun b hb => ⟨by have := hPl b hb; simp at this; omega, hPo.lt b hb⟩
  clear hPl
  have v0 := rule_of hT9.three.1
  have v1 := rule_of hT9.three.2.1
  have v2 := rule_of hT9.three.2.2
  go_cut [11, 12] (fun s11 s12 wx => ∃ (g11 row ca : Nat), s11 = .pointer (some ⟨g11, 0, none⟩) ∧ s12 = .bool true ∧ Blk wx g11 #[.int .i64 5, .int .i64 0, .slice (some ⟨row, 0, none⟩) 2 ca] ∧ ApF wx w1.heap.size [g11] (some ⟨row, 0, none⟩) [.mk pk pn pks, .mk nk 0 nks] ∧ Below wy.heap.size wy wx ∧ wy.heap.size ≤ g11 ∧ g11 < wx.heap.size)
  case first =>
    obtain ⟨q0, hq0⟩ : ∃ q0, q0 = wy.drew := ⟨_, rfl⟩
    have bq0 : Below wy.heap.size wy q0 := by rw [hq0]; exact (Below.refl _ _).drew
    refine gC_start (fun w' => Below wy.heap.size wy w') [6, 7, 8, 10, 11] 12 (by kernel_rfl) rfl ?_
    refine gC_take [0, 1] (f := 10) (l' := #[true, true, false, false, false, false, false, false, false, false, false, false]) (lT := [_, _]) (by rw [← hq0]; exact bq0) rfl (by kernel_rfl) (by kernel_rfl) (by kernel_rfl) rfl (fun _ _ d _ _ h => by cases d <;> exact h) ?_
    repeat (first | ((refine takeY_skip (a' := ?_) ?_ ?_ ?_); (rotate_left); (· (simp [Region.wanted, yielded]; done)); (· (simp only [List.getElem_toArray, List.getElem_cons_zero, List.getElem_cons_succ, Act.put, List.setIfInBounds_toArray, List.set_cons_zero, List.set_cons_succ]; exact rfl))) | ((refine takeY_step (v := ?_) (a' := ?_) ?_ ?_ ?_ ?_); (rotate_left 2); (· (simp [Region.wanted, yielded]; done)); (· (intro w' hS'; go_simp; try (with_reducible rfl))); (· (simp only [List.getElem_toArray, List.getElem_cons_zero, List.getElem_cons_succ, Act.put, List.setIfInBounds_toArray, List.set_cons_zero, List.set_cons_succ]; exact rfl))))
    refine takeY_nil ?_
    rw [← hq0]
    clear hq0
    refine gC_two (i := 2) (j := 9) (by kernel_rfl) rfl rfl ?_ ?_
    · have swq1 := bq0.size
      go_wp2_with (go_at_call 27; refine (hN.out _).mono ?_; rintro e q1 ⟨A3, c3, rfl, hl3, hfq1, hbq1⟩)
      have Fq1 : ApF q1 wy.heap.size [] A3 nks := hfq1.apf swq1 (fun z hz => by simp at hz <;> omega)
      have bq1 : Below wy.heap.size wy q1 := bq0.trans (hbq1.mono bq0.size)
      have lq1 := hbq1.size
      refine mid_intro bq1 ?_
      refine gC_two (i := 3) (j := 9) (by kernel_rfl) rfl rfl ?_ ?_
      · have swq2 := bq1.size
        go_wp2_with fail
        refine name_midw ?_
        intro q2 hn
        have hbq2 : Below q1.heap.size q1 q2 := by rw [hn]; exact (Below.refl _ _).alloc (Nat.le_refl _) _
        have hgq2 : Blk q2 q1.heap.size #[.int .i64 pk, .int .i64 pn, .slice A2 pks.length c2, .int .i64 nk, .int .i64 0, .slice A3 nks.length c3] := by rw [hn]; exact Blk.new_ _ 27 _ rfl
        clear hn
        have Pq2 : Ow q1 A2 pks fpP := hPo.frame fun b hb => bq1.block b (hPl2 b hb).2
        have Hq2 : ApF q2 w1.heap.size [] (some ⟨q1.heap.size, 0, none⟩) [.mk pk pn pks, .mk nk 0 nks] := apf_row Pq2 hPn hPl2 Fq1 hl2 hl3 hgq2 hbq2 (fun z hz => by simp at hz <;> omega) (by omega) (by omega)
        have bq2 : Below wy.heap.size wy q2 := bq1.trans (hbq2.mono bq1.size)
        have lq2 := hbq2.size
        refine mid_intro bq2 ?_
        refine gC_two (i := 4) (j := 9) (by kernel_rfl) rfl rfl ?_ ?_
        · go_wp2_with (go_at_call 26; refine (inode_any 5 _ ⟨_, _, _, rfl⟩ _).mono ?_; rintro e q3 ⟨rfl, hbq3⟩)
          have Hq3 := Hq2.below hbq3
          have bq3 : Below wy.heap.size wy q3 := bq2.trans (hbq3.mono bq2.size)
          have lq3 := hbq3.size
          refine mid_intro bq3 ?_
          refine gC_two (i := 5) (j := 9) (by kernel_rfl) rfl rfl ?_ ?_
          · go_wp2_with (go_at_call 25; refine (valid_yes 5 0 [.mk pk pn pks, .mk nk 0 nks] _ 2 _ (by omega) Hq3.rd hav'.out).mono ?_; rintro e q4 ⟨rfl, hbq4⟩)
            have Hq4 := Hq3.below hbq4
            have bq4 : Below wy.heap.size wy q4 := bq3.trans (hbq4.mono bq3.size)
            have lq4 := hbq4.size
            refine mid_intro bq4 ?_
            refine gC_takeT [6, 7, 8] (f := 3) (l' := #[true, true, true, true, true, true, true, true, true, false, false, false]) (lT := [_, _, _]) rfl (by kernel_rfl) (by kernel_rfl) (by kernel_rfl) rfl (fun _ _ d _ _ h => by cases d <;> exact h) ?_
            repeat (first | ((refine takeY_skip (a' := ?_) ?_ ?_ ?_); (rotate_left); (· (simp [Region.wanted, yielded]; done)); (· (simp only [List.getElem_toArray, List.getElem_cons_zero, List.getElem_cons_succ, Act.put, List.setIfInBounds_toArray, List.set_cons_zero, List.set_cons_succ]; exact rfl))) | ((refine takeY_step (v := ?_) (a' := ?_) ?_ ?_ ?_ ?_); (rotate_left 2); (· (simp [Region.wanted, yielded]; done)); (· (intro w' hS'; go_simp; try (with_reducible rfl))); (· (simp only [List.getElem_toArray, List.getElem_cons_zero, List.getElem_cons_succ, Act.put, List.setIfInBounds_toArray, List.set_cons_zero, List.set_cons_succ]; exact rfl))))
            refine takeY_nil ?_
            refine gC_one (i := 9) (by kernel_rfl) rfl ?_
            · have szq5 := bq4.size
              go_wp2_with fail
              refine name_midw ?_
              intro q5 hn
              have bq5 : Below wy.heap.size wy q5 := by rw [hn]; exact bq4.alloc szq5 _
              have zq5 : Blk q5 q4.heap.size #[.int .i64 0, .int .i64 0, .slice none 0 0] := by rw [hn]; exact Blk.new_ _ 27 _ rfl
              have eq5 : q5.heap.size = q4.heap.size + 1 := by rw [hn]; simp
              have kq5 : Below q4.heap.size q4 q5 := by rw [hn]; exact (Below.refl _ _).alloc (Nat.le_refl _) _
              have seq5 : q4.heap.size < q5.heap.size := by omega
              clear hn eq5
              have Hq5 := Hq4.add kq5
              refine mid_intro bq5 ?_
              refine gC_end [10, 11] (lB := [_, _]) (by simp) (by kernel_rfl) (by kernel_rfl) rfl ?_
              obtain ⟨d0, d1, d2⟩ := zq5.three
              have e0 := zq5.frozen 0
              have e1 := zq5.frozen 1
              have e2 := zq5.frozen 2
              have szl := zq5.lt
              have szb : wy.heap.size ≤ q4.heap.size := by first | exact bq0.size | exact bq4.size
              go_wp2_with fail
              go_meet
              exact ⟨q4.heap.size, q1.heap.size, 2, rfl, rfl, ((zq5.set_ 0 _).set_ 1 _).set_ 2 _, ((Hq5.setZ (a := ⟨q4.heap.size, 0, none⟩) (.inr (by simp)) _).setZ (a := ⟨q4.heap.size, 1, none⟩) (.inr (by simp)) _).setZ (a := ⟨q4.heap.size, 2, none⟩) (.inr (by simp)) _, ((bq5.setCell (by simp <;> omega) _).setCell (by simp <;> omega) _).setCell (by simp <;> omega) _, szb, by simpa using szl⟩
          · have szq6 := bq3.size
            go_wp2_with fail
            refine name_midw ?_
            intro q6 hn
            have bq6 : Below wy.heap.size wy q6 := by rw [hn]; exact bq3.alloc szq6 _
            have zq6 : Blk q6 q3.heap.size #[.int .i64 0, .int .i64 0, .slice none 0 0] := by rw [hn]; exact Blk.new_ _ 27 _ rfl
            have eq6 : q6.heap.size = q3.heap.size + 1 := by rw [hn]; simp
            have kq6 : Below q3.heap.size q3 q6 := by rw [hn]; exact (Below.refl _ _).alloc (Nat.le_refl _) _
            have seq6 : q3.heap.size < q6.heap.size := by omega
            clear hn eq6
            have Hq6 := Hq3.add kq6
            refine mid_intro bq6 ?_
            refine gC_one (i := 5) (by kernel_rfl) rfl ?_
            · go_wp2_with (go_at_call 25; refine (valid_yes 5 0 [.mk pk pn pks, .mk nk 0 nks] _ 2 _ (by omega) Hq6.rd hav'.out).mono ?_; rintro e q7 ⟨rfl, hbq7⟩)
              have zq7 := zq6.keep hbq7
              have Hq7 := Hq6.below hbq7
              have bq7 : Below wy.heap.size wy q7 := bq6.trans (hbq7.mono bq6.size)
              have lq7 := hbq7.size
              refine mid_intro bq7 ?_
              refine gC_takeT [6, 7, 8] (f := 2) (l' := #[true, true, true, true, true, true, true, true, true, true, false, false]) (lT := [_, _, _]) rfl (by kernel_rfl) (by kernel_rfl) (by kernel_rfl) rfl (fun _ _ d _ _ h => by cases d <;> exact h) ?_
              repeat (first | ((refine takeY_skip (a' := ?_) ?_ ?_ ?_); (rotate_left); (· (simp [Region.wanted, yielded]; done)); (· (simp only [List.getElem_toArray, List.getElem_cons_zero, List.getElem_cons_succ, Act.put, List.setIfInBounds_toArray, List.set_cons_zero, List.set_cons_succ]; exact rfl))) | ((refine takeY_step (v := ?_) (a' := ?_) ?_ ?_ ?_ ?_); (rotate_left 2); (· (simp [Region.wanted, yielded]; done)); (· (intro w' hS'; go_simp; try (with_reducible rfl))); (· (simp only [List.getElem_toArray, List.getElem_cons_zero, List.getElem_cons_succ, Act.put, List.setIfInBounds_toArray, List.set_cons_zero, List.set_cons_succ]; exact rfl))))
              refine takeY_nil ?_
              refine gC_end [10, 11] (lB := [_, _]) (by simp) (by kernel_rfl) (by kernel_rfl) rfl ?_
              obtain ⟨d0, d1, d2⟩ := zq7.three
              have e0 := zq7.frozen 0
              have e1 := zq7.frozen 1
              have e2 := zq7.frozen 2
              have szl := zq7.lt
              have szb : wy.heap.size ≤ q3.heap.size := by first | exact bq0.size | exact bq3.size
              go_wp2_with fail
              go_meet
              exact ⟨q3.heap.size, q1.heap.size, 2, rfl, rfl, ((zq7.set_ 0 _).set_ 1 _).set_ 2 _, ((Hq7.setZ (a := ⟨q3.heap.size, 0, none⟩) (.inr (by simp)) _).setZ (a := ⟨q3.heap.size, 1, none⟩) (.inr (by simp)) _).setZ (a := ⟨q3.heap.size, 2, none⟩) (.inr (by simp)) _, ((bq7.setCell (by simp <;> omega) _).setCell (by simp <;> omega) _).setCell (by simp <;> omega) _, szb, by simpa using szl⟩
        · have szq8 := bq2.size
          go_wp2_with fail
          refine name_midw ?_
          intro q8 hn
          have bq8 : Below wy.heap.size wy q8 := by rw [hn]; exact bq2.alloc szq8 _
          have zq8 : Blk q8 q2.heap.size #[.int .i64 0, .int .i64 0, .slice none 0 0] := by rw [hn]; exact Blk.new_ _ 27 _ rfl
          have eq8 : q8.heap.size = q2.heap.size + 1 := by rw [hn]; simp
          have kq8 : Below q2.heap.size q2 q8 := by rw [hn]; exact (Below.refl _ _).alloc (Nat.le_refl _) _
          have seq8 : q2.heap.size < q8.heap.size := by omega
          clear hn eq8
          have Hq8 := Hq2.add kq8
          refine mid_intro bq8 ?_
          refine gC_one (i := 4) (by kernel_rfl) rfl ?_
          · go_wp2_with (go_at_call 26; refine (inode_any 5 _ ⟨_, _, _, rfl⟩ _).mono ?_; rintro e q9 ⟨rfl, hbq9⟩)
            have zq9 := zq8.keep hbq9
            have Hq9 := Hq8.below hbq9
            have bq9 : Below wy.heap.size wy q9 := bq8.trans (hbq9.mono bq8.size)
            have lq9 := hbq9.size
            refine mid_intro bq9 ?_
            refine gC_one (i := 5) (by kernel_rfl) rfl ?_
            · go_wp2_with (go_at_call 25; refine (valid_yes 5 0 [.mk pk pn pks, .mk nk 0 nks] _ 2 _ (by omega) Hq9.rd hav'.out).mono ?_; rintro e q10 ⟨rfl, hbq10⟩)
              have zq10 := zq9.keep hbq10
              have Hq10 := Hq9.below hbq10
              have bq10 : Below wy.heap.size wy q10 := bq9.trans (hbq10.mono bq9.size)
              have lq10 := hbq10.size
              refine mid_intro bq10 ?_
              refine gC_takeT [6, 7, 8] (f := 2) (l' := #[true, true, true, true, true, true, true, true, true, true, false, false]) (lT := [_, _, _]) rfl (by kernel_rfl) (by kernel_rfl) (by kernel_rfl) rfl (fun _ _ d _ _ h => by cases d <;> exact h) ?_
              repeat (first | ((refine takeY_skip (a' := ?_) ?_ ?_ ?_); (rotate_left); (· (simp [Region.wanted, yielded]; done)); (· (simp only [List.getElem_toArray, List.getElem_cons_zero, List.getElem_cons_succ, Act.put, List.setIfInBounds_toArray, List.set_cons_zero, List.set_cons_succ]; exact rfl))) | ((refine takeY_step (v := ?_) (a' := ?_) ?_ ?_ ?_ ?_); (rotate_left 2); (· (simp [Region.wanted, yielded]; done)); (· (intro w' hS'; go_simp; try (with_reducible rfl))); (· (simp only [List.getElem_toArray, List.getElem_cons_zero, List.getElem_cons_succ, Act.put, List.setIfInBounds_toArray, List.set_cons_zero, List.set_cons_succ]; exact rfl))))
              refine takeY_nil ?_
              refine gC_end [10, 11] (lB := [_, _]) (by simp) (by kernel_rfl) (by kernel_rfl) rfl ?_
              obtain ⟨d0, d1, d2⟩ := zq10.three
              have e0 := zq10.frozen 0
              have e1 := zq10.frozen 1
              have e2 := zq10.frozen 2
              have szl := zq10.lt
              have szb : wy.heap.size ≤ q2.heap.size := by first | exact bq0.size | exact bq2.size
              go_wp2_with fail
              go_meet
              exact ⟨q2.heap.size, q1.heap.size, 2, rfl, rfl, ((zq10.set_ 0 _).set_ 1 _).set_ 2 _, ((Hq10.setZ (a := ⟨q2.heap.size, 0, none⟩) (.inr (by simp)) _).setZ (a := ⟨q2.heap.size, 1, none⟩) (.inr (by simp)) _).setZ (a := ⟨q2.heap.size, 2, none⟩) (.inr (by simp)) _, ((bq10.setCell (by simp <;> omega) _).setCell (by simp <;> omega) _).setCell (by simp <;> omega) _, szb, by simpa using szl⟩
      · have szq11 := bq1.size
        go_wp2_with fail
        refine name_midw ?_
        intro q11 hn
        have bq11 : Below wy.heap.size wy q11 := by rw [hn]; exact bq1.alloc szq11 _
        have zq11 : Blk q11 q1.heap.size #[.int .i64 0, .int .i64 0, .slice none 0 0] := by rw [hn]; exact Blk.new_ _ 27 _ rfl
        have eq11 : q11.heap.size = q1.heap.size + 1 := by rw [hn]; simp
        have kq11 : Below q1.heap.size q1 q11 := by rw [hn]; exact (Below.refl _ _).alloc (Nat.le_refl _) _
        have seq11 : q1.heap.size < q11.heap.size := by omega
        clear hn eq11
        have Fq11 := Fq1.add kq11
        refine mid_intro bq11 ?_
        refine gC_one (i := 3) (by kernel_rfl) rfl ?_
        · have swq12 := bq11.size
          have szzq12 := zq11.lt
          go_wp2_with fail
          refine name_midw ?_
          intro q12 hn
          have hbq12 : Below q11.heap.size q11 q12 := by rw [hn]; exact (Below.refl _ _).alloc (Nat.le_refl _) _
          have hgq12 : Blk q12 q11.heap.size #[.int .i64 pk, .int .i64 pn, .slice A2 pks.length c2, .int .i64 nk, .int .i64 0, .slice A3 nks.length c3] := by rw [hn]; exact Blk.new_ _ 27 _ rfl
          clear hn
          have Pq12 : Ow q11 A2 pks fpP := hPo.frame fun b hb => bq11.block b (hPl2 b hb).2
          have Hq12 : ApF q12 w1.heap.size [q1.heap.size] (some ⟨q11.heap.size, 0, none⟩) [.mk pk pn pks, .mk nk 0 nks] := apf_row Pq12 hPn hPl2 Fq11 hl2 hl3 hgq12 hbq12 (fun z hz => by simp at hz <;> omega) (by omega) (by omega)
          have zq12 := zq11.keep hbq12
          have bq12 : Below wy.heap.size wy q12 := bq11.trans (hbq12.mono bq11.size)
          have lq12 := hbq12.size
          refine mid_intro bq12 ?_
          refine gC_one (i := 4) (by kernel_rfl) rfl ?_
          · go_wp2_with (go_at_call 26; refine (inode_any 5 _ ⟨_, _, _, rfl⟩ _).mono ?_; rintro e q13 ⟨rfl, hbq13⟩)
            have zq13 := zq12.keep hbq13
            have Hq13 := Hq12.below hbq13
            have bq13 : Below wy.heap.size wy q13 := bq12.trans (hbq13.mono bq12.size)
            have lq13 := hbq13.size
            refine mid_intro bq13 ?_
            refine gC_one (i := 5) (by kernel_rfl) rfl ?_
            · go_wp2_with (go_at_call 25; refine (valid_yes 5 0 [.mk pk pn pks, .mk nk 0 nks] _ 2 _ (by omega) Hq13.rd hav'.out).mono ?_; rintro e q14 ⟨rfl, hbq14⟩)
              have zq14 := zq13.keep hbq14
              have Hq14 := Hq13.below hbq14
              have bq14 : Below wy.heap.size wy q14 := bq13.trans (hbq14.mono bq13.size)
              have lq14 := hbq14.size
              refine mid_intro bq14 ?_
              refine gC_takeT [6, 7, 8] (f := 2) (l' := #[true, true, true, true, true, true, true, true, true, true, false, false]) (lT := [_, _, _]) rfl (by kernel_rfl) (by kernel_rfl) (by kernel_rfl) rfl (fun _ _ d _ _ h => by cases d <;> exact h) ?_
              repeat (first | ((refine takeY_skip (a' := ?_) ?_ ?_ ?_); (rotate_left); (· (simp [Region.wanted, yielded]; done)); (· (simp only [List.getElem_toArray, List.getElem_cons_zero, List.getElem_cons_succ, Act.put, List.setIfInBounds_toArray, List.set_cons_zero, List.set_cons_succ]; exact rfl))) | ((refine takeY_step (v := ?_) (a' := ?_) ?_ ?_ ?_ ?_); (rotate_left 2); (· (simp [Region.wanted, yielded]; done)); (· (intro w' hS'; go_simp; try (with_reducible rfl))); (· (simp only [List.getElem_toArray, List.getElem_cons_zero, List.getElem_cons_succ, Act.put, List.setIfInBounds_toArray, List.set_cons_zero, List.set_cons_succ]; exact rfl))))
              refine takeY_nil ?_
              refine gC_end [10, 11] (lB := [_, _]) (by simp) (by kernel_rfl) (by kernel_rfl) rfl ?_
              obtain ⟨d0, d1, d2⟩ := zq14.three
              have e0 := zq14.frozen 0
              have e1 := zq14.frozen 1
              have e2 := zq14.frozen 2
              have szl := zq14.lt
              have szb : wy.heap.size ≤ q1.heap.size := by first | exact bq0.size | exact bq1.size
              go_wp2_with fail
              go_meet
              exact ⟨q1.heap.size, q11.heap.size, 2, rfl, rfl, ((zq14.set_ 0 _).set_ 1 _).set_ 2 _, ((Hq14.setZ (a := ⟨q1.heap.size, 0, none⟩) (.inr (by simp)) _).setZ (a := ⟨q1.heap.size, 1, none⟩) (.inr (by simp)) _).setZ (a := ⟨q1.heap.size, 2, none⟩) (.inr (by simp)) _, ((bq14.setCell (by simp <;> omega) _).setCell (by simp <;> omega) _).setCell (by simp <;> omega) _, szb, by simpa using szl⟩
    · have szq15 := bq0.size
      go_wp2_with fail
      refine name_midw ?_
      intro q15 hn
      have bq15 : Below wy.heap.size wy q15 := by rw [hn]; exact bq0.alloc szq15 _
      have zq15 : Blk q15 q0.heap.size #[.int .i64 0, .int .i64 0, .slice none 0 0] := by rw [hn]; exact Blk.new_ _ 27 _ rfl
      have eq15 : q15.heap.size = q0.heap.size + 1 := by rw [hn]; simp
      have kq15 : Below q0.heap.size q0 q15 := by rw [hn]; exact (Below.refl _ _).alloc (Nat.le_refl _) _
      have seq15 : q0.heap.size < q15.heap.size := by omega
      clear hn eq15
      refine mid_intro bq15 ?_
      refine gC_one (i := 2) (by kernel_rfl) rfl ?_
      · have swq16 := bq15.size
        have szzq16 := zq15.lt
        go_wp2_with (go_at_call 27; refine (hN.out _).mono ?_; rintro e q16 ⟨A3, c3, rfl, hl3, hfq16, hbq16⟩)
        have zq16 := zq15.keep hbq16
        have Fq16 : ApF q16 wy.heap.size [q0.heap.size] A3 nks := hfq16.apf swq16 (fun z hz => by simp at hz <;> omega)
        have bq16 : Below wy.heap.size wy q16 := bq15.trans (hbq16.mono bq15.size)
        have lq16 := hbq16.size
        refine mid_intro bq16 ?_
        refine gC_one (i := 3) (by kernel_rfl) rfl ?_
        · have swq17 := bq16.size
          have szzq17 := zq16.lt
          go_wp2_with fail
          refine name_midw ?_
          intro q17 hn
          have hbq17 : Below q16.heap.size q16 q17 := by rw [hn]; exact (Below.refl _ _).alloc (Nat.le_refl _) _
          have hgq17 : Blk q17 q16.heap.size #[.int .i64 pk, .int .i64 pn, .slice A2 pks.length c2, .int .i64 nk, .int .i64 0, .slice A3 nks.length c3] := by rw [hn]; exact Blk.new_ _ 27 _ rfl
          clear hn
          have Pq17 : Ow q16 A2 pks fpP := hPo.frame fun b hb => bq16.block b (hPl2 b hb).2
          have Hq17 : ApF q17 w1.heap.size [q0.heap.size] (some ⟨q16.heap.size, 0, none⟩) [.mk pk pn pks, .mk nk 0 nks] := apf_row Pq17 hPn hPl2 Fq16 hl2 hl3 hgq17 hbq17 (fun z hz => by simp at hz <;> omega) (by omega) (by omega)
          have zq17 := zq16.keep hbq17
          have bq17 : Below wy.heap.size wy q17 := bq16.trans (hbq17.mono bq16.size)
          have lq17 := hbq17.size
          refine mid_intro bq17 ?_
          refine gC_one (i := 4) (by kernel_rfl) rfl ?_
          · go_wp2_with (go_at_call 26; refine (inode_any 5 _ ⟨_, _, _, rfl⟩ _).mono ?_; rintro e q18 ⟨rfl, hbq18⟩)
            have zq18 := zq17.keep hbq18
            have Hq18 := Hq17.below hbq18
            have bq18 : Below wy.heap.size wy q18 := bq17.trans (hbq18.mono bq17.size)
            have lq18 := hbq18.size
            refine mid_intro bq18 ?_
            refine gC_one (i := 5) (by kernel_rfl) rfl ?_
            · go_wp2_with (go_at_call 25; refine (valid_yes 5 0 [.mk pk pn pks, .mk nk 0 nks] _ 2 _ (by omega) Hq18.rd hav'.out).mono ?_; rintro e q19 ⟨rfl, hbq19⟩)
              have zq19 := zq18.keep hbq19
              have Hq19 := Hq18.below hbq19
              have bq19 : Below wy.heap.size wy q19 := bq18.trans (hbq19.mono bq18.size)
              have lq19 := hbq19.size
              refine mid_intro bq19 ?_
              refine gC_takeT [6, 7, 8] (f := 2) (l' := #[true, true, true, true, true, true, true, true, true, true, false, false]) (lT := [_, _, _]) rfl (by kernel_rfl) (by kernel_rfl) (by kernel_rfl) rfl (fun _ _ d _ _ h => by cases d <;> exact h) ?_
              repeat (first | ((refine takeY_skip (a' := ?_) ?_ ?_ ?_); (rotate_left); (· (simp [Region.wanted, yielded]; done)); (· (simp only [List.getElem_toArray, List.getElem_cons_zero, List.getElem_cons_succ, Act.put, List.setIfInBounds_toArray, List.set_cons_zero, List.set_cons_succ]; exact rfl))) | ((refine takeY_step (v := ?_) (a' := ?_) ?_ ?_ ?_ ?_); (rotate_left 2); (· (simp [Region.wanted, yielded]; done)); (· (intro w' hS'; go_simp; try (with_reducible rfl))); (· (simp only [List.getElem_toArray, List.getElem_cons_zero, List.getElem_cons_succ, Act.put, List.setIfInBounds_toArray, List.set_cons_zero, List.set_cons_succ]; exact rfl))))
              refine takeY_nil ?_
              refine gC_end [10, 11] (lB := [_, _]) (by simp) (by kernel_rfl) (by kernel_rfl) rfl ?_
              obtain ⟨d0, d1, d2⟩ := zq19.three
              have e0 := zq19.frozen 0
              have e1 := zq19.frozen 1
              have e2 := zq19.frozen 2
              have szl := zq19.lt
              have szb : wy.heap.size ≤ q0.heap.size := by first | exact bq0.size | exact bq0.size
              go_wp2_with fail
              go_meet
              exact ⟨q0.heap.size, q16.heap.size, 2, rfl, rfl, ((zq19.set_ 0 _).set_ 1 _).set_ 2 _, ((Hq19.setZ (a := ⟨q0.heap.size, 0, none⟩) (.inr (by simp)) _).setZ (a := ⟨q0.heap.size, 1, none⟩) (.inr (by simp)) _).setZ (a := ⟨q0.heap.size, 2, none⟩) (.inr (by simp)) _, ((bq19.setCell (by simp <;> omega) _).setCell (by simp <;> omega) _).setCell (by simp <;> omega) _, szb, by simpa using szl⟩
  case rest =>
    obtain ⟨g11, row, ca, rfl, rfl, hT11, hAp, hx, hg11, hg11l⟩ := hcut
    clear v0 v1 v2
    go_upto_region 6 with fail
    refine name_world ?_
    intro wz hwz
    subst hwz
    replace hZ4 := hZ4.keep hx
    replace hZ5 := hZ5.keep hx
    replace hT7 := hT7.keep hx
    replace hRs := hRs.below hx
    have gz : Below w.heap.size w wz := gy.trans (hx.mono gy.size)
    have sz := hx.size
    obtain ⟨b, off, k', n', ks', A', c', hA1, hkj, hc1, hc2, hc3, hl', hr'⟩ := hRs.at_ (j := 1) (by simp)
    injection hkj with h1 h2 h3
    subst h1 h2 h3
    injection hA1 with hA1
    injection hA1 with hA2 hA3
    subst hA2 hA3
    have y2 := rule_of hT7.three.2.2
    have r0 := rule_of hc1
    have r1 := rule_of hc2
    have r2 := rule_of hc3
    clear hc1 hc2 hc3
    go_cut [13, 14] (fun s13 s14 wx => ∃ (g13 : Nat) (A7 : Option Addr) (c7 : Nat), s13 = .pointer (some ⟨g13, 0, none⟩) ∧ s14 = .bool true ∧ Blk wx g13 #[.int .i64 rk, .int .i64 rn, .slice A7 rks.length c7] ∧ rks.length ≤ 9223372036854775807 ∧ ApF wx wz.heap.size [g13] A7 rks ∧ Below wz.heap.size wz wx ∧ wz.heap.size ≤ g13)
    case first =>
      obtain ⟨q0, hq0⟩ : ∃ q0, q0 = wz.drew := ⟨_, rfl⟩
      have bq0 : Below wz.heap.size wz q0 := by rw [hq0]; exact (Below.refl _ _).drew
      refine gC_start (fun w' => Below wz.heap.size wz w') [7, 8, 9, 11, 12] 13 (by kernel_rfl) rfl ?_
      refine gC_take [0, 1, 2, 3, 4] (f := 8) (l' := #[true, true, true, true, true, false, false, false, false, false, false, false, false]) (lT := [_, _, _, _, _]) (by rw [← hq0]; exact bq0) rfl (by kernel_rfl) (by kernel_rfl) (by kernel_rfl) rfl (fun _ _ d _ _ h => by cases d <;> exact h) ?_
      repeat (first | ((refine takeY_skip (a' := ?_) ?_ ?_ ?_); (rotate_left); (· (simp [Region.wanted, yielded]; done)); (· (simp only [List.getElem_toArray, List.getElem_cons_zero, List.getElem_cons_succ, Act.put, List.setIfInBounds_toArray, List.set_cons_zero, List.set_cons_succ]; exact rfl))) | ((refine takeY_step (v := ?_) (a' := ?_) ?_ ?_ ?_ ?_); (rotate_left 2); (· (simp [Region.wanted, yielded]; done)); (· (intro w' hS'; go_simp; try (with_reducible rfl))); (· (simp only [List.getElem_toArray, List.getElem_cons_zero, List.getElem_cons_succ, Act.put, List.setIfInBounds_toArray, List.set_cons_zero, List.set_cons_succ]; exact rfl))))
      refine takeY_nil ?_
      rw [← hq0]
      clear hq0
      refine gC_two (i := 5) (j := 10) (by kernel_rfl) rfl rfl ?_ ?_
      · have swq1 := bq0.size
        go_wp2_with (go_at_call 27; refine (hN.out _).mono ?_; rintro e q1 ⟨A3, c3, rfl, hl3, hfq1, hbq1⟩)
        have Fq1 : ApF q1 wz.heap.size [] A3 nks := hfq1.apf swq1 (fun z hz => by simp at hz <;> omega)
        have bq1 : Below wz.heap.size wz q1 := bq0.trans (hbq1.mono bq0.size)
        have lq1 := hbq1.size
        refine mid_intro bq1 ?_
        refine gC_two (i := 6) (j := 10) (by kernel_rfl) rfl rfl ?_ ?_
        · have swq2 := bq1.size
          go_wp2_with (go_at_call 28; refine (hI.out A' c' A3 c3 _ (hr'.below bq1) Fq1.rd).mono ?_; rintro e q2 hgo; obtain ⟨A7, c7, rfl, hl7, hfq2, hbq2⟩ := gotO_some hgo; clear hgo)
          have Hq2 : ApF q2 wz.heap.size [] A7 rks := hfq2.apf swq2 (fun z hz => by simp at hz <;> omega)
          have bq2 : Below wz.heap.size wz q2 := bq1.trans (hbq2.mono bq1.size)
          have lq2 := hbq2.size
          refine mid_intro bq2 ?_
          refine gC_takeT [7, 8, 9] (f := 3) (l' := #[true, true, true, true, true, true, true, true, true, true, false, false, false]) (lT := [_, _, _]) rfl (by kernel_rfl) (by kernel_rfl) (by kernel_rfl) rfl (fun _ _ d _ _ h => by cases d <;> exact h) ?_
          repeat (first | ((refine takeY_skip (a' := ?_) ?_ ?_ ?_); (rotate_left); (· (simp [Region.wanted, yielded]; done)); (· (simp only [List.getElem_toArray, List.getElem_cons_zero, List.getElem_cons_succ, Act.put, List.setIfInBounds_toArray, List.set_cons_zero, List.set_cons_succ]; exact rfl))) | ((refine takeY_step (v := ?_) (a' := ?_) ?_ ?_ ?_ ?_); (rotate_left 2); (· (simp [Region.wanted, yielded]; done)); (· (intro w' hS'; go_simp; try (with_reducible rfl))); (· (simp only [List.getElem_toArray, List.getElem_cons_zero, List.getElem_cons_succ, Act.put, List.setIfInBounds_toArray, List.set_cons_zero, List.set_cons_succ]; exact rfl))))
          refine takeY_nil ?_
          refine gC_one (i := 10) (by kernel_rfl) rfl ?_
          · have szq3 := bq2.size
            go_wp2_with fail
            refine name_midw ?_
            intro q3 hn
            have bq3 : Below wz.heap.size wz q3 := by rw [hn]; exact bq2.alloc szq3 _
            have zq3 : Blk q3 q2.heap.size #[.int .i64 0, .int .i64 0, .slice none 0 0] := by rw [hn]; exact Blk.new_ _ 27 _ rfl
            have eq3 : q3.heap.size = q2.heap.size + 1 := by rw [hn]; simp
            have kq3 : Below q2.heap.size q2 q3 := by rw [hn]; exact (Below.refl _ _).alloc (Nat.le_refl _) _
            have seq3 : q2.heap.size < q3.heap.size := by omega
            clear hn eq3
            have Hq3 := Hq2.add kq3
            refine mid_intro bq3 ?_
            refine gC_end [11, 12] (lB := [_, _]) (by simp) (by kernel_rfl) (by kernel_rfl) rfl ?_
            obtain ⟨d0, d1, d2⟩ := zq3.three
            have e0 := zq3.frozen 0
            have e1 := zq3.frozen 1
            have e2 := zq3.frozen 2
            have szl := zq3.lt
            have szb : wz.heap.size ≤ q2.heap.size := by first | exact bq0.size | exact bq2.size
            go_wp2_with fail
            go_meet
            exact ⟨q2.heap.size, A7, c7, rfl, rfl, ((zq3.set_ 0 _).set_ 1 _).set_ 2 _, hl7, ((Hq3.setZ (a := ⟨q2.heap.size, 0, none⟩) (.inr (by simp)) _).setZ (a := ⟨q2.heap.size, 1, none⟩) (.inr (by simp)) _).setZ (a := ⟨q2.heap.size, 2, none⟩) (.inr (by simp)) _, ((bq3.setCell (by simp <;> omega) _).setCell (by simp <;> omega) _).setCell (by simp <;> omega) _, szb⟩
        · have szq4 := bq1.size
          go_wp2_with fail
          refine name_midw ?_
          intro q4 hn
          have bq4 : Below wz.heap.size wz q4 := by rw [hn]; exact bq1.alloc szq4 _
          have zq4 : Blk q4 q1.heap.size #[.int .i64 0, .int .i64 0, .slice none 0 0] := by rw [hn]; exact Blk.new_ _ 27 _ rfl
          have eq4 : q4.heap.size = q1.heap.size + 1 := by rw [hn]; simp
          have kq4 : Below q1.heap.size q1 q4 := by rw [hn]; exact (Below.refl _ _).alloc (Nat.le_refl _) _
          have seq4 : q1.heap.size < q4.heap.size := by omega
          clear hn eq4
          have Fq4 := Fq1.add kq4
          refine mid_intro bq4 ?_
          refine gC_one (i := 6) (by kernel_rfl) rfl ?_
          · have swq5 := bq4.size
            have szzq5 := zq4.lt
            go_wp2_with (go_at_call 28; refine (hI.out A' c' A3 c3 _ (hr'.below bq4) Fq4.rd).mono ?_; rintro e q5 hgo; obtain ⟨A7, c7, rfl, hl7, hfq5, hbq5⟩ := gotO_some hgo; clear hgo)
            have zq5 := zq4.keep hbq5
            have Hq5 : ApF q5 wz.heap.size [q1.heap.size] A7 rks := hfq5.apf swq5 (fun z hz => by simp at hz <;> omega)
            have bq5 : Below wz.heap.size wz q5 := bq4.trans (hbq5.mono bq4.size)
            have lq5 := hbq5.size
            refine mid_intro bq5 ?_
            refine gC_takeT [7, 8, 9] (f := 2) (l' := #[true, true, true, true, true, true, true, true, true, true, true, false, false]) (lT := [_, _, _]) rfl (by kernel_rfl) (by kernel_rfl) (by kernel_rfl) rfl (fun _ _ d _ _ h => by cases d <;> exact h) ?_
            repeat (first | ((refine takeY_skip (a' := ?_) ?_ ?_ ?_); (rotate_left); (· (simp [Region.wanted, yielded]; done)); (· (simp only [List.getElem_toArray, List.getElem_cons_zero, List.getElem_cons_succ, Act.put, List.setIfInBounds_toArray, List.set_cons_zero, List.set_cons_succ]; exact rfl))) | ((refine takeY_step (v := ?_) (a' := ?_) ?_ ?_ ?_ ?_); (rotate_left 2); (· (simp [Region.wanted, yielded]; done)); (· (intro w' hS'; go_simp; try (with_reducible rfl))); (· (simp only [List.getElem_toArray, List.getElem_cons_zero, List.getElem_cons_succ, Act.put, List.setIfInBounds_toArray, List.set_cons_zero, List.set_cons_succ]; exact rfl))))
            refine takeY_nil ?_
            refine gC_end [11, 12] (lB := [_, _]) (by simp) (by kernel_rfl) (by kernel_rfl) rfl ?_
            obtain ⟨d0, d1, d2⟩ := zq5.three
            have e0 := zq5.frozen 0
            have e1 := zq5.frozen 1
            have e2 := zq5.frozen 2
            have szl := zq5.lt
            have szb : wz.heap.size ≤ q1.heap.size := by first | exact bq0.size | exact bq1.size
            go_wp2_with fail
            go_meet
            exact ⟨q1.heap.size, A7, c7, rfl, rfl, ((zq5.set_ 0 _).set_ 1 _).set_ 2 _, hl7, ((Hq5.setZ (a := ⟨q1.heap.size, 0, none⟩) (.inr (by simp)) _).setZ (a := ⟨q1.heap.size, 1, none⟩) (.inr (by simp)) _).setZ (a := ⟨q1.heap.size, 2, none⟩) (.inr (by simp)) _, ((bq5.setCell (by simp <;> omega) _).setCell (by simp <;> omega) _).setCell (by simp <;> omega) _, szb⟩
      · have szq6 := bq0.size
        go_wp2_with fail
        refine name_midw ?_
        intro q6 hn
        have bq6 : Below wz.heap.size wz q6 := by rw [hn]; exact bq0.alloc szq6 _
        have zq6 : Blk q6 q0.heap.size #[.int .i64 0, .int .i64 0, .slice none 0 0] := by rw [hn]; exact Blk.new_ _ 27 _ rfl
        have eq6 : q6.heap.size = q0.heap.size + 1 := by rw [hn]; simp
        have kq6 : Below q0.heap.size q0 q6 := by rw [hn]; exact (Below.refl _ _).alloc (Nat.le_refl _) _
        have seq6 : q0.heap.size < q6.heap.size := by omega
        clear hn eq6
        refine mid_intro bq6 ?_
        refine gC_one (i := 5) (by kernel_rfl) rfl ?_
        · have swq7 := bq6.size
          have szzq7 := zq6.lt
          go_wp2_with (go_at_call 27; refine (hN.out _).mono ?_; rintro e q7 ⟨A3, c3, rfl, hl3, hfq7, hbq7⟩)
          have zq7 := zq6.keep hbq7
          have Fq7 : ApF q7 wz.heap.size [q0.heap.size] A3 nks := hfq7.apf swq7 (fun z hz => by simp at hz <;> omega)
          have bq7 : Below wz.heap.size wz q7 := bq6.trans (hbq7.mono bq6.size)
          have lq7 := hbq7.size
          refine mid_intro bq7 ?_
          refine gC_one (i := 6) (by kernel_rfl) rfl ?_
          · have swq8 := bq7.size
            have szzq8 := zq7.lt
            go_wp2_with (go_at_call 28; refine (hI.out A' c' A3 c3 _ (hr'.below bq7) Fq7.rd).mono ?_; rintro e q8 hgo; obtain ⟨A7, c7, rfl, hl7, hfq8, hbq8⟩ := gotO_some hgo; clear hgo)
            have zq8 := zq7.keep hbq8
            have Hq8 : ApF q8 wz.heap.size [q0.heap.size] A7 rks := hfq8.apf swq8 (fun z hz => by simp at hz <;> omega)
            have bq8 : Below wz.heap.size wz q8 := bq7.trans (hbq8.mono bq7.size)
            have lq8 := hbq8.size
            refine mid_intro bq8 ?_
            refine gC_takeT [7, 8, 9] (f := 2) (l' := #[true, true, true, true, true, true, true, true, true, true, true, false, false]) (lT := [_, _, _]) rfl (by kernel_rfl) (by kernel_rfl) (by kernel_rfl) rfl (fun _ _ d _ _ h => by cases d <;> exact h) ?_
            repeat (first | ((refine takeY_skip (a' := ?_) ?_ ?_ ?_); (rotate_left); (· (simp [Region.wanted, yielded]; done)); (· (simp only [List.getElem_toArray, List.getElem_cons_zero, List.getElem_cons_succ, Act.put, List.setIfInBounds_toArray, List.set_cons_zero, List.set_cons_succ]; exact rfl))) | ((refine takeY_step (v := ?_) (a' := ?_) ?_ ?_ ?_ ?_); (rotate_left 2); (· (simp [Region.wanted, yielded]; done)); (· (intro w' hS'; go_simp; try (with_reducible rfl))); (· (simp only [List.getElem_toArray, List.getElem_cons_zero, List.getElem_cons_succ, Act.put, List.setIfInBounds_toArray, List.set_cons_zero, List.set_cons_succ]; exact rfl))))
            refine takeY_nil ?_
            refine gC_end [11, 12] (lB := [_, _]) (by simp) (by kernel_rfl) (by kernel_rfl) rfl ?_
            obtain ⟨d0, d1, d2⟩ := zq8.three
            have e0 := zq8.frozen 0
            have e1 := zq8.frozen 1
            have e2 := zq8.frozen 2
            have szl := zq8.lt
            have szb : wz.heap.size ≤ q0.heap.size := by first | exact bq0.size | exact bq0.size
            go_wp2_with fail
            go_meet
            exact ⟨q0.heap.size, A7, c7, rfl, rfl, ((zq8.set_ 0 _).set_ 1 _).set_ 2 _, hl7, ((Hq8.setZ (a := ⟨q0.heap.size, 0, none⟩) (.inr (by simp)) _).setZ (a := ⟨q0.heap.size, 1, none⟩) (.inr (by simp)) _).setZ (a := ⟨q0.heap.size, 2, none⟩) (.inr (by simp)) _, ((bq8.setCell (by simp <;> omega) _).setCell (by simp <;> omega) _).setCell (by simp <;> omega) _, szb⟩
    case rest =>
      obtain ⟨g13, A7, c7, rfl, rfl, hT13, hl7, hR7, hx2, hg13⟩ := hcut
      clear y2 r0 r1 r2
      go_upto_region 9 with fail
      refine name_world ?_
      intro wu hwu
      subst hwu
      replace hZ4 := hZ4.keep hx2
      replace hZ5 := hZ5.keep hx2
      replace hT11 := hT11.keep hx2
      obtain ⟨f1, hO1⟩ := hAp.owf (B' := w.heap.size + 1 + 1) (by omega)
      replace hO1 := hO1.keep hx2
      obtain ⟨f2, hO2⟩ := hR7.owf (B' := wz.heap.size) (Nat.le_refl _)
      have gu : Below w.heap.size w wu := gz.trans (hx2.mono gz.size)
      have su := hx2.size
      obtain ⟨x0, x1, x2⟩ := hT11.three
      obtain ⟨y0, y1, y2⟩ := hT13.three
      obtain ⟨d0, d1, d2⟩ := hZ4.three
      have e0 := hZ4.frozen 0
      have e1 := hZ4.frozen 1
      have e2 := hZ4.frozen 2
      obtain ⟨f0, f1', f2'⟩ := hZ5.three
      have i0 := hZ5.frozen 0
      have i1 := hZ5.frozen 1
      have i2 := hZ5.frozen 2
      have hne : w.heap.size ≠ w.heap.size + 1 := by omega
      have n1 : g13 ≠ w.heap.size := by omega
      have n2 : g13 ≠ w.heap.size + 1 := by omega
      have n3 : g11 ≠ w.heap.size := by omega
      have n4 : g11 ≠ w.heap.size + 1 := by omega
      refine gC_start (fun _ => True) [3, 4] 5 (by kernel_rfl) rfl ?_
      refine gC_two (i := 0) (j := 1) (by kernel_rfl) rfl rfl ?_ ?_
      · go_wp2_with fail
        refine mid_intro trivial ?_
        refine gC_two (i := 1) (j := 2) (by kernel_rfl) rfl rfl ?_ ?_
        · go_wp2_with fail
          refine mid_intro trivial ?_
          refine gC_one (i := 2) (by kernel_rfl) rfl ?_
          · go_wp2_with fail
            refine mid_intro trivial ?_
            refine gC_end [3, 4] (lB := [_, _]) (by simp) (by kernel_rfl) (by kernel_rfl) rfl ?_
            go_wp2_with fail
            have hs : ∀ (W : World) (a : Addr) (u : Value), (a.block = w.heap.size ∨ a.block = w.heap.size + 1) → OwF W (some ⟨row, 0, none⟩) [.mk pk pn pks, .mk nk 0 nks] f1 (w.heap.size + 1 + 1) wz.heap.size → OwF (W.setCell a u) (some ⟨row, 0, none⟩) [.mk pk pn pks, .mk nk 0 nks] f1 (w.heap.size + 1 + 1) wz.heap.size := fun W a u ha h => ⟨h.ow.frame fun b hb => Below.heap_setCell W a u b (fun e => by have := h.lo b hb; omega), h.nodup, h.lo, h.hi⟩
            have hs2 : ∀ (W : World) (a : Addr) (u : Value), (a.block = w.heap.size ∨ a.block = w.heap.size + 1) → OwF W A7 rks f2 wz.heap.size wu.heap.size → OwF (W.setCell a u) A7 rks f2 wz.heap.size wu.heap.size := fun W a u ha h => ⟨h.ow.frame fun b hb => Below.heap_setCell W a u b (fun e => by have := h.lo b hb; omega), h.nodup, h.lo, h.hi⟩
            have q1 := (hs _ ⟨w.heap.size + 1, 2, none⟩ (.slice A7 rks.length c7) (.inr rfl) (hs _ ⟨w.heap.size + 1, 1, none⟩ (.int .i64 rn) (.inr rfl) (hs _ ⟨w.heap.size + 1, 0, none⟩ (.int .i64 rk) (.inr rfl) (hs _ ⟨w.heap.size, 2, none⟩ (.slice (some ⟨row, 0, none⟩) 2 ca) (.inl rfl) (hs _ ⟨w.heap.size, 1, none⟩ (.int .i64 0) (.inl rfl) (hs _ ⟨w.heap.size, 0, none⟩ (.int .i64 5) (.inl rfl) hO1)))))).drew
            have q2 := (hs2 _ ⟨w.heap.size + 1, 2, none⟩ (.slice A7 rks.length c7) (.inr rfl) (hs2 _ ⟨w.heap.size + 1, 1, none⟩ (.int .i64 rn) (.inr rfl) (hs2 _ ⟨w.heap.size + 1, 0, none⟩ (.int .i64 rk) (.inr rfl) (hs2 _ ⟨w.heap.size, 2, none⟩ (.slice (some ⟨row, 0, none⟩) 2 ca) (.inl rfl) (hs2 _ ⟨w.heap.size, 1, none⟩ (.int .i64 0) (.inl rfl) (hs2 _ ⟨w.heap.size, 0, none⟩ (.int .i64 5) (.inl rfl) hO2)))))).drew
            refine bodyPost_ret (v := .tuple #[.agg #[.int .i64 5, .int .i64 0, .slice (some ⟨row, 0, none⟩) 2 ca], .agg #[.int .i64 rk, .int .i64 rn, .slice A7 rks.length c7], .bool true]) (by simp [results, Tryz.results7, go_sem, d0, d1, d2, f0, f1', f2']) rfl ⟨5, 0, [.mk pk pn pks, .mk nk 0 nks], some ⟨row, 0, none⟩, ca, rk, rn, rks, A7, c7, f1, f2, wz.heap.size, by rw [hnum'.out]; rfl, rfl, rfl, by simp, hl7, ⟨q1.ow, q1.nodup, fun b hb => by have := q1.lo b hb; omega, q1.hi⟩, ⟨q2.ow, q2.nodup, q2.lo, fun b hb => by have := q2.hi b hb; simpa using this⟩, by have := gz.size; omega, by simpa using su, ?_⟩
            exact ((((((gu.setCell (by simp) _).setCell (by simp) _).setCell (by simp) _).setCell (by simp) _).setCell (by simp) _).setCell (by simp) _).drew
        · go_wp2_with fail
          refine mid_intro trivial ?_
          refine gC_one (i := 1) (by kernel_rfl) rfl ?_
          · go_wp2_with fail
            refine mid_intro trivial ?_
            refine gC_end [3, 4] (lB := [_, _]) (by simp) (by kernel_rfl) (by kernel_rfl) rfl ?_
            go_wp2_with fail
            have hs : ∀ (W : World) (a : Addr) (u : Value), (a.block = w.heap.size ∨ a.block = w.heap.size + 1) → OwF W (some ⟨row, 0, none⟩) [.mk pk pn pks, .mk nk 0 nks] f1 (w.heap.size + 1 + 1) wz.heap.size → OwF (W.setCell a u) (some ⟨row, 0, none⟩) [.mk pk pn pks, .mk nk 0 nks] f1 (w.heap.size + 1 + 1) wz.heap.size := fun W a u ha h => ⟨h.ow.frame fun b hb => Below.heap_setCell W a u b (fun e => by have := h.lo b hb; omega), h.nodup, h.lo, h.hi⟩
            have hs2 : ∀ (W : World) (a : Addr) (u : Value), (a.block = w.heap.size ∨ a.block = w.heap.size + 1) → OwF W A7 rks f2 wz.heap.size wu.heap.size → OwF (W.setCell a u) A7 rks f2 wz.heap.size wu.heap.size := fun W a u ha h => ⟨h.ow.frame fun b hb => Below.heap_setCell W a u b (fun e => by have := h.lo b hb; omega), h.nodup, h.lo, h.hi⟩
            have q1 := (hs _ ⟨w.heap.size + 1, 2, none⟩ (.slice A7 rks.length c7) (.inr rfl) (hs _ ⟨w.heap.size + 1, 1, none⟩ (.int .i64 rn) (.inr rfl) (hs _ ⟨w.heap.size + 1, 0, none⟩ (.int .i64 rk) (.inr rfl) (hs _ ⟨w.heap.size, 2, none⟩ (.slice (some ⟨row, 0, none⟩) 2 ca) (.inl rfl) (hs _ ⟨w.heap.size, 1, none⟩ (.int .i64 0) (.inl rfl) (hs _ ⟨w.heap.size, 0, none⟩ (.int .i64 5) (.inl rfl) hO1)))))).drew
            have q2 := (hs2 _ ⟨w.heap.size + 1, 2, none⟩ (.slice A7 rks.length c7) (.inr rfl) (hs2 _ ⟨w.heap.size + 1, 1, none⟩ (.int .i64 rn) (.inr rfl) (hs2 _ ⟨w.heap.size + 1, 0, none⟩ (.int .i64 rk) (.inr rfl) (hs2 _ ⟨w.heap.size, 2, none⟩ (.slice (some ⟨row, 0, none⟩) 2 ca) (.inl rfl) (hs2 _ ⟨w.heap.size, 1, none⟩ (.int .i64 0) (.inl rfl) (hs2 _ ⟨w.heap.size, 0, none⟩ (.int .i64 5) (.inl rfl) hO2)))))).drew
            refine bodyPost_ret (v := .tuple #[.agg #[.int .i64 5, .int .i64 0, .slice (some ⟨row, 0, none⟩) 2 ca], .agg #[.int .i64 rk, .int .i64 rn, .slice A7 rks.length c7], .bool true]) (by simp [results, Tryz.results7, go_sem, d0, d1, d2, f0, f1', f2']) rfl ⟨5, 0, [.mk pk pn pks, .mk nk 0 nks], some ⟨row, 0, none⟩, ca, rk, rn, rks, A7, c7, f1, f2, wz.heap.size, by rw [hnum'.out]; rfl, rfl, rfl, by simp, hl7, ⟨q1.ow, q1.nodup, fun b hb => by have := q1.lo b hb; omega, q1.hi⟩, ⟨q2.ow, q2.nodup, q2.lo, fun b hb => by have := q2.hi b hb; simpa using this⟩, by have := gz.size; omega, by simpa using su, ?_⟩
            exact ((((((gu.setCell (by simp) _).setCell (by simp) _).setCell (by simp) _).setCell (by simp) _).setCell (by simp) _).setCell (by simp) _).drew
      · go_wp2_with fail
        refine mid_intro trivial ?_
        refine gC_one (i := 0) (by kernel_rfl) rfl ?_
        · go_wp2_with fail
          refine mid_intro trivial ?_
          refine gC_one (i := 2) (by kernel_rfl) rfl ?_
          · go_wp2_with fail
            refine mid_intro trivial ?_
            refine gC_end [3, 4] (lB := [_, _]) (by simp) (by kernel_rfl) (by kernel_rfl) rfl ?_
            go_wp2_with fail
            have hs : ∀ (W : World) (a : Addr) (u : Value), (a.block = w.heap.size ∨ a.block = w.heap.size + 1) → OwF W (some ⟨row, 0, none⟩) [.mk pk pn pks, .mk nk 0 nks] f1 (w.heap.size + 1 + 1) wz.heap.size → OwF (W.setCell a u) (some ⟨row, 0, none⟩) [.mk pk pn pks, .mk nk 0 nks] f1 (w.heap.size + 1 + 1) wz.heap.size := fun W a u ha h => ⟨h.ow.frame fun b hb => Below.heap_setCell W a u b (fun e => by have := h.lo b hb; omega), h.nodup, h.lo, h.hi⟩
            have hs2 : ∀ (W : World) (a : Addr) (u : Value), (a.block = w.heap.size ∨ a.block = w.heap.size + 1) → OwF W A7 rks f2 wz.heap.size wu.heap.size → OwF (W.setCell a u) A7 rks f2 wz.heap.size wu.heap.size := fun W a u ha h => ⟨h.ow.frame fun b hb => Below.heap_setCell W a u b (fun e => by have := h.lo b hb; omega), h.nodup, h.lo, h.hi⟩
            have q1 := (hs _ ⟨w.heap.size + 1, 2, none⟩ (.slice A7 rks.length c7) (.inr rfl) (hs _ ⟨w.heap.size + 1, 1, none⟩ (.int .i64 rn) (.inr rfl) (hs _ ⟨w.heap.size + 1, 0, none⟩ (.int .i64 rk) (.inr rfl) (hs _ ⟨w.heap.size, 2, none⟩ (.slice (some ⟨row, 0, none⟩) 2 ca) (.inl rfl) (hs _ ⟨w.heap.size, 1, none⟩ (.int .i64 0) (.inl rfl) (hs _ ⟨w.heap.size, 0, none⟩ (.int .i64 5) (.inl rfl) hO1)))))).drew
            have q2 := (hs2 _ ⟨w.heap.size + 1, 2, none⟩ (.slice A7 rks.length c7) (.inr rfl) (hs2 _ ⟨w.heap.size + 1, 1, none⟩ (.int .i64 rn) (.inr rfl) (hs2 _ ⟨w.heap.size + 1, 0, none⟩ (.int .i64 rk) (.inr rfl) (hs2 _ ⟨w.heap.size, 2, none⟩ (.slice (some ⟨row, 0, none⟩) 2 ca) (.inl rfl) (hs2 _ ⟨w.heap.size, 1, none⟩ (.int .i64 0) (.inl rfl) (hs2 _ ⟨w.heap.size, 0, none⟩ (.int .i64 5) (.inl rfl) hO2)))))).drew
            refine bodyPost_ret (v := .tuple #[.agg #[.int .i64 5, .int .i64 0, .slice (some ⟨row, 0, none⟩) 2 ca], .agg #[.int .i64 rk, .int .i64 rn, .slice A7 rks.length c7], .bool true]) (by simp [results, Tryz.results7, go_sem, d0, d1, d2, f0, f1', f2']) rfl ⟨5, 0, [.mk pk pn pks, .mk nk 0 nks], some ⟨row, 0, none⟩, ca, rk, rn, rks, A7, c7, f1, f2, wz.heap.size, by rw [hnum'.out]; rfl, rfl, rfl, by simp, hl7, ⟨q1.ow, q1.nodup, fun b hb => by have := q1.lo b hb; omega, q1.hi⟩, ⟨q2.ow, q2.nodup, q2.lo, fun b hb => by have := q2.hi b hb; simpa using this⟩, by have := gz.size; omega, by simpa using su, ?_⟩
            exact ((((((gu.setCell (by simp) _).setCell (by simp) _).setCell (by simp) _).setCell (by simp) _).setCell (by simp) _).setCell (by simp) _).drew
end Go.Proofs.YthgmofdfecioaaaGreatDoor

namespace Go.Proofs.YthgmofdfecioaaaGreatDoor
open Go.RowKit
set_option linter.unusedSimpArgs false
set_option linter.unusedVariables false

set_option maxHeartbeats 8000000 in
set_option maxRecDepth 100000 in
theorem iUse_no1 {thm : Int} {sR pR sB pB : List UInt8} {oS oP : Option Tm} (h : ThmAt thm sR pR sB pB oS oP) {n : Int} (ho : oS = none) (w : World) (hm : GM w) : Calls Tryz.prog 7 #[.int .i64 thm, .int .i64 n] w (GotU w none) := by
  have hT := hide (fun w (hm : GM w) => iType_any h w hm)
  obtain ⟨kT, nT, ksT, hTk⟩ : ∃ k n1 ks, oS.getD (.mk 0 0 []) = .mk k n1 ks := by cases h : oS.getD (.mk 0 0 []); exact ⟨_, _, _, rfl⟩
  have hTb : oS.isSome = false := by rw [ho]; rfl
  replace hTk := hide hTk
  replace hTb := hide hTb
  have hm' := hide hm
  clear h hm
  go_enter Tryz.func7, Tryz.ntmps7
  go_wp2_with (first
    | (go_at_call 14; refine (hT.out _ ((hm'.out.alloc _).alloc _)).mono ?_; rintro e w1 hgo; obtain ⟨A1, c1, rfl, hl1, hf1, hb1⟩ := gotP_at hgo hTk.out hTb.out; clear hgo; have hZ4 := ((Blk.new_ w 27 #[.int .i64 0, .int .i64 0, .slice none 0 0] rfl).alloc (.cells #[.int .i64 0, .int .i64 0, .slice none 0 0] 27)).keep hb1; have hZ5 : Blk w1 (w.heap.size + 1) #[.int .i64 0, .int .i64 0, .slice none 0 0] := (Blk.new_ _ 27 _ (by simp)).keep hb1; have s1 : w.heap.size + 1 + 1 ≤ w1.heap.size := (by have := hb1.size; simpa using this); have g1 : Below w.heap.size w w1 := (((Below.refl _ _).alloc (Nat.le_refl _) _).alloc (by simp) _).trans (hb1.mono (by simp; omega)); have hRs := hf1.rd; obtain ⟨d0, d1, d2⟩ := hZ4.three; have e0 := hZ4.frozen 0; have e1 := hZ4.frozen 1; have e2 := hZ4.frozen 2; obtain ⟨f0, f1, f2⟩ := hZ5.three; have i0 := hZ5.frozen 0; have i1 := hZ5.frozen 1; have i2 := hZ5.frozen 2; have lz5 := hZ5.lt; have lz4 := hZ4.lt))
  have hne : w.heap.size ≠ w.heap.size + 1 := by omega
  refine bodyPost_ret (v := .tuple #[.agg #[.int .i64 0, .int .i64 0, .slice none 0 0], .agg #[.int .i64 0, .int .i64 0, .slice none 0 0], .bool false]) (by simp [results, Tryz.results7, go_sem, d0, d1, d2, f0, f1, f2, lz4, lz5]) rfl ⟨0, 0, [], none, 0, 0, 0, [], none, 0, [], [], w.heap.size, rfl, rfl, rfl, by simp, by simp, ⟨.inl ⟨rfl, rfl⟩, List.nodup_nil, by simp, by simp⟩, ⟨.inl ⟨rfl, rfl⟩, List.nodup_nil, by simp, by simp⟩, Nat.le_refl _, by have := g1.size; simp; omega, ?_⟩
  exact ((((((g1.setCell (by simp) _).setCell (by simp) _).setCell (by simp) _).setCell (by simp) _).setCell (by simp) _).setCell (by simp) _).alloc (by simp; have := g1.size; omega) _
set_option maxHeartbeats 8000000 in
set_option maxRecDepth 100000 in
theorem iUse_no2 {thm : Int} {sR pR sB pB : List UInt8} {oS oP : Option Tm} (h : ThmAt thm sR pR sB pB oS oP) {n : Int} {b : Tm} (hn : ¬ (0 ≤ n ∧ n ≤ 20)) (ho : oS = some (.mk 3 0 [.mk 6 0 [], b])) (w : World) (hm : GM w) : Calls Tryz.prog 7 #[.int .i64 thm, .int .i64 n] w (GotU w none) := by
  have hT := hide (fun w (hm : GM w) => iType_any h w hm)
  have hTk : oS.getD (.mk 0 0 []) = .mk 3 0 [.mk 6 0 [], b] := by rw [ho]; rfl
  have hTb : oS.isSome = true := by rw [ho]; rfl
  have hq : (decide ((0 : Int) ≤ n) && decide (n ≤ 20)) = false := by rw [Bool.and_eq_false_iff, decide_eq_false_iff_not, decide_eq_false_iff_not]; omega
  replace hTk := hide hTk
  replace hTb := hide hTb
  have hm' := hide hm
  clear h hm
  go_enter Tryz.func7, Tryz.ntmps7
  go_wp2_with (first
    | (go_at_call 24; refine (isNumber_any _ _).mono ?_; rw [hq]; rintro e w9 ⟨rfl, rfl⟩)
    | (go_at_call 14; refine (hT.out _ ((hm'.out.alloc _).alloc _)).mono ?_; rintro e w1 hgo; obtain ⟨A1, c1, rfl, hl1, hf1, hb1⟩ := gotP_at hgo hTk.out hTb.out; clear hgo; have hZ4 := ((Blk.new_ w 27 #[.int .i64 0, .int .i64 0, .slice none 0 0] rfl).alloc (.cells #[.int .i64 0, .int .i64 0, .slice none 0 0] 27)).keep hb1; have hZ5 : Blk w1 (w.heap.size + 1) #[.int .i64 0, .int .i64 0, .slice none 0 0] := (Blk.new_ _ 27 _ (by simp)).keep hb1; have s1 : w.heap.size + 1 + 1 ≤ w1.heap.size := (by have := hb1.size; simpa using this); have g1 : Below w.heap.size w w1 := (((Below.refl _ _).alloc (Nat.le_refl _) _).alloc (by simp) _).trans (hb1.mono (by simp; omega)); have hRs := hf1.rd; obtain ⟨b0, off0, k0', n0', ks0', A0', c0', hA0, hk0, i1, i2, i3, hl0', hr0'⟩ := hRs.at_ (j := 0) (by simp); injection hk0 with h1 h2 h3; subst h1 h2 h3 hA0; simp only [Nat.zero_mul, Nat.add_zero] at i1 i2 i3; have lb0 := World.block_lt_of_cell? _ _ i1; clear i2 i3; obtain ⟨d0, d1, d2⟩ := hZ4.three; have e0 := hZ4.frozen 0; have e1 := hZ4.frozen 1; have e2 := hZ4.frozen 2; obtain ⟨f0, f1, f2⟩ := hZ5.three; have i0 := hZ5.frozen 0; have i1 := hZ5.frozen 1; have i2 := hZ5.frozen 2; have lz5 := hZ5.lt; have lz4 := hZ4.lt))
  have hne : w.heap.size ≠ w.heap.size + 1 := by omega
  refine bodyPost_ret (v := .tuple #[.agg #[.int .i64 0, .int .i64 0, .slice none 0 0], .agg #[.int .i64 0, .int .i64 0, .slice none 0 0], .bool false]) (by simp [results, Tryz.results7, go_sem, d0, d1, d2, f0, f1, f2, lz4, lz5]) rfl ⟨0, 0, [], none, 0, 0, 0, [], none, 0, [], [], w.heap.size, rfl, rfl, rfl, by simp, by simp, ⟨.inl ⟨rfl, rfl⟩, List.nodup_nil, by simp, by simp⟩, ⟨.inl ⟨rfl, rfl⟩, List.nodup_nil, by simp, by simp⟩, Nat.le_refl _, by have := g1.size; simp; omega, ?_⟩
  exact ((((((g1.setCell (by simp) _).setCell (by simp) _).setCell (by simp) _).setCell (by simp) _).setCell (by simp) _).setCell (by simp) _).alloc (by simp; have := g1.size; omega) _
set_option maxHeartbeats 8000000 in
set_option maxRecDepth 100000 in
theorem iUse_no3 {thm : Int} {sR pR sB pB : List UInt8} {oS oP : Option Tm} (h : ThmAt thm sR pR sB pB oS oP) {n : Int} {n0 : Int} {ks0 : List Tm} {b : Tm} (ho : oS = some (.mk 3 0 [.mk 10 n0 ks0, b])) (w : World) (hm : GM w) : Calls Tryz.prog 7 #[.int .i64 thm, .int .i64 n] w (GotU w none) := by
  have hT := hide (fun w (hm : GM w) => iType_any h w hm)
  have hTk : oS.getD (.mk 0 0 []) = .mk 3 0 [.mk 10 n0 ks0, b] := by rw [ho]; rfl
  have hTb : oS.isSome = true := by rw [ho]; rfl
  replace hTk := hide hTk
  replace hTb := hide hTb
  have hm' := hide hm
  clear h hm
  go_enter Tryz.func7, Tryz.ntmps7
  go_wp2_with (first
    | (go_at_call 14; refine (hT.out _ ((hm'.out.alloc _).alloc _)).mono ?_; rintro e w1 hgo; obtain ⟨A1, c1, rfl, hl1, hf1, hb1⟩ := gotP_at hgo hTk.out hTb.out; clear hgo; have hZ4 := ((Blk.new_ w 27 #[.int .i64 0, .int .i64 0, .slice none 0 0] rfl).alloc (.cells #[.int .i64 0, .int .i64 0, .slice none 0 0] 27)).keep hb1; have hZ5 : Blk w1 (w.heap.size + 1) #[.int .i64 0, .int .i64 0, .slice none 0 0] := (Blk.new_ _ 27 _ (by simp)).keep hb1; have s1 : w.heap.size + 1 + 1 ≤ w1.heap.size := (by have := hb1.size; simpa using this); have g1 : Below w.heap.size w w1 := (((Below.refl _ _).alloc (Nat.le_refl _) _).alloc (by simp) _).trans (hb1.mono (by simp; omega)); have hRs := hf1.rd; obtain ⟨b0, off0, k0', n0', ks0', A0', c0', hA0, hk0, i1, i2, i3, hl0', hr0'⟩ := hRs.at_ (j := 0) (by simp); injection hk0 with h1 h2 h3; subst h1 h2 h3 hA0; simp only [Nat.zero_mul, Nat.add_zero] at i1 i2 i3; have lb0 := World.block_lt_of_cell? _ _ i1; clear i2 i3; obtain ⟨d0, d1, d2⟩ := hZ4.three; have e0 := hZ4.frozen 0; have e1 := hZ4.frozen 1; have e2 := hZ4.frozen 2; obtain ⟨f0, f1, f2⟩ := hZ5.three; have i0 := hZ5.frozen 0; have i1 := hZ5.frozen 1; have i2 := hZ5.frozen 2; have lz5 := hZ5.lt; have lz4 := hZ4.lt))
  have hne : w.heap.size ≠ w.heap.size + 1 := by omega
  refine bodyPost_ret (v := .tuple #[.agg #[.int .i64 0, .int .i64 0, .slice none 0 0], .agg #[.int .i64 0, .int .i64 0, .slice none 0 0], .bool false]) (by simp [results, Tryz.results7, go_sem, d0, d1, d2, f0, f1, f2, lz4, lz5]) rfl ⟨0, 0, [], none, 0, 0, 0, [], none, 0, [], [], w.heap.size, rfl, rfl, rfl, by simp, by simp, ⟨.inl ⟨rfl, rfl⟩, List.nodup_nil, by simp, by simp⟩, ⟨.inl ⟨rfl, rfl⟩, List.nodup_nil, by simp, by simp⟩, Nat.le_refl _, by have := g1.size; simp; omega, ?_⟩
  exact ((((((g1.setCell (by simp) _).setCell (by simp) _).setCell (by simp) _).setCell (by simp) _).setCell (by simp) _).setCell (by simp) _).alloc (by simp; have := g1.size; omega) _
theorem iUse_any {thm : Int} {sR pR sB pB : List UInt8} {oS oP : Option Tm} (h : ThmAt thm sR pR sB pB oS oP) {n : Int} {r : Option (Tm × Tm)} (hu : UseAt oS oP n r) (w : World) (hm : GM w) : Calls Tryz.prog 7 #[.int .i64 thm, .int .i64 n] w (GotU w r) := by
  rcases hu with ⟨s, p, m, pk, pn, pks, kb, nb, kbs, rk, rn, rks, rfl, rfl, rfl, hu, rfl⟩ | ⟨hno, rfl⟩
  · exact iUse_yes h hu w hm
  · rcases hno with ho | ⟨hn, b, ho⟩ | ⟨n0, ks0, b, ho⟩
    · exact iUse_no1 h ho w hm
    · exact iUse_no2 h hn ho w hm
    · exact iUse_no3 h ho w hm
end Go.Proofs.YthgmofdfecioaaaGreatDoor

namespace Go.Proofs.YthgmofdfecioaaaGreatDoor
open Go.RowKit
set_option linter.unusedSimpArgs false
set_option linter.unusedVariables false

/-- the cells of a row of terms that can be read in some blocks -/
def RdX (p : Nat → Prop) (w : World) : List Tm → List Value → Prop
  | [], xs => xs = []
  | .mk k n ks :: ts, xs => ∃ A c ys, xs = .int .i64 k :: .int .i64 n :: .slice A ks.length c :: ys ∧ ks.length ≤ 9223372036854775807 ∧ RdP p w A 0 ks ∧ RdX p w ts ys
theorem RdX.keep {p q : Nat → Prop} {w w' : World} (hq : ∀ b, p b → q b) (hk : ∀ b, p b → b < w.heap.size → w'.heap[b]? = w.heap[b]?) : ∀ {ts : List Tm} {xs : List Value}, RdX p w ts xs → RdX q w' ts xs
  | [], xs, h => h
  | .mk k n ks :: ts, xs, h => by
    obtain ⟨A, c, ys, e, hl, hr, hx⟩ := h
    exact ⟨A, c, ys, e, hl, (hr.blocks hk).mono hq, hx.keep hq hk⟩
theorem RdX.append {p : Nat → Prop} {w : World} {us : List Tm} {y : List Value} (hu : RdX p w us y) : ∀ {ts : List Tm} {xs : List Value}, RdX p w ts xs → RdX p w (ts ++ us) (xs ++ y)
  | [], xs, h => by have h : xs = [] := h; subst h; exact hu
  | .mk k n ks :: ts, xs, h => by
    obtain ⟨A, c, ys, rfl, hl, hr, hx⟩ := h
    exact ⟨A, c, ys ++ y, rfl, hl, hr, RdX.append hu hx⟩
theorem RdX.length {p : Nat → Prop} {w : World} : ∀ {ts : List Tm} {xs : List Value}, RdX p w ts xs → xs.length = ts.length * 3
  | [], xs, h => by have h : xs = [] := h; subst h; rfl
  | .mk k n ks :: ts, xs, h => by
    obtain ⟨A, c, ys, rfl, hl, hr, hx⟩ := h
    have := hx.length
    simp only [List.length_cons]
    omega
theorem RdX.rd {p : Nat → Prop} {w : World} {g off : Nat} : ∀ {ts : List Tm} {xs : List Value} {i : Nat}, RdX p w ts xs → (∀ j u, xs[j]? = some u → w.cell? ⟨g, off + i * 3 + j, none⟩ = some u) → Rd w (some ⟨g, off, none⟩) i ts
  | [], xs, i, _, _ => Rd.nil
  | .mk k n ks :: ts, xs, i, h, hc => by
    obtain ⟨A, c, ys, rfl, hl, hr, hx⟩ := h
    refine Rd.cons_iff.2 ⟨⟨g, off, rfl, RdC.iff.2 ⟨hc 0 _ rfl, hc 1 _ rfl, A, c, hc 2 _ rfl, hl, hr.rd⟩⟩, hx.rd fun j u hu => ?_⟩
    have := hc (j + 3) u (by simpa using hu)
    rw [← this]
    congr 2
    omega
theorem RdX.rdp {p : Nat → Prop} {w : World} {g off : Nat} (hg : p g) : ∀ {ts : List Tm} {xs : List Value} {i : Nat}, RdX p w ts xs → (∀ j u, xs[j]? = some u → w.cell? ⟨g, off + i * 3 + j, none⟩ = some u) → RdP p w (some ⟨g, off, none⟩) i ts
  | [], xs, i, _, _ => RdP.nil
  | .mk k n ks :: ts, xs, i, h, hc => by
    obtain ⟨A, c, ys, rfl, hl, hr, hx⟩ := h
    refine RdP.cons_iff.2 ⟨⟨g, off, rfl, RdPC.iff.2 ⟨hg, hc 0 _ rfl, hc 1 _ rfl, A, c, hc 2 _ rfl, hl, hr⟩⟩, hx.rdp hg fun j u hu => ?_⟩
    have := hc (j + 3) u (by simpa using hu)
    rw [← this]
    congr 2
    omega
/-- where the terms of a slice that grows may lie: where p says, or from B on, not in the row itself -/
def PB (lo : Nat → Prop) (B : Nat) (w : World) (v : Value) (b : Nat) : Prop := (lo b ∨ B ≤ b) ∧ b < w.heap.size ∧ v.ownBlock ≠ some b
/-- a slice of terms that grows: its own row lies from B on -/
def PartR (lo : Nat → Prop) (B : Nat) (w : World) (v : Value) (ts : List Tm) : Prop :=
  ∃ xs, w.ownsRow B 27 3 v ts.length xs ∧ RdX (PB lo B w v) w ts xs
section
variable {lo : Nat → Prop} {B : Nat} {w w' : World} {v : Value} {ts : List Tm}
theorem PartR.nil : PartR lo B w (.slice none 0 0) [] := ⟨[], World.ownsRow_nil _ _ _ _, rfl⟩
theorem PartR.below (h : PartR lo B w v ts) (hk : Below w.heap.size w w') : PartR lo B w' v ts := by
  obtain ⟨xs, h1, h2⟩ := h
  refine ⟨xs, ⟨h1.1, ?_⟩, h2.keep (fun b hb => ⟨hb.1, Nat.lt_of_lt_of_le hb.2.1 hk.size, hb.2.2⟩) fun b hb hl => hk.block b hl⟩
  rcases h1.2 with hn | ⟨g, cap, cur, rfl, hb, hg, r⟩
  · exact .inl hn
  · exact .inr ⟨g, cap, cur, rfl, hb, (hk.block g (Array.getElem?_eq_some_iff.1 hg).1).trans hg, r⟩
theorem PartR.alloc (h : PartR lo B w v ts) (o : Obj) : PartR lo B (w.alloc o) v ts := h.below ((Below.refl _ _).alloc (Nat.le_refl _) _)
theorem PartR.drew (h : PartR lo B w v ts) : PartR lo B w.drew v ts := h.below (Below.refl _ _).drew
theorem PartR.setCell (h : PartR lo B w v ts) {a : Addr} (ha : ¬ lo a.block ∧ a.block < B) (u : Value) : PartR lo B (w.setCell a u) v ts := by
  obtain ⟨xs, h1, h2⟩ := h
  refine ⟨xs, ⟨h1.1, ?_⟩, h2.keep (fun b hb => ⟨hb.1, by simpa using hb.2.1, hb.2.2⟩) fun b hb hl => Below.heap_setCell w a u b (fun e => by subst e; exact hb.1.elim ha.1 (fun h => by omega))⟩
  rcases h1.2 with hn | ⟨g, cap, cur, rfl, hb, hg, r⟩
  · exact .inl hn
  · exact .inr ⟨g, cap, cur, rfl, hb, (Below.heap_setCell w a u g (by omega)).trans hg, r⟩
/-- at the end: the slice's shape, and that its terms can be read -/
theorem PartR.rd (h : PartR lo B w v ts) : ∃ A c, v = .slice A ts.length c ∧ RdP (fun b => lo b ∨ B ≤ b) w A 0 ts := by
  obtain ⟨xs, h1, h2⟩ := h
  rcases h1.2 with ⟨rfl, h0⟩ | ⟨g, cap, cur, rfl, hb, hg, _, _, _, htk⟩
  · have : ts = [] := List.eq_nil_of_length_eq_zero h0
    subst this
    exact ⟨none, 0, rfl, RdP.nil⟩
  · refine ⟨_, _, rfl, RdX.rdp (.inr hb) (h2.keep (fun b hb => hb.1) fun _ _ _ => rfl) fun j u hu => ?_⟩
    rw [show 0 + 0 * 3 + j = j by omega, cell_of_row w g j cur 27 (0, 0) hg]
    have h3 := htk
    rw [← h3, List.getElem?_take] at hu
    split at hu
    · simpa using hu
    · cases hu
theorem PartR.shape (h : PartR lo B w v ts) : ∃ A c, v = .slice A ts.length c := by
  obtain ⟨A, c, hv, _⟩ := h.rd; exact ⟨A, c, hv⟩
end
section
variable {lo : Nat → Prop} {B : Nat} {w : World} {v : Value} {ts : List Tm} {k n : Int} {ks : List Tm} {A : Option Addr} {c : Nat} {q : Nat → Prop}
/-- append of one term that can be read -/
theorem run_append_rd (hp : PartR lo B w v ts) (hB : B ≤ w.heap.size) (hr : RdP q w A 0 ks) (hq : ∀ b, q b → PB lo B w v b) (hl : ks.length ≤ 9223372036854775807) (hlen : ts.length ≤ 1099511627776) (ty : TypeId) :
    ∃ v' w', (Builtin.append_ #[25, 25] ty #[v, .slice (some ⟨w.heap.size, 0, none⟩) 1 1]).run Tryz.prog (w.alloc (.cells #[.int .i64 k, .int .i64 n, .slice A ks.length c] 27)) = .ok v' w' ∧
      PartR lo B w' v' (ts ++ [.mk k n ks]) ∧ Below B w w' ∧ w.grownBy w' v.ownBlock := by
  obtain ⟨i, hi, hz, hz1, hz2⟩ := info_parts tm_info
  obtain ⟨xs, k1, h2⟩ := hp.alloc (.cells #[.int .i64 k, .int .i64 n, .slice A ks.length c] 27)
  have hge : ∀ g, v.ownBlock = some g → B ≤ g := fun g hg => (k1.lt g hg).1
  obtain ⟨v', w', hrun, hown, hg, _, hat⟩ := run_append_own_at (P := Tryz.prog) (w.alloc (.cells #[.int .i64 k, .int .i64 n, .slice A ks.length c] 27)) B 25 ty 27 i _ 3 40 Tryz.underlying25 hi hz hz1 hz2 rfl (by simp) v ts.length xs k1 ⟨w.heap.size, 0, none⟩ 1 1 [.int .i64 k, .int .i64 n, .slice A ks.length c] rfl (by
    intro j u hj
    match j, hj with
    | 0, hj => simp only [List.getElem?_cons_zero, Option.some.injEq] at hj; subst hj; simp [Addr.add]
    | 1, hj => simp only [List.getElem?_cons_succ, List.getElem?_cons_zero, Option.some.injEq] at hj; subst hj; simp [Addr.add]
    | 2, hj => simp only [List.getElem?_cons_succ, List.getElem?_cons_zero, Option.some.injEq] at hj; subst hj; simp [Addr.add]) (by
    intro u hu
    simp only [List.mem_cons, List.not_mem_nil, or_false] at hu
    rcases hu with rfl | rfl | rfl <;> rfl) (by simp only [maxLen]; omega) (by omega) (by simp; omega)
  have hsz : w.heap.size + 1 ≤ w'.heap.size := by have := hg.size; simpa using this
  have hne : ∀ b, b < (w.alloc (.cells #[.int .i64 k, .int .i64 n, .slice A ks.length c] 27)).heap.size → v.ownBlock ≠ some b → v'.ownBlock ≠ some b := by
    intro b hb hv e
    rcases hat with e' | e'
    · exact hv (e'.symm.trans e)
    · rw [e'] at e; injection e with e; omega
  have hst : ∀ b, PB lo B (w.alloc (.cells #[.int .i64 k, .int .i64 n, .slice A ks.length c] 27)) v b → PB lo B w' v' b := fun b hb => ⟨hb.1, by have := hb.2.1; have := hg.size; omega, hne b hb.2.1 hb.2.2⟩
  have hkp : ∀ b, PB lo B (w.alloc (.cells #[.int .i64 k, .int .i64 n, .slice A ks.length c] 27)) v b → b < (w.alloc (.cells #[.int .i64 k, .int .i64 n, .slice A ks.length c] 27)).heap.size → w'.heap[b]? = (w.alloc (.cells #[.int .i64 k, .int .i64 n, .slice A ks.length c] 27)).heap[b]? := fun b hb hl => hg.block b hl (fun e => hb.2.2 e.symm)
  have hr' : RdP (PB lo B w' v') w' A 0 ks := (((hr.alloc (.cells #[.int .i64 k, .int .i64 n, .slice A ks.length c] 27)).mono (q := PB lo B (w.alloc (.cells #[.int .i64 k, .int .i64 n, .slice A ks.length c] 27)) v) (fun b hb => ⟨(hq b hb).1, by have := (hq b hb).2.1; simp; omega, (hq b hb).2.2⟩)).blocks hkp).mono hst
  refine ⟨v', w', hrun, ⟨xs ++ [.int .i64 k, .int .i64 n, .slice A ks.length c], by simpa using hown, RdX.append (show RdX (PB lo B w' v') w' [.mk k n ks] _ from ⟨A, c, [], rfl, hl, hr', rfl⟩) (h2.keep hst hkp)⟩, ?_, grownBy_trans (grownBy_alloc_ (World.grownBy.refl _ _) _) hg⟩
  exact ((Below.refl _ _).alloc hB _).trans ⟨hg.os, hg.tape, hg.output, hg.size, fun k hk => hg.block k (by simp; omega) (fun e => by have := hge k e.symm; omega)⟩
/-- in a plain region -/
theorem wpList_append_rd (hp : PartR lo B w v ts) (hB : B ≤ w.heap.size) (hr : RdP q w A 0 ks) (hq : ∀ b, q b → PB lo B w v b) (hl : ks.length ≤ 9223372036854775807) {m : Nat} (hm : ts.length = m) (hlen : m ≤ 1099511627776)
    {ops : Array Oper} {rest : List Oper} {o : Oper} {a : Act} {Q : Exit → Act → World → Prop} (hgd : o.guard = none) (s x : Operand)
    (ho : o.op = .call { callee := .builtin .append, args := #[s, x], argTypes := #[25, 25] }) (hse : a.eval s = v) (hx : a.eval x = .slice (some ⟨w.heap.size, 0, none⟩) 1 1)
    (h : ∀ A' c' w', PartR lo B w' (.slice A' (m + 1) c') (ts ++ [.mk k n ks]) → Below B w w' → w.grownBy w' v.ownBlock → wpList Tryz.prog ops Q rest (a.put o.dst (.slice A' (m + 1) c')) w') :
    wpList Tryz.prog ops Q (o :: rest) a (w.alloc (.cells #[.int .i64 k, .int .i64 n, .slice A ks.length c] 27)) := by
  subst hm
  refine wpList_plain hgd fun K hK => ?_
  obtain ⟨v', w', hrun, h2, h3, h4⟩ := run_append_rd (k := k) (n := n) (c := c) hp hB hr hq hl hlen o.type
  unfold Oper.wp execOp
  simp only [ho, resolve, invoke, builtin, Sem.run_bind, Sem.run_pure, Result.andThen_ok, List.map_toArray, List.map_cons, List.map_nil, hse, hx, hrun]
  obtain ⟨A', c', rfl⟩ := h2.shape
  rw [List.length_append] at h2 ⊢
  exact hK _ _ (h A' c' w' h2 h3 h4)
end
end Go.Proofs.YthgmofdfecioaaaGreatDoor

namespace Go.Proofs.YthgmofdfecioaaaGreatDoor
open Go.RowKit
set_option linter.unusedSimpArgs false
set_option linter.unusedVariables false

theorem RdX.set {p : Nat → Prop} {w : World} {ku nu : Int} {us : List Tm} {U : Option Addr} {cu : Nat} (hl : us.length ≤ 9223372036854775807) (hu : RdP p w U 0 us) : ∀ {ts : List Tm} {xs : List Value} {i : Nat}, RdX p w ts xs → i < ts.length →
    RdX p w (ts.set i (.mk ku nu us)) (((xs.set (i * 3) (.int .i64 ku)).set (i * 3 + 1) (.int .i64 nu)).set (i * 3 + 2) (.slice U us.length cu))
  | [], _, _, _, h => absurd h (Nat.not_lt_zero _)
  | .mk k n ks :: ts, xs, 0, h, _ => by
    obtain ⟨A, c, ys, rfl, hl1, hr, hx⟩ := h
    exact ⟨U, cu, ys, rfl, hl, hu, hx⟩
  | .mk k n ks :: ts, xs, i + 1, h, hi => by
    obtain ⟨A, c, ys, rfl, hl1, hr, hx⟩ := h
    refine ⟨A, c, _, ?_, hl1, hr, RdX.set (cu := cu) hl hu hx (Nat.lt_of_succ_lt_succ hi)⟩
    rw [show (i + 1) * 3 = i * 3 + 3 from by omega, show i * 3 + 3 + 1 = (i * 3 + 1) + 3 from by omega, show i * 3 + 3 + 2 = (i * 3 + 2) + 3 from by omega]
    rfl
/-- terms that stand in the block g; what they lead to lies where p says -/
def RowS (p : Nat → Prop) (w : World) (g : Nat) (ts : List Tm) : Prop :=
  ∃ (cur : Array Value) (xs : List Value), Blk w g cur ∧ (∀ (j : Nat) (u : Value), xs[j]? = some u → cur[j]? = some u) ∧ RdX p w ts xs
section
variable {p : Nat → Prop} {w w' : World} {g : Nat} {ts : List Tm}
theorem RowS.lt (h : RowS p w g ts) : g < w.heap.size := by obtain ⟨_, _, h, _⟩ := h; exact h.lt
theorem RowS.frozen (h : RowS p w g ts) (j : Nat) : w.frozen? ⟨g, j, none⟩ = false := by obtain ⟨_, _, h, _⟩ := h; exact h.frozen j
theorem RowS.cell (h : RowS p w g ts) {j : Nat} (hj : j < ts.length * 3) : ∃ u, w.cell? ⟨g, j, none⟩ = some u := by
  obtain ⟨cur, xs, hB, hcl, h2⟩ := h
  have hxl := h2.length
  exact ⟨xs[j]'(by omega), hB.at_ (hcl j _ (List.getElem?_eq_getElem (by omega)))⟩
theorem RowS.below (h : RowS p w g ts) (hb : Below w.heap.size w w') (hp : ∀ b, p b → b < w.heap.size) : RowS p w' g ts := by
  obtain ⟨cur, xs, hB, hcl, h2⟩ := h
  exact ⟨cur, xs, hB.keep hb, hcl, h2.keep (fun _ h => h) fun b hb' _ => hb.block b (hp b hb')⟩
theorem RowS.setCell (h : RowS p w g ts) {a : Addr} (ha : ¬ p a.block) (hg : g ≠ a.block) (u : Value) : RowS p (w.setCell a u) g ts := by
  obtain ⟨cur, xs, hB, hcl, h2⟩ := h
  exact ⟨cur, xs, hB.far hg u, hcl, h2.keep (fun _ h => h) fun b hb' _ => Below.heap_setCell w a u b (fun e => ha (e ▸ hb'))⟩
theorem RowS.set (h : RowS p w g ts) (hpg : ¬ p g) {i : Nat} (hi : i < ts.length) {ku nu : Int} {us : List Tm} {U : Option Addr} {cu : Nat} (hl : us.length ≤ 9223372036854775807) {q r : Nat → Prop} (hu : RdP q w U 0 us) (hq : ¬ q g) (hr1 : ∀ b, p b → r b) (hr2 : ∀ b, q b → r b) (hrg : r g) :
    RdP r (((w.setCell ⟨g, i * 3, none⟩ (.int .i64 ku)).setCell ⟨g, i * 3 + 1, none⟩ (.int .i64 nu)).setCell ⟨g, i * 3 + 2, none⟩ (.slice U us.length cu)) (some ⟨g, 0, none⟩) 0 (ts.set i (.mk ku nu us)) := by
  obtain ⟨cur, xs, hB1, hcl, h2⟩ := h
  have hxl := h2.length
  have h3 : RdX (fun b => b ≠ g ∧ r b) w ts xs := h2.keep (fun b hb => ⟨fun (e : b = g) => hpg (e ▸ hb), hr1 b hb⟩) fun _ _ _ => rfl
  have h4 := RdX.set (ku := ku) (nu := nu) (cu := cu) hl (hu.mono (q := fun b => b ≠ g ∧ r b) fun b hb => ⟨fun (e : b = g) => hq (e ▸ hb), hr2 b hb⟩) h3 hi
  have hset := ((hB1.set_ (i * 3) (.int .i64 ku)).set_ (i * 3 + 1) (.int .i64 nu)).set_ (i * 3 + 2) (.slice U us.length cu)
  refine RdX.rdp hrg (h4.keep (q := r) (fun _ h => h.2) fun b hb hl => ?_) fun j u hu2 => ?_
  · rw [Below.heap_setCell _ _ _ b (by simpa using hb.1), Below.heap_setCell _ _ _ b (by simpa using hb.1), Below.heap_setCell _ _ _ b (by simpa using hb.1)]
  · rw [show 0 + 0 * 3 + j = j from by omega]
    refine hset.at_ ?_
    have hcs' : ∀ j, j < xs.length → j < cur.size := fun j hj => by
      have := hcl j _ (List.getElem?_eq_getElem hj)
      exact (Array.getElem?_eq_some_iff.1 this).1
    rw [Array.getElem?_setIfInBounds, Array.getElem?_setIfInBounds, Array.getElem?_setIfInBounds]
    rw [List.getElem?_set, List.getElem?_set, List.getElem?_set] at hu2
    simp only [List.length_set] at hu2
    have hb2 : i * 3 + 2 < xs.length := by omega
    have c0 := hcs' (i * 3) (by omega)
    have c1 := hcs' (i * 3 + 1) (by omega)
    have c2 := hcs' (i * 3 + 2) (by omega)
    simp only [Array.size_setIfInBounds]
    by_cases j2 : i * 3 + 2 = j
    · rw [if_pos j2] at hu2 ⊢
      rw [if_pos (by omega)] at hu2
      rw [if_pos (by omega)]; exact hu2
    · rw [if_neg j2] at hu2 ⊢
      by_cases j1 : i * 3 + 1 = j
      · rw [if_pos j1] at hu2 ⊢
        rw [if_pos (by omega)] at hu2
        rw [if_pos (by omega)]; exact hu2
      · rw [if_neg j1] at hu2 ⊢
        by_cases j0 : i * 3 = j
        · rw [if_pos j0] at hu2 ⊢
          rw [if_pos (by omega)] at hu2
          rw [if_pos (by omega)]; exact hu2
        · rw [if_neg j0] at hu2 ⊢
          exact hcl j u hu2
/-- and what they lead to is there already -/
def RowT (p : Nat → Prop) (w : World) (g : Nat) (ts : List Tm) : Prop := RowS p w g ts ∧ ∀ b, p b → b < w.heap.size
theorem RowT.below (h : RowT p w g ts) (hb : Below w.heap.size w w') : RowT p w' g ts := ⟨h.1.below hb h.2, fun b hp => Nat.lt_of_lt_of_le (h.2 b hp) hb.size⟩
theorem RowT.setCell (h : RowT p w g ts) {a : Addr} (ha : ¬ p a.block) (hg : g ≠ a.block) (u : Value) : RowT p (w.setCell a u) g ts := ⟨h.1.setCell ha hg u, fun b hb => by simpa using h.2 b hb⟩
end
theorem PartR.rowS {lo : Nat → Prop} {B : Nat} {w : World} {A : Option Addr} {n c : Nat} {ts : List Tm} (h : PartR lo B w (.slice A n c) ts) (hi : 0 < ts.length) :
    ∃ g, A = some ⟨g, 0, none⟩ ∧ n = ts.length ∧ B ≤ g ∧ g < w.heap.size ∧ RowT (fun b => (lo b ∨ B ≤ b) ∧ b < w.heap.size ∧ b ≠ g) w g ts := by
  obtain ⟨xs, h1, h2⟩ := h
  rcases h1.2 with ⟨e, h0⟩ | ⟨g, cap, cur, e, hb, hg, hn, hmx, hcs, htk⟩
  · omega
  · injection e with e1 e2 e3
    subst e1 e2 e3
    have hB : Blk w g cur := ⟨27, hg⟩
    refine ⟨g, rfl, rfl, hb, hB.lt, ⟨cur, xs, hB, fun j u hu => ?_, h2.keep (fun b hb => ⟨hb.1, hb.2.1, fun e => hb.2.2 (by rw [e]; rfl)⟩) fun _ _ _ => rfl⟩, fun b hb => hb.2.1⟩
    rw [← htk, List.getElem?_take] at hu
    split at hu
    · simpa using hu
    · cases hu
end Go.Proofs.YthgmofdfecioaaaGreatDoor

namespace Go.Proofs.YthgmofdfecioaaaGreatDoor
open Go.RowKit
set_option linter.unusedSimpArgs false
set_option linter.unusedVariables false

/-- the cells of terms that can be read -/
theorem rdx_row {p : Nat → Prop} {w : World} {b off : Nat} : ∀ {ts : List Tm} {i : Nat}, RdP p w (some ⟨b, off, none⟩) i ts → ∃ xs, RdX p w ts xs ∧ ∀ j u, xs[j]? = some u → w.cell? ⟨b, off + i * 3 + j, none⟩ = some u
  | [], i, _ => ⟨[], rfl, fun j u h => by simp at h⟩
  | .mk k n ks :: ts, i, h => by
    obtain ⟨⟨b', off', hA, hc⟩, hr⟩ := RdP.cons_iff.1 h
    injection hA with hA
    injection hA with h1 h2
    subst h1 h2
    obtain ⟨hp, c0, c1, A, c, c2, hl, hk⟩ := RdPC.iff.1 hc
    obtain ⟨xs, hx, hcx⟩ := rdx_row hr
    refine ⟨.int .i64 k :: .int .i64 n :: .slice A ks.length c :: xs, ⟨A, c, xs, rfl, hl, hk, hx⟩, fun j u hj => ?_⟩
    match j, hj with
    | 0, hj => simp only [List.getElem?_cons_zero, Option.some.injEq] at hj; subst hj; exact c0
    | 1, hj => simp only [List.getElem?_cons_succ, List.getElem?_cons_zero, Option.some.injEq] at hj; subst hj; exact c1
    | 2, hj => simp only [List.getElem?_cons_succ, List.getElem?_cons_zero, Option.some.injEq] at hj; subst hj; exact c2
    | j + 3, hj =>
      simp only [List.getElem?_cons_succ] at hj
      have := hcx j u hj
      rw [← this]
      congr 2
      omega
theorem RdX.oneC {p : Nat → Prop} {w : World} : ∀ {ts : List Tm} {xs : List Value}, RdX p w ts xs → ∀ u, u ∈ xs → u.oneCell' = true
  | [], xs, h, u, hu => by have h : xs = [] := h; subst h; cases hu
  | .mk k n ks :: ts, xs, h, u, hu => by
    obtain ⟨A, c, ys, rfl, hl, hr, hx⟩ := h
    simp only [List.mem_cons] at hu
    rcases hu with rfl | rfl | rfl | hu
    · rfl
    · rfl
    · rfl
    · exact hx.oneC u hu
section
variable {lo : Nat → Prop} {B : Nat} {w : World} {v : Value} {ts : List Tm} {k n : Int} {ks : List Tm} {A : Option Addr} {c : Nat} {q : Nat → Prop}
/-- append of one term that can be read, whose cells lie somewhere -/
theorem run_append_rdW (hp : PartR lo B w v ts) (hB : B ≤ w.heap.size) (hr : RdP q w A 0 ks) (hq : ∀ b, q b → PB lo B w v b) (hl : ks.length ≤ 9223372036854775807) (hlen : ts.length ≤ 1099511627776) (g cc : Nat)
    (hb : Blk w g #[.int .i64 k, .int .i64 n, .slice A ks.length c]) (ty : TypeId) :
    ∃ v' w', (Builtin.append_ #[25, 25] ty #[v, .slice (some ⟨g, 0, none⟩) 1 cc]).run Tryz.prog w = .ok v' w' ∧
      PartR lo B w' v' (ts ++ [.mk k n ks]) ∧ Below B w w' ∧ w.grownBy w' v.ownBlock ∧ ∀ b, b < w.heap.size → v.ownBlock ≠ some b → v'.ownBlock ≠ some b := by
  obtain ⟨i, hi, hz, hz1, hz2⟩ := info_parts tm_info
  obtain ⟨xs, k1, h2⟩ := hp
  have hge : ∀ g, v.ownBlock = some g → B ≤ g := fun g hg => (k1.lt g hg).1
  obtain ⟨c0, c1, c2⟩ : w.cell? ⟨g, 0, none⟩ = some (.int .i64 k) ∧ w.cell? ⟨g, 1, none⟩ = some (.int .i64 n) ∧ w.cell? ⟨g, 2, none⟩ = some (.slice A ks.length c) := ⟨hb.at_ (i := 0) rfl, hb.at_ (i := 1) rfl, hb.at_ (i := 2) rfl⟩
  obtain ⟨v', w', hrun, hown, hg, _, hat⟩ := run_append_own_at (P := Tryz.prog) w B 25 ty 27 i _ 3 40 Tryz.underlying25 hi hz hz1 hz2 rfl (by omega) v ts.length xs k1 ⟨g, 0, none⟩ 1 cc [.int .i64 k, .int .i64 n, .slice A ks.length c] rfl (by
    intro j u hj
    match j, hj with
    | 0, hj => simp only [List.getElem?_cons_zero, Option.some.injEq] at hj; subst hj; simpa [Addr.add] using c0
    | 1, hj => simp only [List.getElem?_cons_succ, List.getElem?_cons_zero, Option.some.injEq] at hj; subst hj; simpa [Addr.add] using c1
    | 2, hj => simp only [List.getElem?_cons_succ, List.getElem?_cons_zero, Option.some.injEq] at hj; subst hj; simpa [Addr.add] using c2) (by
    intro u hu
    simp only [List.mem_cons, List.not_mem_nil, or_false] at hu
    rcases hu with rfl | rfl | rfl <;> rfl) (by simp only [maxLen]; omega) (by omega) (by omega)
  have hsz := hg.size
  have hne : ∀ b, b < w.heap.size → v.ownBlock ≠ some b → v'.ownBlock ≠ some b := by
    intro b hb hv e
    rcases hat with e' | e'
    · exact hv (e'.symm.trans e)
    · rw [e'] at e; injection e with e; omega
  have hst : ∀ b, PB lo B w v b → PB lo B w' v' b := fun b hb => ⟨hb.1, by have := hb.2.1; omega, hne b hb.2.1 hb.2.2⟩
  have hkp : ∀ b, PB lo B w v b → b < w.heap.size → w'.heap[b]? = w.heap[b]? := fun b hb hl => hg.block b hl (fun e => hb.2.2 e.symm)
  have hr' : RdP (PB lo B w' v') w' A 0 ks := ((hr.mono (q := PB lo B w v) hq).blocks hkp).mono hst
  refine ⟨v', w', hrun, ⟨xs ++ [.int .i64 k, .int .i64 n, .slice A ks.length c], by simpa using hown, RdX.append (show RdX (PB lo B w' v') w' [.mk k n ks] _ from ⟨A, c, [], rfl, hl, hr', rfl⟩) (h2.keep hst hkp)⟩, ?_, hg, hne⟩
  exact ⟨hg.os, hg.tape, hg.output, hg.size, fun k hk => hg.block k (by omega) (fun e => by have := hge k e.symm; omega)⟩
theorem step_append_rdW (hp : PartR lo B w v ts) (hB : B ≤ w.heap.size) (hr : RdP q w A 0 ks) (hq : ∀ b, q b → PB lo B w v b) (hl : ks.length ≤ 9223372036854775807) {m : Nat} (hm : ts.length = m) (hlen : m ≤ 1099511627776) (g cc : Nat)
    (hb : Blk w g #[.int .i64 k, .int .i64 n, .slice A ks.length c])
    {ops : Array Oper} {o : Oper} {a : Act} {K : Act → World → Prop} {Q : Exit → Act → World → Prop} {E : Prop} (hgd : o.guard = none) (s x : Operand)
    (ho : o.op = .call { callee := .builtin .append, args := #[s, x], argTypes := #[25, 25] }) (hs : a.eval s = v) (hx : a.eval x = .slice (some ⟨g, 0, none⟩) 1 cc)
    (h : ∀ A' c' w', PartR lo B w' (.slice A' (m + 1) c') (ts ++ [.mk k n ks]) → Below B w w' → w.grownBy w' v.ownBlock → (∀ b, b < w.heap.size → v.ownBlock ≠ some b → (Value.slice A' (m + 1) c').ownBlock ≠ some b) → K (a.put o.dst (.slice A' (m + 1) c')) w') :
    if Region.wanted o (yielded ops a.tmps) = true then Oper.wp Tryz.prog o a w K Q else E := by
  subst hm
  have hw : Region.wanted o (yielded ops a.tmps) = true := by simp [Region.wanted, hgd]
  rw [if_pos hw]
  obtain ⟨v', w', hrun, h2, h3, h4, h5⟩ := run_append_rdW (k := k) (n := n) (c := c) hp hB hr hq hl hlen g cc hb o.type
  unfold Oper.wp execOp
  simp only [ho, resolve, invoke, builtin, Sem.run_bind, Sem.run_pure, Result.andThen_ok, List.map_toArray, List.map_cons, List.map_nil, hs, hx, hrun]
  obtain ⟨A', c', rfl⟩ := h2.shape
  rw [List.length_append] at h2 ⊢
  exact h A' c' w' h2 h3 h4 (by rw [List.length_append] at h5; exact h5)
theorem wpList_append_rdW (hp : PartR lo B w v ts) (hB : B ≤ w.heap.size) (hr : RdP q w A 0 ks) (hq : ∀ b, q b → PB lo B w v b) (hl : ks.length ≤ 9223372036854775807) {m : Nat} (hm : ts.length = m) (hlen : m ≤ 1099511627776) (g cc : Nat)
    (hb : Blk w g #[.int .i64 k, .int .i64 n, .slice A ks.length c])
    {ops : Array Oper} {rest : List Oper} {o : Oper} {a : Act} {Q : Exit → Act → World → Prop} (hgd : o.guard = none) (s x : Operand)
    (ho : o.op = .call { callee := .builtin .append, args := #[s, x], argTypes := #[25, 25] }) (hse : a.eval s = v) (hx : a.eval x = .slice (some ⟨g, 0, none⟩) 1 cc)
    (h : ∀ A' c' w', PartR lo B w' (.slice A' (m + 1) c') (ts ++ [.mk k n ks]) → Below B w w' → w.grownBy w' v.ownBlock → (∀ b, b < w.heap.size → v.ownBlock ≠ some b → (Value.slice A' (m + 1) c').ownBlock ≠ some b) → wpList Tryz.prog ops Q rest (a.put o.dst (.slice A' (m + 1) c')) w') :
    wpList Tryz.prog ops Q (o :: rest) a w := by
  subst hm
  refine wpList_plain hgd fun K hK => ?_
  obtain ⟨v', w', hrun, h2, h3, h4, h5⟩ := run_append_rdW (k := k) (n := n) (c := c) hp hB hr hq hl hlen g cc hb o.type
  unfold Oper.wp execOp
  simp only [ho, resolve, invoke, builtin, Sem.run_bind, Sem.run_pure, Result.andThen_ok, List.map_toArray, List.map_cons, List.map_nil, hse, hx, hrun]
  obtain ⟨A', c', rfl⟩ := h2.shape
  rw [List.length_append] at h2 ⊢
  exact hK _ _ (h A' c' w' h2 h3 h4 (by rw [List.length_append] at h5; exact h5))
end
section
variable {p : Nat → Prop} {w : World} {l : List Tm} {L : Option Addr} {cl g : Nat}
/-- append of a slice of terms to an empty one -/
theorem run_append_listR (hg : w.heap[g]? = some (.cells #[] 27 (0, 0))) (hl : RdP p w L 0 l) (hp : ∀ b, p b → b < w.heap.size ∧ b ≠ g) (hlen : l.length ≤ 1099511627776) (ty : TypeId) :
    ∃ v' w', (Builtin.append_ #[25, 25] ty #[.slice (some ⟨g, 0, none⟩) 0 0, .slice L l.length cl]).run Tryz.prog w = .ok v' w' ∧ PartR p g w' v' l ∧ w.grownBy w' (some g) := by
  have hgw : g < w.heap.size := (Array.getElem?_eq_some_iff.1 hg).1
  obtain ⟨i, hi, hz, hz1, hz2⟩ := info_parts tm_info
  have k1 : w.ownsRow g 27 3 (.slice (some ⟨g, 0, none⟩) 0 0) 0 [] := ⟨by simp, .inr ⟨g, 0, #[], rfl, Nat.le_refl _, hg, Nat.le_refl _, by simp [maxLen], by simp, by simp⟩⟩
  cases l with
  | nil =>
    refine ⟨.slice (some ⟨g, 0, none⟩) 0 0, w, run_append_nothing w 25 25 ty 27 i Tryz.underlying25 hi _ 0 0 (Nat.le_refl _) _ ⟨.inl ⟨27, Tryz.underlying25⟩, fun w' => by simp [Builtin.lenOf], by cases L <;> simp [Builtin.firstCells, loadCells, loadCellsFrom], by cases L <;> simp [Builtin.firstCells, loadCells, loadCellsFrom], by simp, fun u hu => by cases hu⟩, ⟨[], k1, rfl⟩, World.grownBy.refl _ _⟩
  | cons t ts =>
    obtain ⟨⟨b, off, rfl, _⟩, _⟩ := RdP.cons_iff.1 hl
    obtain ⟨x1, hx, hc⟩ := rdx_row hl
    obtain ⟨v', w', hrun, hown, hgr, _, hat⟩ := run_append_own_at (P := Tryz.prog) w g 25 ty 27 i _ 3 40 Tryz.underlying25 hi hz hz1 hz2 rfl (by omega) _ 0 [] k1 ⟨b, off, none⟩ (t :: ts).length cl x1 hx.length (fun j u hj => by
        have := hc j u hj
        rw [show Addr.add ⟨b, off, none⟩ j = ⟨b, off + 0 * 3 + j, none⟩ from by simp only [Addr.add]; split <;> simp_all]
        exact this) hx.oneC (by simp only [maxLen]; omega) (by omega) (by omega)
    rw [Nat.zero_add, List.nil_append] at hown
    have hsz := hgr.size
    have hvo : ∀ b, b < w.heap.size → b ≠ g → v'.ownBlock ≠ some b := by
      intro b hb hbg e
      rcases hat with e' | e'
      · rw [e'] at e; injection e with e; exact hbg e.symm
      · rw [e'] at e; injection e with e; omega
    exact ⟨v', w', hrun, ⟨x1, hown, hx.keep (fun b hb => ⟨.inl hb, by have := (hp b hb).1; omega, hvo b (hp b hb).1 (hp b hb).2⟩) fun b hb hl => hgr.block b hl (fun e => (hp b hb).2 (by injection e))⟩, hgr⟩
theorem step_append_listR (hg : w.heap[g]? = some (.cells #[] 27 (0, 0))) (hl : RdP p w L 0 l) (hp : ∀ b, p b → b < w.heap.size ∧ b ≠ g) {m : Nat} (hm : l.length = m) (hlen : m ≤ 1099511627776)
    {ops : Array Oper} {o : Oper} {a : Act} {K : Act → World → Prop} {Q : Exit → Act → World → Prop} {E : Prop} (hgd : o.guard = none) (s x : Operand)
    (ho : o.op = .call { callee := .builtin .append, args := #[s, x], argTypes := #[25, 25] }) (hs : a.eval s = .slice (some ⟨g, 0, none⟩) 0 0) (hx : a.eval x = .slice L m cl)
    (h : ∀ A' c' w', PartR p g w' (.slice A' m c') l → w.grownBy w' (some g) → K (a.put o.dst (.slice A' m c')) w') :
    if Region.wanted o (yielded ops a.tmps) = true then Oper.wp Tryz.prog o a w K Q else E := by
  subst hm
  have hw : Region.wanted o (yielded ops a.tmps) = true := by simp [Region.wanted, hgd]
  rw [if_pos hw]
  obtain ⟨v', w', hrun, h2, h3⟩ := run_append_listR (cl := cl) hg hl hp hlen o.type
  unfold Oper.wp execOp
  simp only [ho, resolve, invoke, builtin, Sem.run_bind, Sem.run_pure, Result.andThen_ok, List.map_toArray, List.map_cons, List.map_nil, hs, hx, hrun]
  obtain ⟨A', c', rfl⟩ := h2.shape
  exact h A' c' w' h2 h3
end
end Go.Proofs.YthgmofdfecioaaaGreatDoor

namespace Go.Proofs.YthgmofdfecioaaaGreatDoor
open Go.RowKit
set_option linter.unusedSimpArgs false
set_option linter.unusedVariables false

section
variable {p : Nat → Prop} {w : World} {l : List Tm} {L : Option Addr} {cl g : Nat}
/-- append of a slice of terms to an empty one, in a plain region -/
theorem wpList_append_listR (hg : w.heap[g]? = some (.cells #[] 27 (0, 0))) (hl : RdP p w L 0 l) (hp : ∀ b, p b → b < w.heap.size ∧ b ≠ g) {m : Nat} (hm : l.length = m) (hlen : m ≤ 1099511627776)
    {ops : Array Oper} {rest : List Oper} {o : Oper} {a : Act} {Q : Exit → Act → World → Prop} (hgd : o.guard = none) (s x : Operand)
    (ho : o.op = .call { callee := .builtin .append, args := #[s, x], argTypes := #[25, 25] }) (hs : a.eval s = .slice (some ⟨g, 0, none⟩) 0 0) (hx : a.eval x = .slice L m cl)
    (h : ∀ A' c' w', PartR p g w' (.slice A' m c') l → w.grownBy w' (some g) → wpList Tryz.prog ops Q rest (a.put o.dst (.slice A' m c')) w') :
    wpList Tryz.prog ops Q (o :: rest) a w := by
  subst hm
  refine wpList_plain hgd fun K hK => ?_
  obtain ⟨v', w', hrun, h2, h3⟩ := run_append_listR (cl := cl) hg hl hp hlen o.type
  unfold Oper.wp execOp
  simp only [ho, resolve, invoke, builtin, Sem.run_bind, Sem.run_pure, Result.andThen_ok, List.map_toArray, List.map_cons, List.map_nil, hs, hx, hrun]
  obtain ⟨A', c', rfl⟩ := h2.shape
  exact hK _ _ (h A' c' w' h2 h3)
end
/-- the same terms in a row of their own -/
def GotC (p : Nat → Prop) (w : World) (ks : List Tm) (e : Ending) (w' : World) : Prop :=
  ∃ A c, e = .returned (.slice A ks.length c) ∧ PartR p w.heap.size w' (.slice A ks.length c) ks ∧ Below w.heap.size w w'
set_option maxHeartbeats 1000000 in
set_option maxRecDepth 100000 in
theorem iClone_any (p : Nat → Prop) (ks : List Tm) (A : Option Addr) (c : Nat) (w : World) (hl : ks.length ≤ 1099511627776) (hr : RdP p w A 0 ks) (hpw : ∀ b, p b → b < w.heap.size) :
    Calls Tryz.prog 137 #[.slice A ks.length c] w (GotC p w ks) := by
  cases A with
  | none =>
    have hk : ks = [] := by
      cases ks with
      | nil => rfl
      | cons t ts => obtain ⟨⟨b, off, h, _⟩, _⟩ := RdP.cons_iff.1 hr; cases h
    subst hk
    have hq : ∀ w', (binOp .eql 25 (.slice none 0 c) (.slice none 0 0)).run Tryz.prog w' = .ok (.bool true) w' := fun w' => by rw [Go.Lib.run_eql_slice_nil (t := 25) (h := Tryz.underlying25)]; rfl
    go_enter Tryz.func137, Tryz.ntmps137
    go_wp2_with fail
    go_ret
    exact ⟨none, 0, rfl, PartR.nil, Below.refl _ _⟩
  | some a =>
    have hq : ∀ w', (binOp .eql 25 (.slice (some a) ks.length c) (.slice none 0 0)).run Tryz.prog w' = .ok (.bool false) w' := fun w' => by rw [Go.Lib.run_eql_slice_nil (t := 25) (h := Tryz.underlying25)]; rfl
    go_enter Tryz.func137, Tryz.ntmps137
    go_wp2_with (at_builtin; refine wpList_append_listR (p := p) (g := w.heap.size) (cl := c) (heap_alloc_new w _) (hr.alloc _) (fun b hb => ⟨by have := hpw b hb; simp; omega, by have := hpw b hb; omega⟩) rfl hl rfl _ _ rfl rfl rfl ?_; intro A2 c2 w2 hp2 hg2)
    go_ret
    exact ⟨A2, c2, rfl, hp2, ((Below.refl _ _).alloc (Nat.le_refl _) _).trans ⟨hg2.os, hg2.tape, hg2.output, hg2.size, fun k hk => hg2.block k (by simp; omega) (fun e => by injection e; omega)⟩⟩
end Go.Proofs.YthgmofdfecioaaaGreatDoor

namespace Go.Proofs.YthgmofdfecioaaaGreatDoor
open Go.RowKit
set_option linter.unusedSimpArgs false
set_option linter.unusedVariables false

end Go.Proofs.YthgmofdfecioaaaGreatDoor

namespace Go.Proofs.YthgmofdfecioaaaGreatDoor
open Go.RowKit
set_option linter.unusedSimpArgs false
set_option linter.unusedVariables false

theorem tmEq_head {k n k' n' : Int} {ks ls : List Tm} (h : ¬ (k = k' ∧ n = n' ∧ ks.length = ls.length)) : tmEq (.mk k n ks) (.mk k' n' ls) = false := by
  cases e : tmEq (.mk k n ks) (.mk k' n' ls) with
  | false => rfl
  | true => have := tmEq_iff.1 e; injection this with h1 h2 h3; exact absurd ⟨h1, h2, by rw [h3]⟩ h
theorem tmEq_kids {k n : Int} {ks ls : List Tm} : tmEq (.mk k n ks) (.mk k n ls) = tmsEq ks ls := by
  by_cases h : ks = ls
  · subst h; rw [tmEq_self, tmsEq_self]
  · rw [tmsEq_false h]
    cases e : tmEq (.mk k n ks) (.mk k n ls) with
    | false => rfl
    | true => have := tmEq_iff.1 e; injection this with h1 h2 h3; exact absurd h3 h

set_option maxHeartbeats 2000000 in
set_option maxRecDepth 100000 in
theorem iSame_of {N : Nat} (ih : ∀ (ks : List Tm) (A : Option Addr) (c : Nat) (ls : List Tm) (B : Option Addr) (d : Nat) (w : World), sizes ks < N → ks.length ≤ 9223372036854775807 → ls.length ≤ 9223372036854775807 → Rd w A 0 ks → Rd w B 0 ls →
      Calls Tryz.prog 34 #[.slice A ks.length c, .slice B ls.length d, .func (.func 9) #[] #[]] w fun e w' => e = .returned (.bool (tmsEq ks ls)) ∧ Below w.heap.size w w')
    (k n : Int) (ks : List Tm) (A : Option Addr) (c : Nat) (k' n' : Int) (ls : List Tm) (B : Option Addr) (d : Nat) (w : World) (hN : sizes ks < N) (hl : ks.length ≤ 9223372036854775807) (hl' : ls.length ≤ 9223372036854775807) (hr : Rd w A 0 ks) (hr' : Rd w B 0 ls) :
    Calls Tryz.prog 9 #[.agg #[.int .i64 k, .int .i64 n, .slice A ks.length c], .agg #[.int .i64 k', .int .i64 n', .slice B ls.length d]] w fun e w' => e = .returned (.bool (tmEq (.mk k n ks) (.mk k' n' ls))) ∧ Below w.heap.size w w' := by
  have hb2 : ∀ o o', Below w.heap.size w ((w.alloc o).alloc o') := fun o o' => ((Below.refl _ _).alloc (Nat.le_refl _) _).alloc (by simp) _
  by_cases hk : k = k'
  · subst hk
    by_cases hn : n = n'
    · subst hn
      rw [tmEq_kids]
      generalize ht : tmsEq ks ls = b
      have ht' := hide ht
      clear ht
      go_enter Tryz.func9, Tryz.ntmps9
      go_wp2_with (go_at_call 34; refine (ih ks A c ls B d _ hN hl hl' ((hr.alloc _).alloc _) ((hr'.alloc _).alloc _)).mono ?_; rw [ht'.out]; rintro e w1 ⟨rfl, hb1⟩; replace hb1 : Below w.heap.size w w1 := (hb2 _ _).trans (hb1.mono (by simp; omega)))
      go_ret
      exact ⟨rfl, hb1⟩
    · have q2 : (n == n') = false := by simpa using hn
      rw [tmEq_head (by rintro ⟨-, h, -⟩; exact hn h)]
      clear hn
      go_enter Tryz.func9, Tryz.ntmps9
      go_wp2_with fail
      go_ret
      exact ⟨rfl, hb2 _ _⟩
  · have q1 : (k == k') = false := by simpa using hk
    rw [tmEq_head (by rintro ⟨h, -⟩; exact hk h)]
    clear hk
    go_enter Tryz.func9, Tryz.ntmps9
    go_wp2_with fail
    go_ret
    exact ⟨rfl, hb2 _ _⟩

set_option maxHeartbeats 2000000 in
set_option maxRecDepth 100000 in
theorem iSames_any (N : Nat) : ∀ (ks : List Tm) (A : Option Addr) (c : Nat) (ls : List Tm) (B : Option Addr) (d : Nat) (w : World), sizes ks < N → ks.length ≤ 9223372036854775807 → ls.length ≤ 9223372036854775807 → Rd w A 0 ks → Rd w B 0 ls →
      Calls Tryz.prog 34 #[.slice A ks.length c, .slice B ls.length d, .func (.func 9) #[] #[]] w fun e w' => e = .returned (.bool (tmsEq ks ls)) ∧ Below w.heap.size w w' := by
  induction N with
  | zero => intro ks A c ls B d w hN; exact absurd hN (Nat.not_lt_zero _)
  | succ N ih =>
  intro ks A c ls B d w hN hl hl' hr hr'
  have hrun := run_enter Tryz.func9 (by kernel_rfl) (by kernel_rfl)
  by_cases hlen : ks.length = ls.length
  · have hq : ((ks.length : Int) != (ls.length : Int)) = false := by simp [hlen]
    have hH := hide hlen
    have hle : ls.length ≤ ks.length := by omega
    have hge : ks.length ≤ ls.length := by omega
    clear hlen
    go_enter Tryz.func34, Tryz.ntmps34
    go_wp2_with fail
    go_loopw [17] (fun i wr => ∃ j : Nat, j ≤ ks.length ∧ i = .int .i64 j ∧ Hid (ks.take j = ls.take j) ∧ Below w.heap.size w wr) (fun i _ => ks.length - (intOf i).toNat)
    case atStart => exact ⟨0, Nat.zero_le _, rfl, hide (by simp), Below.refl _ _⟩
    case round =>
      obtain ⟨j, hj, rfl, heq, hb⟩ := hrel
      by_cases hlt : j < ks.length
      · have hlt' : j < ls.length := by omega
        obtain ⟨b, off, k1, n1, ks1, A1, c1, rfl, hkj, hc1, hc2, hc3, hl1, hr1⟩ := (hr.below hb).at_ hlt
        obtain ⟨b2, off2, k2, n2, ks2, A2, c2, rfl, hkj2, hd1, hd2, hd3, hl2, hr2⟩ := (hr'.below hb).at_ hlt'
        have hbl := World.block_lt_of_cell? _ _ hc1
        have hbl2 := World.block_lt_of_cell? _ _ hd1
        have hsz := sizes_le (List.getElem_mem hlt)
        rw [hkj] at hsz
        simp only [Tm.size] at hsz
        have H3 := hide hkj
        have H4 := hide hkj2
        clear hkj hkj2
        have hx : ∀ o o', Below wr.heap.size wr ((wr.alloc o).alloc o') := fun o o' => ((Below.refl _ _).alloc (Nat.le_refl _) _).alloc (by simp) _
        cases hte : tmEq (.mk k1 n1 ks1) (.mk k2 n2 ks2) with
        | false =>
          have hte' := hide hte
          clear hte
          go_wp2_with (go_at_call 9; refine (iSame_of ih k1 n1 ks1 A1 c1 k2 n2 ks2 A2 c2 _ (by omega) hl1 hl2 ((hr1.alloc _).alloc _) ((hr2.alloc _).alloc _)).mono ?_; rw [hte'.out]; rintro e w1 ⟨rfl, hb1⟩; replace hb1 : Below wr.heap.size wr w1 := (hx _ _).trans (hb1.mono (by simp; omega)))
          go_ret
          refine ⟨ret_bool (tmsEq_false fun e => ?_).symm, hb.trans (hb1.mono hb.size)⟩
          have := hte'.out
          subst e
          rw [← H3.out, ← H4.out, tmEq_self] at this
          cases this
        | true =>
          have hte' := hide hte
          clear hte
          go_wp2_with (go_at_call 9; refine (iSame_of ih k1 n1 ks1 A1 c1 k2 n2 ks2 A2 c2 _ (by omega) hl1 hl2 ((hr1.alloc _).alloc _) ((hr2.alloc _).alloc _)).mono ?_; rw [hte'.out]; rintro e w1 ⟨rfl, hb1⟩; replace hb1 : Below wr.heap.size wr w1 := (hx _ _).trans (hb1.mono (by simp; omega)))
          go_roundw
          case rel => exact ⟨j + 1, by omega, by go_num, hide (by rw [List.take_succ_eq_append_getElem hlt, List.take_succ_eq_append_getElem hlt', heq.out, H3.out, H4.out, tmEq_iff.1 hte'.out]), hb.trans (hb1.mono hb.size)⟩
          case measure => simp [intOf]; omega
      · go_wp2_with fail
        go_ret
        have hjl : j = ks.length := by omega
        have h5 := heq.out
        rw [hjl, List.take_length, hH.out, List.take_length] at h5
        exact ⟨ret_bool (tmsEq_iff.2 h5).symm, hb⟩
  · have hq : ((ks.length : Int) != (ls.length : Int)) = true := by simp; omega
    rw [tmsEq_false (fun e => hlen (by rw [e]))]
    clear hlen
    go_enter Tryz.func34, Tryz.ntmps34
    go_wp2_with fail
    go_ret
    exact ⟨rfl, Below.refl _ _⟩
theorem iSame_any (k n : Int) (ks : List Tm) (A : Option Addr) (c : Nat) (k' n' : Int) (ls : List Tm) (B : Option Addr) (d : Nat) (w : World) (hl : ks.length ≤ 9223372036854775807) (hl' : ls.length ≤ 9223372036854775807) (hr : Rd w A 0 ks) (hr' : Rd w B 0 ls) :
    Calls Tryz.prog 9 #[.agg #[.int .i64 k, .int .i64 n, .slice A ks.length c], .agg #[.int .i64 k', .int .i64 n', .slice B ls.length d]] w fun e w' => e = .returned (.bool (tmEq (.mk k n ks) (.mk k' n' ls))) ∧ Below w.heap.size w w' :=
  iSame_of (N := sizes ks + 1) (iSames_any _) k n ks A c k' n' ls B d w (Nat.lt_succ_self _) hl hl' hr hr'
end Go.Proofs.YthgmofdfecioaaaGreatDoor

namespace Go.Proofs.YthgmofdfecioaaaGreatDoor
open Go.RowKit
set_option linter.unusedSimpArgs false
set_option linter.unusedVariables false

/-- a row of terms at a block, whose terms lie in blocks of their own from lo on -/
def Tab (w : World) (lo g : Nat) (G : List Tm) : Prop :=
  g < lo ∧ ∃ cur f, w.heap[g]? = some (.cells cur 27 (0, 0)) ∧ cur.size = G.length * 3 ∧ OwX w G cur.toList f ∧ f.Nodup ∧ ∀ b, b ∈ f → lo ≤ b
variable {w w' w0 : World} {lo g : Nat} {G : List Tm}
theorem Tab.only {fp : List Nat} (h : Tab w lo g G) (ho : OnlyIn fp w w') (hfp : ∀ b, b ∈ fp → b ≠ g ∧ b < lo) : Tab w' lo g G := by
  obtain ⟨h0, cur, f, h1, h2, h3, h4, h5⟩ := h
  refine ⟨h0, cur, f, (ho.block g (Array.getElem?_eq_some_iff.1 h1).1 (fun hm => (hfp g hm).1 rfl)).trans h1, h2, h3.frame fun b hb => ho.block b (h3.lt b hb) fun hm => ?_, h4, h5⟩
  have := (hfp b hm).2; have := h5 b hb; omega
theorem Tab.keep (h : Tab w lo g G) (hb : Below w.heap.size w w') : Tab w' lo g G := by
  obtain ⟨h0, cur, f, h1, h2, h3, h4, h5⟩ := h
  exact ⟨h0, cur, f, (hb.block g (Array.getElem?_eq_some_iff.1 h1).1).trans h1, h2, h3.frame fun b hm => hb.block b (h3.lt b hm), h4, h5⟩
theorem Tab.alloc (h : Tab w lo g G) (o : Obj) : Tab (w.alloc o) lo g G := h.keep ((Below.refl _ _).alloc (Nat.le_refl _) _)
theorem Tab.drew (h : Tab w lo g G) : Tab w.drew lo g G := h.keep (Below.refl _ _).drew
theorem Tab.setCell (h : Tab w lo g G) {p : Addr} (hp : p.block ≠ g) (hl : p.block < lo) (u : Value) : Tab (w.setCell p u) lo g G := by
  obtain ⟨h0, cur, f, h1, h2, h3, h4, h5⟩ := h
  exact ⟨h0, cur, f, (Below.heap_setCell w p u g (fun e => hp e.symm)).trans h1, h2, h3.frame fun b hb => Below.heap_setCell w p u b (fun e => by have := h5 b hb; omega), h4, h5⟩
theorem Tab.lt (h : Tab w lo g G) : g < w.heap.size := by
  obtain ⟨h0, cur, f, h1, _⟩ := h
  exact (Array.getElem?_eq_some_iff.1 h1).1
theorem Tab.glo (h : Tab w lo g G) : g < lo := h.1
theorem Tab.frozen (h : Tab w lo g G) (j : Nat) : w.frozen? ⟨g, j, none⟩ = false := by
  obtain ⟨h0, cur, f, h1, h2, _⟩ := h
  simp [World.frozen?, h1]
theorem Tab.rd (h : Tab w lo g G) : Rd w (some ⟨g, 0, none⟩) 0 G := by
  obtain ⟨h0, cur, f, h1, h2, h3, h4, h5⟩ := h
  refine own_rd.2 _ _ _ h3 g 0 0 fun j u hu => ?_
  rw [show 0 + 0 * 3 + j = j by omega, cell_of_row w g j cur 27 (0, 0) h1]
  simpa using hu
/-- one place is laid anew -/
theorem Tab.put (h : Tab w0 lo g G) (hb : Below w0.heap.size w0 w) (hlo : lo ≤ w0.heap.size) {k m : Int} {ks : List Tm} {A : Option Addr} {c j : Nat} (hfr : Fresh w0.heap.size w A ks) (hl : ks.length ≤ 9223372036854775807) (hj : j < G.length) :
    Tab (((w.setCell ⟨g, j * 3, none⟩ (.int .i64 k)).setCell ⟨g, j * 3 + 1, none⟩ (.int .i64 m)).setCell ⟨g, j * 3 + 2, none⟩ (.slice A ks.length c)) lo g (G.set j (.mk k m ks)) := by
  obtain ⟨h0, cur, f, h1, h2, h3, h4, h5⟩ := h
  obtain ⟨fp, k1, k2, k3⟩ := hfr
  have hg0 := (Array.getElem?_eq_some_iff.1 h1).1
  have hg : w.heap[g]? = some (.cells cur 27 (0, 0)) := (hb.block g hg0).trans h1
  have far : ∀ b, b ≠ g → (((w.setCell ⟨g, j * 3, none⟩ (.int .i64 k)).setCell ⟨g, j * 3 + 1, none⟩ (.int .i64 m)).setCell ⟨g, j * 3 + 2, none⟩ (.slice A ks.length c)).heap[b]? = w.heap[b]? := fun b hbg => by
    rw [Below.heap_setCell _ _ _ _ hbg, Below.heap_setCell _ _ _ _ hbg, Below.heap_setCell _ _ _ _ hbg]
  have hsp : G = G.take j ++ G[j] :: G.drop (j + 1) := by rw [← List.drop_eq_getElem_cons hj, List.take_append_drop]
  have hsp2 : G.set j (.mk k m ks) = G.take j ++ Tm.mk k m ks :: G.drop (j + 1) := by rw [List.set_eq_take_append_cons_drop, if_pos hj]
  have h3' := h3
  rw [hsp] at h3'
  obtain ⟨x0, x1, x2, f0, f1, f2, hx, hf, o0, o1, o2⟩ := OwX.split h3'
  have l0 : x0.length = j * 3 := by rw [o0.length, List.length_take, Nat.min_eq_left (Nat.le_of_lt hj)]
  have l1 := o1.length
  obtain ⟨p, q, r, rfl⟩ : ∃ p q r, x1 = [p, q, r] := by
    match x1, l1 with
    | [p, q, r], _ => exact ⟨p, q, r, rfl⟩
  subst hf
  have lt0 : ∀ b, b ∈ f0 ++ (f1 ++ f2) → b < w0.heap.size := fun b hb => h3.lt b hb
  have nd := List.nodup_append.1 h4
  have nd2 := List.nodup_append.1 nd.2.1
  refine ⟨h0, ((cur.setIfInBounds (j * 3) (.int .i64 k)).setIfInBounds (j * 3 + 1) (.int .i64 m)).setIfInBounds (j * 3 + 2) (.slice A ks.length c), f0 ++ (fp ++ f2), ?_, by simpa using h2, ?_, ?_, ?_⟩
  · simp [World.setCell, Array.getElem?_modify, hg]
  · have e : (((cur.setIfInBounds (j * 3) (.int .i64 k)).setIfInBounds (j * 3 + 1) (.int .i64 m)).setIfInBounds (j * 3 + 2) (.slice A ks.length c)).toList = x0 ++ ([.int .i64 k, .int .i64 m, .slice A ks.length c] ++ x2) := by
      simp only [Array.toList_setIfInBounds, hx, ← l0]
      simp [List.set_append]
    rw [e, hsp2]
    have keep : ∀ b, b ∈ f0 ++ (f1 ++ f2) → (((w.setCell ⟨g, j * 3, none⟩ (.int .i64 k)).setCell ⟨g, j * 3 + 1, none⟩ (.int .i64 m)).setCell ⟨g, j * 3 + 2, none⟩ (.slice A ks.length c)).heap[b]? = w0.heap[b]? := fun b hm => by
      rw [far b (by have := h5 b hm; omega)]; exact hb.block b (lt0 b hm)
    exact OwX.join (o0.frame fun b hm => keep b (by simp [hm])) (OwT.iff.2 ⟨A, c, rfl, hl, k1.frame fun b hm => far b (by have := k3 b hm; omega)⟩) (o2.frame fun b hm => keep b (by simp [hm]))
  · refine List.nodup_append.2 ⟨nd.1, List.nodup_append.2 ⟨k2, nd2.2.1, fun x hx y hy e => ?_⟩, fun x hx y hy e => ?_⟩
    · have := k3 x hx; have := lt0 y (by simp [hy]); omega
    · rcases List.mem_append.1 hy with hy | hy
      · have := k3 y hy; have := lt0 x (by simp [hx]); omega
      · exact nd.2.2 x hx y (List.mem_append.2 (.inr hy)) e
  · intro b hm
    rcases List.mem_append.1 hm with hm | hm
    · exact h5 b (by simp [hm])
    · rcases List.mem_append.1 hm with hm | hm
      · have := k3 b hm; omega
      · exact h5 b (by simp [hm])
theorem Tab.fresh (h : Tab w lo g G) {B : Nat} (hB : B ≤ g) : Fresh B w (some ⟨g, 0, none⟩) G := by
  obtain ⟨h0, cur, f, h1, h2, h3, h4, h5⟩ := h
  by_cases hts : G = []
  · subst hts; exact Fresh.nil
  · refine ⟨g :: f, .inr ⟨g, cur, _, f, hts, rfl, h1, rfl, by rw [List.take_of_length_le (by simp [h2])]; exact h3⟩, List.nodup_cons.2 ⟨fun hm => by have := h5 g hm; omega, h4⟩, fun b hb => ?_⟩
    rcases List.mem_cons.1 hb with rfl | hb
    · exact hB
    · have := h5 b hb; omega

abbrev St := List Tm × List Bool
def zeroT : Tm := .mk 0 0 []
def Tm.kids : Tm → List Tm | .mk _ _ ks => ks
mutual
/-- what matching answers, and the places behind it -/
def mt (m : Nat) (add : Int) : Int → Tm → Tm → St → Bool × St
  | d, .mk k n ks, u, st =>
    if k = 1 ∧ d ≤ n then
      (if n < d + m then
        (match shiftI (-d) 0 u with
          | none => (false, st)
          | some low => if st.2.getD (n - d).toNat false = true then (tmEq (st.1.getD (n - d).toNat zeroT) low, st) else (true, (st.1.set (n - d).toNat low, st.2.set (n - d).toNat true)))
      else (u.k == 1 && u.n == n - m + add, st))
    else if u.k = k ∧ u.n = n ∧ u.kids.length = ks.length then mtL m add k d 0 ks u.kids st else (false, st)
def mtL (m : Nat) (add : Int) : Int → Int → Nat → List Tm → List Tm → St → Bool × St
  | k, d, i, t :: ts, u :: us, st => if (mt m add (d + under k i) t u st).1 = true then mtL m add k d (i + 1) ts us (mt m add (d + under k i) t u st).2 else (false, (mt m add (d + under k i) t u st).2)
  | _, _, _, _, _, st => (true, st)
end
theorem mtL_append (m : Nat) (add k d : Int) : ∀ (ts us ts' us' : List Tm) (i : Nat) (st : St), ts.length = us.length → mtL m add k d i (ts ++ ts') (us ++ us') st = if (mtL m add k d i ts us st).1 = true then mtL m add k d (i + ts.length) ts' us' (mtL m add k d i ts us st).2 else (false, (mtL m add k d i ts us st).2)
  | [], [], ts', us', i, st, _ => by simp [mtL]
  | t :: ts, u :: us, ts', us', i, st, h => by
    rw [List.cons_append, List.cons_append, mtL, mtL]
    split
    · rw [mtL_append m add k d ts us ts' us' (i + 1) _ (by simpa using h), List.length_cons, show i + 1 + ts.length = i + (ts.length + 1) from by omega]
    · simp
  | [], _ :: _, _, _, _, _, h => by simp at h
  | _ :: _, [], _, _, _, _, h => by simp at h
theorem mtL_take (m : Nat) (add k d : Int) {ks us : List Tm} {j : Nat} (hj : j < ks.length) (hl : ks.length = us.length) {st st1 : St} (h : mtL m add k d 0 (ks.take j) (us.take j) st = (true, st1)) :
    mtL m add k d 0 (ks.take (j + 1)) (us.take (j + 1)) st = mt m add (d + under k j) ks[j] (us[j]'(by omega)) st1 := by
  rw [List.take_succ_eq_append_getElem hj, List.take_succ_eq_append_getElem (by omega : j < us.length), mtL_append m add k d _ _ _ _ _ _ (by simp; omega), h]
  simp only [if_true, List.length_take, Nat.min_eq_left (Nat.le_of_lt hj), Nat.zero_add]
  rw [mtL, show ∀ (i : Nat) (s : St), mtL m add k d i [] [] s = (true, s) from fun i s => by simp [mtL]]
  cases e : mt m add (d + under k j) ks[j] (us[j]'(by omega)) st1 with
  | mk b s => cases b <;> simp
theorem mtL_no (m : Nat) (add k d : Int) {ks us : List Tm} {j : Nat} (hj : j < ks.length) (hl : ks.length = us.length) {st st1 : St} (h : mtL m add k d 0 (ks.take (j + 1)) (us.take (j + 1)) st = (false, st1)) :
    mtL m add k d 0 ks us st = (false, st1) := by
  have h1 := List.take_append_drop (j + 1) ks
  have h2 := List.take_append_drop (j + 1) us
  rw [← h1, ← h2, mtL_append m add k d _ _ _ _ _ _ (by simp; omega), h]
  simp
theorem mt_length (m : Nat) (add : Int) (t : Tm) : ∀ (d : Int) (u : Tm) (st : St), (mt m add d t u st).2.1.length = st.1.length ∧ (mt m add d t u st).2.2.length = st.2.length := by
  refine Tm.rec (motive_1 := fun t => ∀ (d : Int) (u : Tm) (st : St), (mt m add d t u st).2.1.length = st.1.length ∧ (mt m add d t u st).2.2.length = st.2.length)
    (motive_2 := fun ts => ∀ (k d : Int) (i : Nat) (us : List Tm) (st : St), (mtL m add k d i ts us st).2.1.length = st.1.length ∧ (mtL m add k d i ts us st).2.2.length = st.2.length) ?_ ?_ ?_ t
  · intro k n ks ih d u st
    rw [mt]
    split
    · split
      · split
        · exact ⟨rfl, rfl⟩
        · split <;> simp
      · exact ⟨rfl, rfl⟩
    · split
      · exact ih k d 0 _ _
      · exact ⟨rfl, rfl⟩
  · intro k d i us st; simp [mtL]
  · intro t ts h1 h2 k d i us st
    cases us with
    | nil => simp [mtL]
    | cons u us =>
      rw [mtL]
      split
      · have := h2 k d (i + 1) us (mt m add (d + under k i) t u st).2
        have := h1 (d + under k i) u st
        omega
      · exact h1 _ _ _
theorem validT_kid {k n : Int} {ks : List Tm} (h : validT (.mk k n ks) = true) {t : Tm} (ht : t ∈ ks) : validT t = true := by
  simp only [validT, Bool.and_eq_true, decide_eq_true_eq] at h ⊢
  obtain ⟨q, hq, _, _, _, hk⟩ := shape_pos h.1
  refine ⟨shape_up (by omega) t (hk t ht), ?_⟩
  have := sizes_le ht
  rw [Tm.size] at h
  omega

/-- the cells of a row of truth values -/
def bools (S : List Bool) : Array Value := (S.map Value.bool).toArray
theorem bools_set (S : List Bool) (j : Nat) (b : Bool) : (bools S).setIfInBounds j (.bool b) = bools (S.set j b) := by simp [bools, List.map_set]
theorem bools_get {S : List Bool} {j : Nat} (h : j < S.length) : (bools S)[j]? = some (.bool (S.getD j false)) := by simp [bools, List.getElem?_eq_getElem h]
end Go.Proofs.YthgmofdfecioaaaGreatDoor

namespace Go.Proofs.YthgmofdfecioaaaGreatDoor
open Go.RowKit
set_option linter.unusedSimpArgs false
set_option linter.unusedVariables false

def MtPost (lo g sb : Nat) (w : World) (bs : Bool × St) (e : Ending) (w' : World) : Prop :=
  e = .returned (.bool bs.1) ∧ Tab w' lo g bs.2.1 ∧ Blk w' sb (bools bs.2.2) ∧ OnlyIn [g, sb] w w'
theorem OnlyIn.of_below {fp : List Nat} {w w' : World} (h : Below w.heap.size w w') : OnlyIn fp w w' := ⟨h.os, h.tape, h.output, h.size, fun b hb _ => h.block b hb⟩
theorem OnlyIn.al2 {fp : List Nat} {w w' : World} (h : OnlyIn fp w w') (o o' : Obj) : OnlyIn fp w ((w'.alloc o).alloc o') :=
  h.trans (.of_below (((Below.refl _ _).alloc (Nat.le_refl _) _).alloc (by simp) _))
theorem OnlyIn.al1 {fp : List Nat} {w w' : World} (h : OnlyIn fp w w') (o : Obj) : OnlyIn fp w (w'.alloc o) :=
  h.trans (.of_below ((Below.refl _ _).alloc (Nat.le_refl _) _))
theorem RdP.only {g sb : Nat} {w w' : World} {A : Option Addr} {i : Nat} {ks : List Tm} (hr : RdP (fun b => b ≠ g ∧ b ≠ sb) w A i ks) (ho : OnlyIn [g, sb] w w') : RdP (fun b => b ≠ g ∧ b ≠ sb) w' A i ks :=
  hr.blocks fun b hb hl => ho.block b hl (by simp [hb.1, hb.2])
theorem valid_var {n : Int} {ks : List Tm} (h : validT (.mk 1 n ks) = true) : ks = [] := by
  simp only [validT, Bool.and_eq_true] at h
  obtain ⟨q, _, ha, _⟩ := shape_pos h.1
  exact var_nil ha
theorem valid_n {k n : Int} {ks : List Tm} (h : validT (.mk k n ks) = true) : 0 ≤ n ∧ n ≤ 20 := by
  simp only [validT, Bool.and_eq_true] at h
  obtain ⟨q, _, ha, h0, h1, _⟩ := shape_pos h.1
  refine ⟨h0, ?_⟩
  unfold mostN at h1
  split at h1
  · exact h1
  · split at h1 <;> omega

end Go.Proofs.YthgmofdfecioaaaGreatDoor

namespace Go.Proofs.YthgmofdfecioaaaGreatDoor
open Go.RowKit
set_option linter.unusedSimpArgs false
set_option linter.unusedVariables false

/-- integers that can be read -/
def RdI (w : World) (A : Option Addr) (xs : List Int) : Prop := ∀ j (hj : j < xs.length), ∃ b off, A = some ⟨b, off, none⟩ ∧ w.cell? ⟨b, off + j, none⟩ = some (.int .i64 xs[j])
theorem RdI.keeps {w w' : World} {A : Option Addr} {xs : List Int} (h : RdI w A xs) (hk : Keeps w w') : RdI w' A xs := fun j hj => by
  obtain ⟨b, off, hA, hc⟩ := h j hj; exact ⟨b, off, hA, hk _ _ hc⟩
theorem RdI.below {w w' : World} {A : Option Addr} {xs : List Int} (h : RdI w A xs) (hb : Below w.heap.size w w') : RdI w' A xs := h.keeps (.of_below hb)
theorem RdI.alloc {w : World} {A : Option Addr} {xs : List Int} (h : RdI w A xs) (o : Obj) : RdI (w.alloc o) A xs := h.keeps (.alloc w o)

/-- the place in a term to which a path leads -/
def atT : Tm → List Int → Option Tm
  | t, [] => some t
  | t, i :: is => if 0 ≤ i ∧ i < t.kids.length then atT (t.kids.getD i.toNat default) is else none
theorem atT_append : ∀ (xs ys : List Int) (t : Tm), atT t (xs ++ ys) = (atT t xs).bind (atT · ys)
  | [], ys, t => rfl
  | i :: is, ys, t => by
    rw [List.cons_append, atT, atT]
    split
    · exact atT_append is ys _
    · rfl
theorem atT_take {t u : Tm} {xs : List Int} {j : Nat} (hj : j < xs.length) (h : atT t (xs.take j) = some u) : atT t (xs.take (j + 1)) = if 0 ≤ xs[j] ∧ xs[j] < u.kids.length then some (u.kids.getD xs[j].toNat default) else none := by
  rw [List.take_succ_eq_append_getElem hj, atT_append, h, Option.bind_some, atT]
  split <;> rfl
theorem atT_none {t : Tm} {xs : List Int} {j : Nat} (h : atT t (xs.take j) = none) : atT t xs = none := by
  rw [← List.take_append_drop j xs, atT_append, h]; rfl
theorem atT_valid {u : Tm} : ∀ {xs : List Int} {t : Tm}, atT t xs = some u → validT t = true → validT u = true
  | [], t, h, hv => by cases h; exact hv
  | i :: is, t, h, hv => by
    rw [atT] at h
    split at h
    · rename_i hh
      obtain ⟨k, n, ks⟩ := t
      refine atT_valid h ?_
      have hlt : i.toNat < ks.length := by have := hh.2; simp only [Tm.kids] at this; omega
      rw [show (Tm.mk k n ks).kids = ks from rfl, List.getD_eq_getElem?_getD, List.getElem?_eq_getElem hlt, Option.getD_some]
      exact validT_kid hv (List.getElem_mem _)
    · cases h

/-- a term somewhere, and whether there is one -/
def SeenO (w : World) (o : Option Tm) (e : Ending) (w' : World) : Prop :=
  Below w.heap.size w w' ∧ match o with
  | none => e = .returned (.tuple #[.agg #[.int .i64 0, .int .i64 0, .slice none 0 0], .bool false])
  | some (.mk k n ks) => ∃ A c, e = .returned (.tuple #[.agg #[.int .i64 k, .int .i64 n, .slice A ks.length c], .bool true]) ∧ ks.length ≤ 9223372036854775807 ∧ Rd w A 0 ks

end Go.Proofs.YthgmofdfecioaaaGreatDoor

namespace Go.Proofs.YthgmofdfecioaaaGreatDoor
open Go.RowKit
set_option linter.unusedSimpArgs false
set_option linter.unusedVariables false

mutual
/-- the way to the first redex from outside -/
def outP : Tm → Option (List Int)
  | .mk k n ks => if rdx k ks = 0 then outPs 0 ks else some []
def outPs : Int → List Tm → Option (List Int)
  | _, [] => none
  | i, t :: ts => match outP t with | some p => some (i :: p) | none => outPs (i + 1) ts
end
/-- the operand that the root needs -/
def mainO (k : Int) : Int := if k = 5 ∨ k = 15 ∨ k = 16 then 0 else if k = 9 then 3 else if k = 12 then 1 else -1
mutual
/-- the way to the redex that the root needs -/
def headP : Tm → Option (List Int)
  | .mk k n ks => if rdx k ks = 0 then (if mainO k < 0 then none else (headN (mainO k).toNat ks).map (mainO k :: ·)) else some []
def headN : Nat → List Tm → Option (List Int)
  | _, [] => none
  | 0, t :: _ => headP t
  | i + 1, _ :: ts => headN i ts
end
/-- a term with another part at the end of a way -/
def putN : Tm → List Int → Tm → Tm
  | _, [], u => u
  | .mk k n ks, i :: is, u => .mk k n (ks.set i.toNat (putN (ks.getD i.toNat default) is u))
def vO (t : Tm) : Option Tm := if validT t = true then some t else none
def kidT (ks : List Tm) (i : Nat) : Tm := ks.getD i default
/-- the contractum, if it is valid -/
def ctrI : Tm → Option Tm
  | .mk k n ks =>
    if rdx k ks = 1 then substI 0 (kidT ks 1) (kidT (kidT ks 0).ks 1)
    else if rdx k ks = 2 then vO (kidT ks 1)
    else if rdx k ks = 3 then vO (.mk 5 0 [.mk 5 0 [kidT ks 2, kidT (kidT ks 3).ks 0], .mk 9 0 [kidT ks 0, kidT ks 1, kidT ks 2, kidT (kidT ks 3).ks 0]])
    else if rdx k ks = 4 then vO (kidT ks 2)
    else if rdx k ks = 5 then vO (kidT (kidT ks 0).ks 1)
    else if rdx k ks = 6 then vO (kidT (kidT ks 0).ks 2)
    else none
/-- a term whose part at a way is contracted, if it is valid -/
def ctdI (t : Tm) (p : List Int) : Option Tm :=
  match atT t p with
  | none => none
  | some u => match ctrI u with | none => none | some v => vO (putN t p v)
/-- steps at the places that are found, and the code -/
def redI (find : Tm → Option (List Int)) : Nat → Tm → Option Tm × Int
  | fuel, t => match find t with
    | none => (some t, 0)
    | some p => match fuel with
      | 0 => (none, 1)
      | fuel + 1 => match ctdI t p with
        | none => (none, 2)
        | some t' => redI find fuel t'
def convI (fuel : Nat) (a b : Tm) : Int :=
  if tmEq a b = true then 1 else
    if (redI outP fuel a).2 ≠ 0 ∨ (redI outP fuel b).2 ≠ 0 then 3 else
      if tmEq ((redI outP fuel a).1.getD (.mk 0 0 [])) ((redI outP fuel b).1.getD (.mk 0 0 [])) = true then 1 else 2

/-- a way to a redex -/
def Way (find : Tm → Option (List Int)) : Prop := ∀ t p, find t = some p → ∃ k n ks, atT t p = some (.mk k n ks) ∧ rdx k ks ≠ 0
theorem atT_cons {k n : Int} {ks : List Tm} {j : Nat} {p : List Int} (hj : j < ks.length) : atT (.mk k n ks) ((j : Int) :: p) = atT ks[j] p := by
  rw [atT, if_pos ⟨by omega, by simpa [Tm.kids] using hj⟩]
  simp [Tm.kids, List.getD, List.getElem?_eq_getElem hj]
theorem outP_way : Way outP := by
  have h : (∀ t p, outP t = some p → ∃ k n ks, atT t p = some (.mk k n ks) ∧ rdx k ks ≠ 0) ∧
      (∀ (ts : List Tm) (i : Nat) p, outPs i ts = some p → ∃ (j : Nat) (q : List Int) (h : j < ts.length), p = ((i + j : Nat) : Int) :: q ∧ ∃ k n ks, atT ts[j] q = some (.mk k n ks) ∧ rdx k ks ≠ 0) := by
    refine Tm.ind2 (fun k n ks ih p hp => ?_) (fun i p hp => ?_) (fun t ts h1 h2 i p hp => ?_)
    · rw [outP] at hp
      split at hp
      · obtain ⟨j, q, hj, rfl, h⟩ := ih 0 p hp
        rw [Nat.zero_add, atT_cons hj]
        exact h
      · rename_i hr
        injection hp with hp
        subst hp
        exact ⟨k, n, ks, rfl, hr⟩
    · rw [outPs] at hp; cases hp
    · rw [outPs] at hp
      cases h : outP t with
      | some q =>
        rw [h] at hp
        injection hp with hp
        subst hp
        exact ⟨0, q, by simp, by simp, h1 q h⟩
      | none =>
        rw [h] at hp
        obtain ⟨j, q, hj, rfl, h3⟩ := h2 (i + 1) p (by simpa using hp)
        refine ⟨j + 1, q, by simp; omega, by congr 1; omega, ?_⟩
        simpa using h3
  exact h.1
theorem headP_way : Way headP := by
  have h : (∀ t p, headP t = some p → ∃ k n ks, atT t p = some (.mk k n ks) ∧ rdx k ks ≠ 0) ∧
      (∀ (ts : List Tm) (i : Nat) p, headN i ts = some p → ∃ h : i < ts.length, ∃ k n ks, atT ts[i] p = some (.mk k n ks) ∧ rdx k ks ≠ 0) := by
    refine Tm.ind2 (fun k n ks ih p hp => ?_) (fun i p hp => ?_) (fun t ts h1 h2 i p hp => ?_)
    · rw [headP] at hp
      split at hp
      · split at hp
        · cases hp
        · rename_i hm
          cases h : headN (mainO k).toNat ks with
          | none => rw [h] at hp; cases hp
          | some q =>
            rw [h] at hp
            injection hp with hp
            subst hp
            obtain ⟨hj, h3⟩ := ih _ _ h
            rw [show mainO k = ((mainO k).toNat : Int) from by omega, atT_cons (by simpa using hj)]
            simpa using h3
      · rename_i hr
        injection hp with hp
        subst hp
        exact ⟨k, n, ks, rfl, hr⟩
    · rw [headN] at hp; cases hp
    · cases i with
      | zero => rw [headN] at hp; exact ⟨by simp, by simpa using h1 p hp⟩
      | succ i =>
        rw [headN] at hp
        obtain ⟨hj, h3⟩ := h2 i p hp
        exact ⟨by simp; omega, by simpa using h3⟩
  exact h.1
theorem vO_valid {t u : Tm} (h : vO t = some u) : validT u = true := by
  unfold vO at h
  split at h
  · injection h with h; subst h; assumption
  · cases h
theorem substI_valid {x : Int} {u t v : Tm} (h : substI x u t = some v) : validT v = true := by
  unfold substI at h
  split at h
  · split at h
    · injection h with h; subst h; assumption
    · cases h
  · cases h
theorem ctrI_valid {t u : Tm} (h : ctrI t = some u) : validT u = true := by
  obtain ⟨k, n, ks⟩ := t
  rw [ctrI] at h
  split at h
  · exact substI_valid h
  repeat (split at h; · exact vO_valid h)
  cases h
theorem ctdI_valid {t u : Tm} {p : List Int} (h : ctdI t p = some u) : validT u = true := by
  unfold ctdI at h
  split at h
  · cases h
  · split at h
    · cases h
    · exact vO_valid h
theorem redI_valid {find : Tm → Option (List Int)} : ∀ (fuel : Nat) (t u : Tm) (c : Int), validT t = true → redI find fuel t = (some u, c) → validT u = true
  | fuel, t, u, c, hv, h => by
    rw [redI] at h
    split at h
    · injection h with h1 h2; injection h1 with h1; subst h1; exact hv
    · split at h
      · cases h
      · split at h
        · cases h
        · exact redI_valid _ _ _ _ (ctdI_valid (by assumption)) h
end Go.Proofs.YthgmofdfecioaaaGreatDoor
