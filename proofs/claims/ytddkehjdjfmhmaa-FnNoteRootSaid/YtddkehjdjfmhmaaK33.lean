/-
 Contracts of the functions that the law reaches, and plain lemmas. No condition.
-/
import Derived.Test.YtddkehjdjfmhmaaK9
import Derived.Test.YtddkehjdjfmhmaaK32
namespace Go.Proofs.Ytddkehjdjfmhmaa
set_option linter.unusedSimpArgs false
set_option linter.unusedVariables false
open Go.RowKit
mutual
def noteR (N : Nat) : List Tm → Tm → Option (Rs (List Tm))
 | ctx, .mk k n ks => bd (infR N ctx (.mk k n ks)) fun s => bd (noteL N ctx k (kidT ks 0) 0 ks) fun r => some (.ok (s :: r))
def noteL (N : Nat) : List Tm → Int → Tm → Nat → List Tm → Option (Rs (List Tm))
 | _, _, _, _, [] => some (.ok [])
 | ctx, k, t0, i, t :: ts => bd (noteR N (if ((i : Int) == 1 && binds k) = true then ctx ++ [t0] else ctx) t) fun a => bd (noteL N ctx k t0 (i + 1) ts) fun b => some (.ok (a ++ b))
end
theorem note_valid (N : Nat) : (∀ (t : Tm) (ctx ns : List Tm), noteR N ctx t = some (.ok ns) → ns.length = t.size ∧ ∀ u, u ∈ ns → validT u = true) ∧
  (∀ (ts : List Tm) (ctx : List Tm) (k : Int) (t0 : Tm) (i : Nat) (ns : List Tm), noteL N ctx k t0 i ts = some (.ok ns) → ns.length = sizes ts ∧ ∀ u, u ∈ ns → validT u = true) := by
 refine Tm.ind2 (fun k n ks ih ctx ns h => ?_) (fun ctx k t0 i ns h => ?_) (fun t ts h1 h2 ctx k t0 i ns h => ?_)
 ·rw [noteR] at h
  rcases bd_inv h with ⟨b, _, hb⟩ | ⟨s, hs, h⟩
  ·cases hb
  rcases bd_inv h with ⟨b, _, hb⟩ | ⟨r, hr, h⟩
  ·cases hb
  injection h with h
  injection h with h
  subst h
  obtain ⟨e1, e2⟩ := ih _ _ _ _ _ hr
  refine ⟨by simp only [List.length_cons, Tm.size, e1], fun u hu => ?_⟩
  rcases List.mem_cons.1 hu with rfl | hu
  ·exact infR_valid hs
  ·exact e2 u hu
 ·rw [noteL] at h
  injection h with h
  injection h with h
  subst h
  exact ⟨rfl, fun u hu => by cases hu⟩
 ·rw [noteL] at h
  rcases bd_inv h with ⟨b, _, hb⟩ | ⟨a, ha, h⟩
  ·cases hb
  rcases bd_inv h with ⟨b, _, hb⟩ | ⟨r, hr, h⟩
  ·cases hb
  injection h with h
  injection h with h
  subst h
  obtain ⟨e1, e2⟩ := h1 _ _ ha
  obtain ⟨e3, e4⟩ := h2 _ _ _ _ _ hr
  refine ⟨by simp [sizes, e1, e3], fun u hu => ?_⟩
  rcases List.mem_append.1 hu with hu | hu
  ·exact e2 u hu
  ·exact e4 u hu
theorem bd_id (x : Option (Rs (List Tm))) : bd x (fun b => some (.ok ([] ++ b))) = x := by
 cases x with
 | none => rfl
 | some r => cases r <;> rfl
theorem bd_bd {α β γ : Type} (x : Option (Rs α)) (f : α → Option (Rs β)) (g : β → Option (Rs γ)) : bd (bd x f) g = bd x (fun a => bd (f a) g) := by
 cases x with
 | none => rfl
 | some r => cases r <;> rfl
def GotP5 (p : Nat → Prop) (w : World) (ts : List Tm) (e : Ending) (w' : World) : Prop := ∃ D d, e = .returned (.slice D ts.length d) ∧ RdP (fun b => p b ∨ w.heap.size ≤ b) w' D 0 ts ∧ Below w.heap.size w w'
set_option maxRecDepth 100000 in
set_option maxHeartbeats 8000000 in
theorem sPushP_any (ctx : List Tm) (C : Option Addr) (cc : Nat) (k n : Int) (ks : List Tm) (A : Option Addr) (c : Nat) (w : World) (hm : ctx.length ≤ 1000) (hl : ks.length ≤ 9223372036854775807) (p : Nat → Prop) (hpw : ∀ b, p b → b < w.heap.size) (hrc : RdP p w C 0 ctx) (hra : RdP p w A 0 ks) :
  Calls Try.prog 54 #[.slice C ctx.length cc, .agg #[.int .i64 k, .int .i64 n, .slice A ks.length c]] w (GotP5 p w (ctx ++ [.mk k n ks])) := by
 go_enter Try.func54, Try.ntmps54
 go_upto_region 1 with fail
 refine name_world ?_
 intro wx hwx
 have hT : Blk wx w.heap.size #[.int .i64 k, .int .i64 n, .slice A ks.length c] := by rw [hwx]; exact Blk.new_ _ 25 _ rfl
 have gx : Below w.heap.size w wx := by rw [hwx]; exact (Below.refl _ _).alloc (Nat.le_refl _) _
 clear hwx
 have rcx := hrc.below gx
 have hpx : ∀ b, p b → b < wx.heap.size := fun b hb => Nat.lt_of_lt_of_le (hpw b hb) gx.size
 have rax := hra.below gx
 have v0 := rule_of hT.three.1
 have v1 := rule_of hT.three.2.1
 have v2 := rule_of hT.three.2.2
 obtain ⟨q0, hq0⟩ : ∃ q0, q0 = wx.drew := ⟨_, rfl⟩
 have bq0 : Below wx.heap.size wx q0 := by rw [hq0]; exact (Below.refl _ _).drew
 refine gC_start (fun w' => Below wx.heap.size wx w') [5, 6] 7 (by kernel_rfl) rfl ?_
 refine gC_take [1, 3] (f := 5) (l' := #[false, true, false, true, false, false, false]) (lT := [_, _]) (by rw [← hq0]; exact bq0) rfl (by kernel_rfl) (by kernel_rfl) (by kernel_rfl) rfl (fun _ _ d _ _ h => by cases d <;> exact h) ?_
 repeat ((first | ((refine takeY_skip (a' := ?_) ?_ ?_ ?_); (rotate_left); (· (simp [Region.wanted, yielded, Go.undef]; done))) | ((refine takeY_step (v := ?_) (a' := ?_) ?_ ?_ ?_ ?_); (rotate_left 2); (· (simp [Region.wanted, yielded, Go.undef]; done)); (· (intro w' hS'; go_simp; try (with_reducible rfl))))); (· (simp only [List.getElem_toArray, List.getElem_cons_zero, List.getElem_cons_succ, Act.put, List.setIfInBounds_toArray, List.set_cons_zero, List.set_cons_succ]; exact rfl)))
 refine takeY_nil ?_
 rw [← hq0]
 clear hq0
 refine gC_two (i := 0) (j := 4) (by kernel_rfl) rfl rfl ?_ ?_
 ·go_wp2_with fail
  refine name_midw ?_
  intro q1 hn
  have hbq1 : Below q0.heap.size q0 q1 := by rw [hn]; exact (Below.refl _ _).alloc (Nat.le_refl _) _
  have Eq1 : Emp q1 q0.heap.size := by rw [hn]; exact ⟨heap_alloc_new _ _, by simp⟩
  have seq1 : q0.heap.size < q1.heap.size := by rw [hn]; simp
  clear hn
  have bq1 : Below wx.heap.size wx q1 := bq0.trans (hbq1.mono bq0.size)
  have lq1 := hbq1.size
  refine mid_intro bq1 ?_
  refine gC_two (i := 2) (j := 4) (by kernel_rfl) rfl rfl ?_ ?_
  ·have lgq2 : q0.heap.size < q1.heap.size := Eq1.2
   refine wpList_append_listR (p := p) (g := q0.heap.size) (cl := cc) Eq1.1 (rcx.below bq1) (fun b hb => ⟨Nat.lt_of_lt_of_le (hpx b hb) bq1.size, by have := bq0.size; have := hpx b hb; omega⟩) rfl (by omega) rfl _ _ rfl rfl rfl ?_
   intro C2 c2 q2 hPq2 hgq2
   have hbq2 : Below q0.heap.size q1 q2 := ⟨hgq2.os, hgq2.tape, hgq2.output, hgq2.size, fun k hk => hgq2.block k (by omega) (fun e => by injection e; omega)⟩
   have bq2 : Below wx.heap.size wx q2 := bq1.trans (hbq2.mono bq0.size)
   have lq2 := hbq2.size
   refine mid_intro bq2 ?_
   refine gC_one (i := 4) (by kernel_rfl) rfl ?_
   ·go_wp2_with fail
    refine name_midw ?_
    intro q3 hn
    have hbq3 : Below q2.heap.size q2 q3 := by rw [hn]; exact (Below.refl _ _).alloc (Nat.le_refl _) _
    have zq3 : Blk q3 q2.heap.size #[.int .i64 k, .int .i64 n, .slice A ks.length c] := by rw [hn]; exact Blk.new_ _ 25 _ rfl
    have seq3 : q2.heap.size < q3.heap.size := by rw [hn]; simp
    clear hn
    have Pq3 := hPq2.below hbq3
    have bq3 : Below wx.heap.size wx q3 := bq2.trans (hbq3.mono bq2.size)
    have lq3 := hbq3.size
    refine mid_intro bq3 ?_
    refine gC_end [5, 6] (lB := [_, _]) (by simp) (by kernel_rfl) (by kernel_rfl) rfl ?_
    have lB : q0.heap.size ≤ q3.heap.size := by have := lq3; omega
    have lA : wx.heap.size ≤ q0.heap.size := bq0.size
    refine wpList_append_rdW (lo := p) (B := q0.heap.size) (q := p) Pq3 lB (rax.below bq3) (fun b hb => ⟨.inl hb, Nat.lt_of_lt_of_le (hpx b hb) bq3.size, fun e => by have := Pq3.ownB b e; have := hpx b hb; omega⟩) hl rfl (by omega) q2.heap.size 1 zq3 rfl _ _ rfl rfl rfl ?_
    intro A9 c9 w9 hp9 hb9 hg9 hn9
    obtain ⟨A8, c8, e8, r8⟩ := hp9.rd
    injection e8 with e81 e82 e83
    subst e81 e83
    have hlen9 : (ctx ++ [Tm.mk k n ks]).length = ctx.length + 1 := by simp
    simp only [List.getElem_toArray, List.getElem_cons_zero, List.getElem_cons_succ, Act.put, List.setIfInBounds_toArray, List.set_cons_zero, List.set_cons_succ]
    go_wp2_with fail
    go_ret
    exact ⟨A9, c9, by rw [hlen9]; rfl, r8.mono (fun b hb => hb.imp id (fun h => by have := gx.size; omega)), (gx.trans (bq3.mono gx.size)).trans (hb9.mono (by have := gx.size; omega))⟩
  ·go_wp2_with fail
   refine name_midw ?_
   intro q4 hn
   have hbq4 : Below q1.heap.size q1 q4 := by rw [hn]; exact (Below.refl _ _).alloc (Nat.le_refl _) _
   have zq4 : Blk q4 q1.heap.size #[.int .i64 k, .int .i64 n, .slice A ks.length c] := by rw [hn]; exact Blk.new_ _ 25 _ rfl
   have seq4 : q1.heap.size < q4.heap.size := by rw [hn]; simp
   clear hn
   have Eq4 := Eq1.below hbq4
   have bq4 : Below wx.heap.size wx q4 := bq1.trans (hbq4.mono bq1.size)
   have lq4 := hbq4.size
   refine mid_intro bq4 ?_
   refine gC_one (i := 2) (by kernel_rfl) rfl ?_
   ·have lgq5 : q0.heap.size < q4.heap.size := Eq4.2
    refine wpList_append_listR (p := p) (g := q0.heap.size) (cl := cc) Eq4.1 (rcx.below bq4) (fun b hb => ⟨Nat.lt_of_lt_of_le (hpx b hb) bq4.size, by have := bq0.size; have := hpx b hb; omega⟩) rfl (by omega) rfl _ _ rfl rfl rfl ?_
    intro C2 c2 q5 hPq5 hgq5
    have hbq5 : Below q0.heap.size q4 q5 := ⟨hgq5.os, hgq5.tape, hgq5.output, hgq5.size, fun k hk => hgq5.block k (by omega) (fun e => by injection e; omega)⟩
    have Kq5 := zq4.grown hgq5 (by simp; omega)
    have bq5 : Below wx.heap.size wx q5 := bq4.trans (hbq5.mono bq0.size)
    have lq5 := hbq5.size
    refine mid_intro bq5 ?_
    refine gC_end [5, 6] (lB := [_, _]) (by simp) (by kernel_rfl) (by kernel_rfl) rfl ?_
    have lB : q0.heap.size ≤ q5.heap.size := by have := lq5; omega
    have lA : wx.heap.size ≤ q0.heap.size := bq0.size
    refine wpList_append_rdW (lo := p) (B := q0.heap.size) (q := p) hPq5 lB (rax.below bq5) (fun b hb => ⟨.inl hb, Nat.lt_of_lt_of_le (hpx b hb) bq5.size, fun e => by have := hPq5.ownB b e; have := hpx b hb; omega⟩) hl rfl (by omega) q1.heap.size 1 Kq5 rfl _ _ rfl rfl rfl ?_
    intro A9 c9 w9 hp9 hb9 hg9 hn9
    obtain ⟨A8, c8, e8, r8⟩ := hp9.rd
    injection e8 with e81 e82 e83
    subst e81 e83
    have hlen9 : (ctx ++ [Tm.mk k n ks]).length = ctx.length + 1 := by simp
    simp only [List.getElem_toArray, List.getElem_cons_zero, List.getElem_cons_succ, Act.put, List.setIfInBounds_toArray, List.set_cons_zero, List.set_cons_succ]
    go_wp2_with fail
    go_ret
    exact ⟨A9, c9, by rw [hlen9]; rfl, r8.mono (fun b hb => hb.imp id (fun h => by have := gx.size; omega)), (gx.trans (bq5.mono gx.size)).trans (hb9.mono (by have := gx.size; omega))⟩
 ·go_wp2_with fail
  refine name_midw ?_
  intro q6 hn
  have hbq6 : Below q0.heap.size q0 q6 := by rw [hn]; exact (Below.refl _ _).alloc (Nat.le_refl _) _
  have zq6 : Blk q6 q0.heap.size #[.int .i64 k, .int .i64 n, .slice A ks.length c] := by rw [hn]; exact Blk.new_ _ 25 _ rfl
  have seq6 : q0.heap.size < q6.heap.size := by rw [hn]; simp
  clear hn
  have bq6 : Below wx.heap.size wx q6 := bq0.trans (hbq6.mono bq0.size)
  have lq6 := hbq6.size
  refine mid_intro bq6 ?_
  refine gC_one (i := 0) (by kernel_rfl) rfl ?_
  ·go_wp2_with fail
   refine name_midw ?_
   intro q7 hn
   have hbq7 : Below q6.heap.size q6 q7 := by rw [hn]; exact (Below.refl _ _).alloc (Nat.le_refl _) _
   have Eq7 : Emp q7 q6.heap.size := by rw [hn]; exact ⟨heap_alloc_new _ _, by simp⟩
   have seq7 : q6.heap.size < q7.heap.size := by rw [hn]; simp
   clear hn
   have Kq7 := zq6.keep hbq7
   have bq7 : Below wx.heap.size wx q7 := bq6.trans (hbq7.mono bq6.size)
   have lq7 := hbq7.size
   refine mid_intro bq7 ?_
   refine gC_one (i := 2) (by kernel_rfl) rfl ?_
   ·have lgq8 : q6.heap.size < q7.heap.size := Eq7.2
    refine wpList_append_listR (p := p) (g := q6.heap.size) (cl := cc) Eq7.1 (rcx.below bq7) (fun b hb => ⟨Nat.lt_of_lt_of_le (hpx b hb) bq7.size, by have := bq6.size; have := hpx b hb; omega⟩) rfl (by omega) rfl _ _ rfl rfl rfl ?_
    intro C2 c2 q8 hPq8 hgq8
    have hbq8 : Below q6.heap.size q7 q8 := ⟨hgq8.os, hgq8.tape, hgq8.output, hgq8.size, fun k hk => hgq8.block k (by omega) (fun e => by injection e; omega)⟩
    have Kq8 := Kq7.grown hgq8 (by simp; omega)
    have bq8 : Below wx.heap.size wx q8 := bq7.trans (hbq8.mono bq6.size)
    have lq8 := hbq8.size
    refine mid_intro bq8 ?_
    refine gC_end [5, 6] (lB := [_, _]) (by simp) (by kernel_rfl) (by kernel_rfl) rfl ?_
    have lB : q6.heap.size ≤ q8.heap.size := by have := lq8; omega
    have lA : wx.heap.size ≤ q6.heap.size := bq6.size
    refine wpList_append_rdW (lo := p) (B := q6.heap.size) (q := p) hPq8 lB (rax.below bq8) (fun b hb => ⟨.inl hb, Nat.lt_of_lt_of_le (hpx b hb) bq8.size, fun e => by have := hPq8.ownB b e; have := hpx b hb; omega⟩) hl rfl (by omega) q0.heap.size 1 Kq8 rfl _ _ rfl rfl rfl ?_
    intro A9 c9 w9 hp9 hb9 hg9 hn9
    obtain ⟨A8, c8, e8, r8⟩ := hp9.rd
    injection e8 with e81 e82 e83
    subst e81 e83
    have hlen9 : (ctx ++ [Tm.mk k n ks]).length = ctx.length + 1 := by simp
    simp only [List.getElem_toArray, List.getElem_cons_zero, List.getElem_cons_succ, Act.put, List.setIfInBounds_toArray, List.set_cons_zero, List.set_cons_succ]
    go_wp2_with fail
    go_ret
    exact ⟨A9, c9, by rw [hlen9]; rfl, r8.mono (fun b hb => hb.imp id (fun h => by have := gx.size; omega)), (gx.trans (bq8.mono gx.size)).trans (hb9.mono (by have := gx.size; omega))⟩
def Own2 (w : World) (v v' : Value) : Prop := ∀ b, b < w.heap.size → v.ownBlock ≠ some b → v'.ownBlock ≠ some b
theorem Own2.refl (w : World) (v : Value) : Own2 w v v := fun _ _ h => h
theorem Own2.trans {w w1 : World} {v v1 v2 : Value} (h : Own2 w v v1) (hs : w.heap.size ≤ w1.heap.size) (k : Own2 w1 v1 v2) : Own2 w v v2 := fun b hb hv => k b (by omega) (h b hb hv)
theorem grown_own2 {v vv : Value} {w w1 w2 : World} (h : w.grownBy w1 v.ownBlock) (o : Own2 w v vv) (k : w1.grownBy w2 vv.ownBlock) : w.grownBy w2 v.ownBlock :=
 ⟨k.os.trans h.os, k.tape.trans h.tape, k.output.trans h.output, Nat.le_trans h.size k.size, fun i hi hne => (k.block i (Nat.lt_of_lt_of_le hi h.size) (fun e => (o i hi (fun e2 => hne e2.symm)) e.symm)).trans (h.block i hi hne)⟩
def Oth (w : World) (v : Value) (b : Nat) : Prop := b < w.heap.size ∧ v.ownBlock ≠ some b
theorem RdP.oth {w w1 : World} {v v1 : Value} {A : Option Addr} {ks : List Tm} (h : RdP (Oth w v) w A 0 ks) (hg : w.grownBy w1 v.ownBlock) (ho : Own2 w v v1) : RdP (Oth w1 v1) w1 A 0 ks :=
 (h.grown hg (fun b hb e => hb.2 e.symm)).mono (fun b hb => ⟨Nat.lt_of_lt_of_le hb.1 hg.size, ho b hb.1 hb.2⟩)
theorem grown_belowN {w w1 : World} {v : Value} (h : Below w.heap.size w w1) : w.grownBy w1 v.ownBlock := only_below (World.grownBy.refl _ _) h
def GtNt (v : Value) (B : Nat) (w : World) (ts : List Tm) : Rs (List Tm) → Ending → World → Prop
 | .ok ns => fun e w' => ∃ A c, e = .returned (.tuple #[.slice A (ts ++ ns).length c, .int .i64 0]) ∧ PartR (fun _ => False) B w' (.slice A (ts ++ ns).length c) (ts ++ ns) ∧ w.grownBy w' v.ownBlock ∧ Own2 w v (.slice A (ts ++ ns).length c)
 | .no b => fun e w' => ∃ A l c, e = .returned (.tuple #[.slice A l c, .int .i64 (cdB b)]) ∧ w.grownBy w' v.ownBlock
theorem infR_len {N : Nat} {ctx : List Tm} {t s : Tm} (h : infR N ctx t = some (.ok s)) : ctx.length ≤ 20 := by
 cases N with
 | zero => cases h
 | succ N =>
  rw [infR] at h
  split at h
  ·rename_i h'; exact h'.2
  ·injection h with h; cases h
theorem PartR.oth {B : Nat} {w : World} {v : Value} {ts : List Tm} (h : PartR (fun _ => False) B w v ts) : ∀ g, v.ownBlock = some g → B ≤ g ∧ g < w.heap.size := fun g hg => by
 obtain ⟨xs, h1, _⟩ := h
 exact h1.lt g hg
set_option maxRecDepth 100000 in
set_option maxHeartbeats 16000000 in
theorem sNote_any (N B M : Nat) : ∀ (ctx : List Tm) (k n : Int) (ks : List Tm) (r : Rs (List Tm)) (C : Option Addr) (cc : Nat) (A : Option Addr) (c : Nat) (ts : List Tm) (V : Option Addr) (cv : Nat) (w : World), sizes ks < M → noteR N ctx (.mk k n ks) = some r → validT (.mk k n ks) = true → (∀ u, u ∈ ctx → validT u = true) → ctx.length ≤ 21 → ts.length + sizes ks + 1 ≤ 100000 → B ≤ w.heap.size → RdP (Oth w (.slice V ts.length cv)) w C 0 ctx → RdP (Oth w (.slice V ts.length cv)) w A 0 ks → PartR (fun _ => False) B w (.slice V ts.length cv) ts →
  Calls Try.prog 34 #[.slice V ts.length cv, .slice C ctx.length cc, .agg #[.int .i64 k, .int .i64 n, .slice A ks.length c]] w (GtNt (.slice V ts.length cv) B w ts r) := by
 induction M with
 | zero => intro ctx k n ks r C cc A c ts V cv w hN; exact absurd hN (Nat.not_lt_zero _)
 | succ M ih =>
 intro ctx k n ks r C cc A c ts V cv w hM hs hv hvc hcl hsz hB hrc hr hP
 have hszk := validT_size' hv
 have hlen := length_le_sizes ks
 rw [noteR] at hs
 rcases bd_inv hs with ⟨b, h1, rfl⟩ | ⟨⟨k1, n1, s1⟩, h1, hs⟩
 ·have hI := hide (fun (w : World) (hrc : Rd w C 0 ctx) (hr : Rd w A 0 ks) => gtz (infC_any N ctx k n ks _ h1 hv hvc hcl C cc A c w hrc hr))
  have qb := cdB_q b
  clear hs h1 hv hvc ih
  go_enter Try.func34, Try.ntmps34
  go_wp2_with (go_at_call 51; refine (hI.out _ (hrc.rd.alloc _) (hr.rd.alloc _)).mono ?_; rintro e w1 ⟨k1, n1, A1, l1, c1, rfl, hb1⟩; have g1 : Below w.heap.size w w1 := ((Below.refl _ _).alloc (Nat.le_refl _) _).trans (hb1.mono (by simp)))
  go_ret2
  exact ⟨V, ts.length, cv, rfl, grown_belowN (g1.alloc g1.size _)⟩
 ·have hI := hide (fun (w : World) (hrc : Rd w C 0 ctx) (hr : Rd w A 0 ks) => (infC_any N ctx k n ks _ h1 hv hvc hcl C cc A c w hrc hr : Calls _ _ _ _ (GtZ w (.ok (.mk k1 n1 s1)))))
  have hcl20 := infR_len h1
  have hs1z := validT_size' (infR_valid h1)
  have hv' := hide hv
  have hvc' := hide hvc
  replace hs := hide hs
  replace ih := hide ih
  clear h1 hv hvc
  go_enter Try.func34, Try.ntmps34
  go_wp2_with (first
   | (at_builtin; have _t := tok2; refine name_list ?_; intro wx hwx; have hKx : Blk wx w2.heap.size #[.int .i64 k1, .int .i64 n1, .slice A2 s1.length c2] := (by rw [hwx]; exact Blk.new_ _ 25 _ rfl); have hTx : Blk wx w.heap.size #[.int .i64 k, .int .i64 n, .slice A ks.length c] := (by rw [hwx]; exact hT2.alloc _); have gx : Below w.heap.size w wx := (by rw [hwx]; exact g2.alloc g2.size _); have rfx : RdP (fun b => (w1.alloc (.cells #[.int .i64 k1, .int .i64 n1, .slice A1 s1.length c1] 25)).heap.size ≤ b ∧ b < w2.heap.size) wx A2 0 s1 := (by rw [hwx]; exact hf2.rdp.alloc _); have sx : w2.heap.size < wx.heap.size := (by rw [hwx]; simp); clear hwx; have hPx := hP.below gx; have s1a : w.heap.size < (w1.alloc (.cells #[.int .i64 k1, .int .i64 n1, .slice A1 s1.length c1] 25)).heap.size := (by have := hb1.size; simp at this ⊢; omega); refine wpList_append_rdW (lo := fun _ => False) (B := B) (q := fun b => (w1.alloc (.cells #[.int .i64 k1, .int .i64 n1, .slice A1 s1.length c1] 25)).heap.size ≤ b ∧ b < w2.heap.size) hPx (by omega) rfx (fun b hb => ⟨.inr (by have := hb.1; omega), by have := hb.2; omega, fun e => by have := (hP.oth b e).2; have := hb.1; omega⟩) hl2 rfl (by omega) w2.heap.size 1 hKx rfl _ _ rfl rfl rfl ?_; intro A3 c3 w3 hP3 hB3 hg3 hn3; have gr3 : w.grownBy w3 (Value.slice V ts.length cv).ownBlock := grown_own2 (grown_belowN gx) (Own2.refl _ _) hg3; have on3 : Own2 w (.slice V ts.length cv) (.slice A3 (ts.length + 1) c3) := (fun b hb hv => hn3 b (by have := gx.size; omega) hv); have hT3 : Blk w3 w.heap.size #[.int .i64 k, .int .i64 n, .slice A ks.length c] := hTx.grown hg3 (fun e => by have := (hP.oth _ e.symm).2; omega))
   | (go_at_call 42; have _t := tok; refine (sCopy_any _ k1 n1 s1 A1 c1 _ (Nat.lt_succ_self _) (by omega) r1a).mono ?_; rintro e w2 ⟨A2, c2, rfl, hl2, hf2, hb2⟩; have hT2 := hT1.keep hb2; have g2 := g1.trans (hb2.mono g1.size); have s2 := hb2.size; clear tok; have tok2 := trivial)
   | (go_at_call 51; refine (hI.out _ (hrc.rd.alloc _) (hr.rd.alloc _)).mono ?_; rintro e w1 ⟨A1, c1, rfl, hl1, r1, hb1⟩; have hT1 := ((Blk.new_ w 25 #[.int .i64 k, .int .i64 n, .slice A ks.length c] rfl).keep hb1).alloc (.cells #[.int .i64 k1, .int .i64 n1, .slice A1 s1.length c1] 25); have g1 : Below w.heap.size w (w1.alloc (.cells #[.int .i64 k1, .int .i64 n1, .slice A1 s1.length c1] 25)) := (((Below.refl _ _).alloc (Nat.le_refl _) _).trans (hb1.mono (by simp))).alloc (by have := hb1.size; simp at this; omega) (.cells #[.int .i64 k1, .int .i64 n1, .slice A1 s1.length c1] 25); have hG1 := Blk.new_ w1 25 #[.int .i64 k1, .int .i64 n1, .slice A1 s1.length c1] rfl; have r1a := r1.alloc (.cells #[.int .i64 k1, .int .i64 n1, .slice A1 s1.length c1] 25); obtain ⟨y0, y1, y2⟩ := hG1.three; have tok := trivial))
  go_loopw [0, 10] (fun vv iv wr => ∃ (j : Nat) (A5 : Option Addr) (c5 : Nat) (ac : List Tm), j ≤ ks.length ∧ iv = .int .i64 j ∧ vv = .slice A5 (ts ++ (.mk k1 n1 s1 :: ac)).length c5 ∧ Hid (noteL N ctx k (kidT ks 0) 0 ks = bd (noteL N ctx k (kidT ks 0) j (ks.drop j)) (fun b => some (.ok (ac ++ b)))) ∧ ac.length = sizes (ks.take j) ∧ PartR (fun _ => False) B wr (.slice A5 (ts ++ (.mk k1 n1 s1 :: ac)).length c5) (ts ++ (.mk k1 n1 s1 :: ac)) ∧ Blk wr w.heap.size #[.int .i64 k, .int .i64 n, .slice A ks.length c] ∧ w.grownBy wr (Value.slice V ts.length cv).ownBlock ∧ Own2 w (.slice V ts.length cv) (.slice A5 (ts ++ (.mk k1 n1 s1 :: ac)).length c5) ∧ (Value.slice A5 (ts ++ (.mk k1 n1 s1 :: ac)).length c5).ownBlock ≠ some w.heap.size)
   (fun _ iv _ => ks.length - (intOf iv).toNat)
  case atStart => exact ⟨0, A3, c3, [], Nat.zero_le _, rfl, by simp, hide (by rw [List.drop_zero]; exact (bd_id _).symm), by simp [sizes], by simpa using hP3, hT3, gr3, by simpa using on3, by simpa using hn3 w.heap.size (by omega) (fun e => by have := (hP.oth _ e).2; omega)⟩
  case round =>
   clear hI
   obtain ⟨j, A5, c5, ac, hj, rfl, rfl, hinv, hac, hP5, hT5, g5, o5, hT0⟩ := hrel
   obtain ⟨L5, hL5⟩ : ∃ L, ts ++ (.mk k1 n1 s1 :: ac) = L := ⟨_, rfl⟩
   rw [hL5] at hP5 o5 hT0 ⊢
   have hL5' := hide hL5
   have htk := sizes_take_le ks j
   have hl5 : L5.length = ts.length + 1 + ac.length := by rw [← hL5]; simp; omega
   clear hL5
   have lT := hT5.lt
   have hTne5 : (Value.slice A5 L5.length c5).ownBlock ≠ some w.heap.size := hT0
   have s5 := g5.size
   have hr5 := hr.oth g5 o5
   have hrc5 := hrc.oth g5 o5
   obtain ⟨x0, x1, x2⟩ := hT5.three
   by_cases hlt : j < ks.length
   ·have hszj := sizes_take ks j hlt
    have htk2 := sizes_take_le ks (j + 1)
    obtain ⟨b, off, k', n', ks', A', c', rfl, hkj, hbl, hc1, hc2, hc3', hl', hr'⟩ := hr5.atp hlt
    rw [hkj, Tm.size] at hszj
    have hvk := hide (show validT (.mk k' n' ks') = true by rw [← hkj]; exact validT_kid hv'.out (List.getElem_mem hlt))
    have hszk' := sizes_le (List.getElem_mem hlt)
    rw [hkj, Tm.size] at hszk'
    have hlj : (j : Int) < (ks.length : Int) := by omega
    have hfit : L5.length + sizes ks' + 1 ≤ 100000 := by omega
    have hac' := hide (show ac.length + (sizes ks' + 1) = sizes (ks.take (j + 1)) by omega)
    clear hl5 hac
    have hstep := hinv.out
    rw [List.drop_eq_getElem_cons hlt, noteL, hkj, bd_bd] at hstep
    have hs0 := hs.out
    obtain ⟨bf, hbf⟩ : ∃ bf, ((j : Int) == 1 && binds k) = bf := ⟨_, rfl⟩
    obtain ⟨cx, hcx⟩ : ∃ cx, (if bf = true then ctx ++ [kidT ks 0] else ctx) = cx := ⟨_, rfl⟩
    rw [hbf, hcx] at hstep
    have hbf' := hide hbf
    have hcxl : cx.length ≤ 21 := by
     rw [← hcx]
     split
     ·rw [List.length_append, List.length_singleton]; omega
     ·omega
    have hcxv : ∀ u, u ∈ cx → validT u = true := by
     rw [← hcx]
     split
     ·intro u hu
      rcases List.mem_append.1 hu with hu | hu
      ·exact hvc'.out u hu
      ·rw [List.mem_singleton.1 hu]; exact validT_kidT hv'.out (by omega)
     ·exact hvc'.out
    cases hn : noteR N cx (.mk k' n' ks') with
    | none => rw [hn] at hstep; rw [hstep] at hs0; cases hs0
    | some rr =>
     have hih := hide (fun (w' : World) (D : Option Addr) (d : Nat) (hB : B ≤ w'.heap.size) (hrc : RdP (Oth w' (.slice A5 L5.length c5)) w' D 0 cx) (hr : RdP (Oth w' (.slice A5 L5.length c5)) w' A' 0 ks') (hP : PartR (fun _ => False) B w' (.slice A5 L5.length c5) L5) => ih.out cx k' n' ks' rr D d A' c' L5 A5 c5 w' (by omega) hn hvk.out hcxv hcxl hfit hB hrc hr hP)
     rw [hn] at hstep
     cases rr with
     | no b2 =>
      have hrno : r = .no b2 := by rw [hstep] at hs0; injection hs0 with hs0; exact hs0.symm
      subst hrno
      have qb := cdB_q b2
      clear hn hstep hs0 hkj hszj hbf
      cases bf with
      | false =>
       obtain rfl : ctx = cx := by simpa using hcx
       clear hcx
       go_wp2_with (first
        | (go_at_call 34; have _t := tokr; refine (hih.out _ C cc (by omega) hrc5 hr' hP5).mono ?_; rintro e w4 ⟨A6, l6, c6, rfl, hg6⟩; have g6 := grown_own2 g5 o5 hg6)
        | (go_at_call 53; refine (sBinds_any _ _ _).mono ?_; rw [hbf'.out]; rintro e w4 ⟨rfl, rfl⟩; have tokr := trivial))
       go_ret2
       exact ⟨A5, L5.length, c5, rfl, g6⟩
      | true =>
       obtain ⟨b0, off0, k0, n0, ks0, A0, c0, hA0, hk0, hbl0, z1, z2, z3, hl0, hr0⟩ := hr5.atp (j := 0) (by omega)
       injection hA0 with hA0
       injection hA0 with e1 e2
       subst e1 e2
       have hcxe : ctx ++ [.mk k0 n0 ks0] = cx := by rw [← hcx, if_pos rfl]; rw [show kidT ks 0 = .mk k0 n0 ks0 by rw [kidT, List.getD_eq_getElem?_getD, List.getElem?_eq_getElem (by omega), Option.getD_some]; exact hk0]
       have hpu := hide (show ∀ (w : World) (hrc : RdP (Oth wr (.slice A5 L5.length c5)) w C 0 ctx) (hra : RdP (Oth wr (.slice A5 L5.length c5)) w A0 0 ks0) (hs : wr.heap.size ≤ w.heap.size), Calls Try.prog 54 #[.slice C ctx.length cc, .agg #[.int .i64 k0, .int .i64 n0, .slice A0 ks0.length c0]] w (GotP5 (Oth wr (.slice A5 L5.length c5)) w cx) from fun w hrc hra hs => by rw [← hcxe]; exact sPushP_any ctx C cc k0 n0 ks0 A0 c0 w (by omega) hl0 _ (fun b hb => by have := hb.1; omega) hrc hra)
       simp only [Nat.zero_mul, Nat.add_zero] at z1 z2 z3
       clear hcxe hk0 hcx
       go_wp2_with (first
        | (go_at_call 34; have _t := tokp; refine (hih.out _ D d (by omega) hrc6 hr6 hP6).mono ?_; rintro e w5 ⟨A6, l6, c6, rfl, hg6⟩; have g7 := grown_own2 g5 o5 (grown_own2 (grown_belowN hb4) (Own2.refl _ _) hg6))
        | (go_at_call 54; have _t := tokr; refine (hpu.out _ hrc5 hr0 (Nat.le_refl _)).mono ?_; rintro e w4 ⟨D, d, rfl, rD, hb4⟩; have s4 := hb4.size; have hP6 := hP5.below hb4; have hT6 := hT5.keep hb4; have how := hP5.oth; have hrc6 : RdP (Oth w4 (.slice A5 L5.length c5)) w4 D 0 cx := (rD.lt_).mono (fun b hb => ⟨hb.2, fun e => hb.1.elim (fun h => h.2 e) (fun h => by have := (how b e).2; omega)⟩); have hr6 : RdP (Oth w4 (.slice A5 L5.length c5)) w4 A' 0 ks' := (hr'.below hb4).mono (fun b hb => ⟨by have := hb.1; omega, hb.2⟩); clear x0 x1 x2; obtain ⟨x0, x1, x2⟩ := hT6.three; have m1 := Keeps.of_below hb4 _ _ hc1; have m2 := Keeps.of_below hb4 _ _ hc2; have m3 := Keeps.of_below hb4 _ _ hc3'; clear tokr; have tokp := trivial)
        | (go_at_call 53; refine (sBinds_any _ _ _).mono ?_; rw [hbf'.out]; rintro e w4 ⟨rfl, rfl⟩; have tokr := trivial))
       go_ret2
       exact ⟨A5, L5.length, c5, rfl, g7⟩
     | ok a =>
      have hstep' := hide hstep
      have hna := hide (((note_valid N).1 _ _ _ hn).1)
      obtain ⟨L6, hL6⟩ : ∃ L, L5 ++ a = L := ⟨_, rfl⟩
      have hih2 := hide (show ∀ (w' : World) (D : Option Addr) (d : Nat) (hB : B ≤ w'.heap.size) (hrc : RdP (Oth w' (.slice A5 L5.length c5)) w' D 0 cx) (hr : RdP (Oth w' (.slice A5 L5.length c5)) w' A' 0 ks') (hP : PartR (fun _ => False) B w' (.slice A5 L5.length c5) L5), Calls Try.prog 34 #[.slice A5 L5.length c5, .slice D cx.length d, .agg #[.int .i64 k', .int .i64 n', .slice A' ks'.length c']] w' (fun e w'' => ∃ A6 c6, e = .returned (.tuple #[.slice A6 L6.length c6, .int .i64 0]) ∧ PartR (fun _ => False) B w'' (.slice A6 L6.length c6) L6 ∧ w'.grownBy w'' (Value.slice A5 L5.length c5).ownBlock ∧ Own2 w' (.slice A5 L5.length c5) (.slice A6 L6.length c6)) from fun w' D d hB hrc hr hP => by rw [← hL6]; exact hih.out w' D d hB hrc hr hP)
      have hL6' := hide hL6
      clear hn hs0 hkj hL6 hih hstep hszj hbf
      cases bf with
      | false =>
       obtain rfl : ctx = cx := by simpa using hcx
       clear hcx
       go_wp2_with (first
        | (go_at_call 34; have _t := tokr; refine (hih2.out _ C cc (by omega) hrc5 hr' hP5).mono ?_; rintro e w4 ⟨A6, c6, rfl, hP6, hg6, ho6⟩; have g6 := grown_own2 g5 o5 hg6; have hT6 := hT5.grown hg6 (fun e => hTne5 e.symm))
        | (go_at_call 53; refine (sBinds_any _ _ _).mono ?_; rw [hbf'.out]; rintro e w4 ⟨rfl, rfl⟩; have tokr := trivial))
       exact ⟨⟨j + 1, A6, c6, ac ++ a, by omega, by go_num, by rw [show ts ++ (.mk k1 n1 s1 :: (ac ++ a)) = L6 by rw [← hL6'.out, ← hL5'.out]; simp], hide (by rw [hstep'.out, bd_ok, bd_bd]; congr 1; funext z; simp [bd_ok]), by rw [List.length_append, hna.out, Tm.size]; have := hac'.out; omega, by rw [show ts ++ (.mk k1 n1 s1 :: (ac ++ a)) = L6 by rw [← hL6'.out, ← hL5'.out]; simp]; exact hP6, hT6, g6, by rw [show ts ++ (.mk k1 n1 s1 :: (ac ++ a)) = L6 by rw [← hL6'.out, ← hL5'.out]; simp]; exact (o5.trans (by omega) ho6), by rw [show ts ++ (.mk k1 n1 s1 :: (ac ++ a)) = L6 by rw [← hL6'.out, ← hL5'.out]; simp]; exact ho6 _ (by omega) hTne5⟩, by simp [intOf]; omega⟩
      | true =>
       obtain ⟨b0, off0, k0, n0, ks0, A0, c0, hA0, hk0, hbl0, z1, z2, z3, hl0, hr0⟩ := hr5.atp (j := 0) (by omega)
       injection hA0 with hA0
       injection hA0 with e1 e2
       subst e1 e2
       have hcxe : ctx ++ [.mk k0 n0 ks0] = cx := by rw [← hcx, if_pos rfl]; rw [show kidT ks 0 = .mk k0 n0 ks0 by rw [kidT, List.getD_eq_getElem?_getD, List.getElem?_eq_getElem (by omega), Option.getD_some]; exact hk0]
       have hpu := hide (show ∀ (w : World) (hrc : RdP (Oth wr (.slice A5 L5.length c5)) w C 0 ctx) (hra : RdP (Oth wr (.slice A5 L5.length c5)) w A0 0 ks0) (hs : wr.heap.size ≤ w.heap.size), Calls Try.prog 54 #[.slice C ctx.length cc, .agg #[.int .i64 k0, .int .i64 n0, .slice A0 ks0.length c0]] w (GotP5 (Oth wr (.slice A5 L5.length c5)) w cx) from fun w hrc hra hs => by rw [← hcxe]; exact sPushP_any ctx C cc k0 n0 ks0 A0 c0 w (by omega) hl0 _ (fun b hb => by have := hb.1; omega) hrc hra)
       simp only [Nat.zero_mul, Nat.add_zero] at z1 z2 z3
       clear hcxe hk0 hcx
       go_wp2_with (first
        | (go_at_call 34; have _t := tokp; refine (hih2.out _ D d (by omega) hrc6 hr6 hP6).mono ?_; rintro e w5 ⟨A6, c6, rfl, hP7, hg6, ho6⟩; have g7 := grown_own2 g5 o5 (grown_own2 (grown_belowN hb4) (Own2.refl _ _) hg6); have hT7 := hT6.grown hg6 (fun e => hTne5 e.symm))
        | (go_at_call 54; have _t := tokr; refine (hpu.out _ hrc5 hr0 (Nat.le_refl _)).mono ?_; rintro e w4 ⟨D, d, rfl, rD, hb4⟩; have s4 := hb4.size; have hP6 := hP5.below hb4; have hT6 := hT5.keep hb4; have how := hP5.oth; have hrc6 : RdP (Oth w4 (.slice A5 L5.length c5)) w4 D 0 cx := (rD.lt_).mono (fun b hb => ⟨hb.2, fun e => hb.1.elim (fun h => h.2 e) (fun h => by have := (how b e).2; omega)⟩); have hr6 : RdP (Oth w4 (.slice A5 L5.length c5)) w4 A' 0 ks' := (hr'.below hb4).mono (fun b hb => ⟨by have := hb.1; omega, hb.2⟩); clear x0 x1 x2; obtain ⟨x0, x1, x2⟩ := hT6.three; have m1 := Keeps.of_below hb4 _ _ hc1; have m2 := Keeps.of_below hb4 _ _ hc2; have m3 := Keeps.of_below hb4 _ _ hc3'; clear tokr; have tokp := trivial)
        | (go_at_call 53; refine (sBinds_any _ _ _).mono ?_; rw [hbf'.out]; rintro e w4 ⟨rfl, rfl⟩; have tokr := trivial))
       exact ⟨⟨j + 1, A6, c6, ac ++ a, by omega, by go_num, by rw [show ts ++ (.mk k1 n1 s1 :: (ac ++ a)) = L6 by rw [← hL6'.out, ← hL5'.out]; simp], hide (by rw [hstep'.out, bd_ok, bd_bd]; congr 1; funext z; simp [bd_ok]), by rw [List.length_append, hna.out, Tm.size]; have := hac'.out; omega, by rw [show ts ++ (.mk k1 n1 s1 :: (ac ++ a)) = L6 by rw [← hL6'.out, ← hL5'.out]; simp]; exact hP7, hT7, g7, by rw [show ts ++ (.mk k1 n1 s1 :: (ac ++ a)) = L6 by rw [← hL6'.out, ← hL5'.out]; simp]; exact (o5.trans (by omega) ((Own2.refl _ _).trans s4 ho6)), by rw [show ts ++ (.mk k1 n1 s1 :: (ac ++ a)) = L6 by rw [← hL6'.out, ← hL5'.out]; simp]; exact ho6 _ (by omega) hTne5⟩, by simp [intOf]; omega⟩
   ·have hje : j = ks.length := by omega
    subst hje
    have hrok : r = .ok (.mk k1 n1 s1 :: ac) := by
     have h1 := hinv.out
     rw [List.drop_length, noteL] at h1
     have h2 := hs.out
     rw [h1] at h2
     injection h2 with h2
     rw [← h2]
     simp
    subst hrok
    go_wp2_with fail
    go_ret2
    exact ⟨A5, c5, by rw [hL5'.out]; rfl, by rw [hL5'.out]; exact hP5, g5, by rw [hL5'.out]; exact o5⟩
def anR (N : Nat) (ctx : List Tm) (t : Tm) : Option (Int × List Tm) :=
 match itR N ctx t with
 | none => none
 | some (c, none) => some (c, [])
 | some (_, some _) => match noteR N ctx t with
  | none => none
  | some (.no b) => some (cdB b, [])
  | some (.ok ns) => some (0, ns)
end Go.Proofs.Ytddkehjdjfmhmaa
