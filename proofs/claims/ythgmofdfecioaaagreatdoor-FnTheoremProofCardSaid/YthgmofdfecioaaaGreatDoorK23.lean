/-
  Contracts of the functions that the law reaches, and plain lemmas. No condition.
-/
import Derived.Test.YthgmofdfecioaaaGreatDoorK7
import Derived.Test.YthgmofdfecioaaaGreatDoorK22
namespace Go.Proofs.YthgmofdfecioaaaGreatDoor
set_option linter.unusedSimpArgs false
set_option linter.unusedVariables false
open Go.RowKit
def natT : Tm := .mk 6 0 []
/-- the head normal term, if it is of a kind -/
def shpS (s : Tm) (kind : Int) : Option Tm :=
  if validT s = true then (match redI headP 200 s with | (some o, c) => if c = 0 ∧ o.k = kind then some o else none | (none, _) => none) else none
def cnvS (a b : Tm) : Bool := validT a && validT b && (convI 200 a b == 1)
def lvS (o : Option Tm) : Option Int := match o with | none => none | some s => (shpS s 2).map (fun h => h.n)
def chkS (o : Option Tm) (want : Tm) : Bool := match o with | some s => cnvS s want | none => false
def hasS (o want : Option Tm) : Bool := match want with | some x => chkS o x | none => false
def fmS (o : Option Tm) (kind : Int) : Option Tm := match o with | none => none | some s => shpS s kind
def famS (o : Option Tm) (t : Tm) : Bool := match fmS o 3 with | some s => cnvS (kidT s.ks 0) t && (shpS (kidT s.ks 1) 2).isSome | none => false
def appT (a b : Tm) : Tm := .mk 5 0 [a, b]
def stepS (p : Tm) : Option Tm :=
  match shiftI 1 0 p with
  | none => none
  | some one => match shiftI 2 0 p with
    | none => none
    | some two => vO (.mk 3 0 [natT, .mk 3 0 [appT one (.mk 1 0 []), appT two (.mk 8 0 [.mk 1 1 []])]])
/-- the judgement of a term, by the types of its operands -/
def judS (rec_ : Tm → Option Tm) (ctx : List Tm) (t : Tm) (ty : Nat → Option Tm) : Option Tm :=
  if t.k = 1 then (if 0 ≤ t.n ∧ t.n < ctx.length then shiftI (t.n + 1) 0 (ctx.getD (ctx.length - 1 - t.n.toNat) default) else none)
  else if t.k = 2 then (if t.n = 3 then none else some (.mk 2 (t.n + 1) []))
  else if t.k = 6 then some (.mk 2 0 [])
  else if t.k = 7 then some natT
  else if t.k = 8 then (if chkS (ty 0) natT = true then some natT else none)
  else if t.k = 3 then (match lvS (ty 0) with | none => none | some i => match lvS (ty 1) with | none => none | some j => some (.mk 2 (if i < j then j else i) []))
  else if t.k = 4 then (match lvS (ty 0) with | none => none | some _ => match ty 1 with | none => none | some b => match vO (.mk 3 0 [kidT t.ks 0, b]) with | none => none | some o => if (rec_ o).isSome = true then some o else none)
  else if t.k = 5 then (match fmS (ty 0) 3 with | none => none | some s => if chkS (ty 1) (kidT s.ks 0) = true then substI 0 (kidT t.ks 1) (kidT s.ks 1) else none)
  else if t.k = 9 then (if famS (ty 0) natT = true ∧ hasS (ty 1) (vO (appT (kidT t.ks 0) (.mk 7 0 []))) = true ∧ hasS (ty 2) (stepS (kidT t.ks 0)) = true ∧ chkS (ty 3) natT = true then vO (appT (kidT t.ks 0) (kidT t.ks 3)) else none)
  else if t.k = 10 then (match lvS (ty 0) with | none => none | some i => if chkS (ty 1) (kidT t.ks 0) = true ∧ chkS (ty 2) (kidT t.ks 0) = true then some (.mk 2 i []) else none)
  else if t.k = 11 then (match ty 0 with | none => none | some s => if (lvS (rec_ s)).isSome = true then vO (.mk 10 0 [s, kidT t.ks 0, kidT t.ks 0]) else none)
  else if t.k = 12 then (match fmS (ty 1) 10 with | none => none | some e => if famS (ty 0) (kidT e.ks 0) = true ∧ hasS (ty 2) (vO (appT (kidT t.ks 0) (kidT e.ks 1))) = true then vO (appT (kidT t.ks 0) (kidT e.ks 2)) else none)
  else none
/-- the type of an operand -/
def tyS (rec_ : List Tm → Tm → Option Tm) (ctx : List Tm) (t : Tm) (i : Nat) : Option Tm :=
  if under t.k i = 0 then rec_ ctx (kidT t.ks i) else if 20 ≤ ctx.length then none else rec_ (ctx ++ [kidT t.ks 0]) (kidT t.ks i)
def infS : Nat → List Tm → Tm → Option Tm
  | 0, _, _ => none
  | N + 1, ctx, t => judS (infS N ctx) ctx t (tyS (infS N) ctx t)
open Go.RowKit
/-- a term that is no zero value does not lie over a zero value's block -/
theorem rdp_ne {w : World} {z : Nat} (hZ : Blk w z #[.int .i64 0, .int .i64 0, .slice none 0 0]) : (∀ t d b off i, shape d t = true → RdC w b off i t → RdPC (· ≠ z) w b off i t) ∧ (∀ (ks : List Tm) d A i, (∀ t, t ∈ ks → shape d t = true) → Rd w A i ks → RdP (· ≠ z) w A i ks) := by
  refine Tm.ind2 (fun k n ks ih d b off i hs hr => ?_) (fun d A i _ _ => RdP.nil) (fun t ts h1 h2 d A i hs hr => ?_)
  · obtain ⟨d, rfl⟩ : ∃ d', d = d' + 1 := by cases d with | zero => simp [shape] at hs | succ d => exact ⟨d, rfl⟩
    obtain ⟨ha, _, _, hk⟩ := (shape_split d k n ks).1 hs
    obtain ⟨c1, c2, A, c, c3, hl, hr'⟩ := RdC.iff.1 hr
    refine RdPC.iff.2 ⟨fun e => ?_, c1, c2, A, c, c3, hl, ih d A 0 hk hr'⟩
    subst e
    have h0 : k ≠ 0 := by rintro rfl; have : arity 0 = -1 := rfl; omega
    rw [hZ.cell] at c1
    generalize off + i * 3 = j at c1
    rcases j with _ | _ | _ | j
    · simp at c1; exact h0 c1.symm
    · simp at c1; exact h0 c1.symm
    · simp at c1
    · simp at c1
  · obtain ⟨⟨b, off, e, hc⟩, hr'⟩ := Rd.cons_iff.1 hr
    exact RdP.cons_iff.2 ⟨⟨b, off, e, h1 d b off i (hs t (by simp)) hc⟩, h2 d A (i + 1) (fun u hu => hs u (by simp [hu])) hr'⟩
theorem rd_set0 {w : World} {z : Nat} {k n : Int} {ks : List Tm} {A : Option Addr} (hZ : Blk w z #[.int .i64 0, .int .i64 0, .slice none 0 0]) (hv : validT (.mk k n ks) = true) (hr : Rd w A 0 ks) (x y v : Value) :
    Rd (((w.setCell ⟨z, 0, none⟩ x).setCell ⟨z, 1, none⟩ y).setCell ⟨z, 2, none⟩ v) A 0 ks := by
  have hs := ((shape_split 29 k n ks).1 (validT_shape hv)).2.2.2
  exact (((((rdp_ne hZ).2 ks 29 A 0 hs hr).setCell (a := ⟨z, 0, none⟩) (fun h => h rfl) x).setCell (a := ⟨z, 1, none⟩) (fun h => h rfl) y).setCell (a := ⟨z, 2, none⟩) (fun h => h rfl) v).rd
/-- a type, and that it is one -/
def GotI (w : World) (k n : Int) (ks : List Tm) (e : Ending) (w' : World) : Prop :=
  ∃ A c, e = .returned (.tuple #[.agg #[.int .i64 k, .int .i64 n, .slice A ks.length c], .int .i64 0]) ∧ ks.length ≤ 9223372036854775807 ∧ Rd w' A 0 ks ∧ Below w.heap.size w w'
set_option maxRecDepth 100000 in
theorem isort_any (x : Int) (w : World) : Calls Tryz.prog 125 #[.int .i64 x] w fun e w' => e = .returned (.agg #[.int .i64 2, .int .i64 x, .slice none 0 0]) ∧ Below w.heap.size w w' := by
  go_enter Tryz.func125, Tryz.ntmps125
  go_wp2_with fail
  refine bodyPost_ret (v := .agg #[.int .i64 2, .int .i64 x, .slice none 0 0]) (by simp [results, Tryz.results125, go_sem]) rfl ⟨rfl, ?_⟩
  exact (Below.refl _ _).alloc (Nat.le_refl _) _
set_option maxRecDepth 100000 in
set_option maxHeartbeats 4000000 in
theorem imade_yes (k1 n1 : Int) (s1 : List Tm) (A1 : Option Addr) (c1 : Nat) (w : World) (hv : validT (.mk k1 n1 s1) = true) (hr : Rd w A1 0 s1) :
    Calls Tryz.prog 124 #[.agg #[.int .i64 k1, .int .i64 n1, .slice A1 s1.length c1], .bool true] w fun e w' => e = .returned (.tuple #[.agg #[.int .i64 k1, .int .i64 n1, .slice A1 s1.length c1], .int .i64 0]) ∧ Below w.heap.size w w' := by
  have hz := validT_size' hv
  have hv' := hide hv
  clear hv
  go_enter Tryz.func124, Tryz.ntmps124
  go_wp2_with (go_at_call 35; refine (iTermValid_any k1 n1 s1 A1 c1 _ (by omega) ((hr.alloc _).alloc _)).mono ?_; rw [hv'.out]; rintro e w1 ⟨rfl, hb1⟩; have hX := ((Blk.new_ w 27 #[.int .i64 k1, .int .i64 n1, .slice A1 s1.length c1] rfl).alloc (.cells #[.int .i64 0, .int .i64 0, .slice none 0 0] 27)).keep hb1; have hZ : Blk w1 (w.heap.size + 1) #[.int .i64 0, .int .i64 0, .slice none 0 0] := (Blk.new_ _ 27 _ (by simp)).keep hb1; have g1 : Below w.heap.size w w1 := (((Below.refl _ _).alloc (Nat.le_refl _) _).alloc (by simp) _).trans (hb1.mono (by simp; omega)); obtain ⟨x0, x1, x2⟩ := hX.three; obtain ⟨d0, d1, d2⟩ := hZ.three; have e0 := hZ.frozen 0; have e1 := hZ.frozen 1; have e2 := hZ.frozen 2)
  refine bodyPost_ret (v := .tuple #[.agg #[.int .i64 k1, .int .i64 n1, .slice A1 s1.length c1], .int .i64 0]) (by simp [results, Tryz.results124, go_sem, d0, d1, d2]) rfl ⟨rfl, ?_⟩
  exact ((g1.setCell (by simp) _).setCell (by simp) _).setCell (by simp) _
theorem shpS_inv {s o : Tm} {kind : Int} (h : shpS s kind = some o) : validT s = true ∧ (redI headP 200 s).1 = some o ∧ (redI headP 200 s).2 = 0 ∧ o.k = kind ∧ validT o = true := by
  unfold shpS at h
  split at h
  · rename_i hv
    split at h
    · rename_i o' c he
      split at h
      · rename_i hc
        injection h with h
        subst h
        rw [he]
        exact ⟨hv, rfl, hc.1, hc.2, redI_valid _ _ _ _ hv he⟩
      · cases h
    · cases h
  · cases h
set_option maxRecDepth 100000 in
set_option maxHeartbeats 4000000 in
theorem ishaped_any (k1 n1 : Int) (s1 : List Tm) (A1 : Option Addr) (c1 : Nat) (kind n3 : Int) (s3 : List Tm) (w : World) (hs : shpS (.mk k1 n1 s1) kind = some (.mk kind n3 s3)) (hr : Rd w A1 0 s1) :
    Calls Tryz.prog 94 #[.agg #[.int .i64 k1, .int .i64 n1, .slice A1 s1.length c1], .int .i64 kind] w (GotI w kind n3 s3) := by
  obtain ⟨hv, h1, h2, h3, h4⟩ := shpS_inv hs
  have hH := hide (fun (w : World) (hr : Rd w A1 0 s1) => (iHeadN_any k1 n1 s1 A1 c1 200 w hv (by omega) hr).mono fun e w' h => gotM_at h (by rw [h1]; rfl) h2)
  have h4' := hide h4
  clear hs hv h1 h2 h3 h4
  go_enter Tryz.func94, Tryz.ntmps94
  go_wp2_with (go_at_call 122; refine (hH.out _ ((hr.alloc _).alloc _)).mono ?_; rintro e w1 ⟨A3, c3, rfl, hl3, r3, hb1⟩; have hZ : Blk w1 (w.heap.size + 1) #[.int .i64 0, .int .i64 0, .slice none 0 0] := (Blk.new_ _ 27 _ (by simp)).keep hb1; have g1 : Below w.heap.size w w1 := (((Below.refl _ _).alloc (Nat.le_refl _) _).alloc (by simp) _).trans (hb1.mono (by simp; omega)); obtain ⟨d0, d1, d2⟩ := hZ.three; have e0 := hZ.frozen 0; have e1 := hZ.frozen 1; have e2 := hZ.frozen 2; have lz := hZ.lt; have n1' : w.heap.size + 1 ≠ w1.heap.size := (by omega))
  have y := fun (o : Obj) => (((((hZ.set_ 0 (.int .i64 kind)).set_ 1 (.int .i64 n3)).set_ 2 (.slice A3 s3.length c3)).alloc o : Blk _ _ #[.int .i64 kind, .int .i64 n3, .slice A3 s3.length c3])).three
  refine bodyPost_ret (v := .tuple #[.agg #[.int .i64 kind, .int .i64 n3, .slice A3 s3.length c3], .int .i64 0]) (by simp [results, Tryz.results94, go_sem, y]) rfl ⟨A3, c3, rfl, hl3, ?_, ?_⟩
  · exact (rd_set0 hZ h4'.out r3 _ _ _).alloc _
  · exact (((g1.setCell (by simp) _).setCell (by simp) _).setCell (by simp) _).alloc (by simp [World.setCell]; exact g1.size) _
set_option maxRecDepth 100000 in
set_option maxHeartbeats 4000000 in
theorem iconverts_any (k1 n1 : Int) (s1 : List Tm) (A1 : Option Addr) (c1 : Nat) (k2 n2 : Int) (s2 : List Tm) (A2 : Option Addr) (c2 : Nat) (w : World) (hs : cnvS (.mk k1 n1 s1) (.mk k2 n2 s2) = true) (hr1 : Rd w A1 0 s1) (hr2 : Rd w A2 0 s2) :
    Calls Tryz.prog 72 #[.agg #[.int .i64 k1, .int .i64 n1, .slice A1 s1.length c1], .agg #[.int .i64 k2, .int .i64 n2, .slice A2 s2.length c2]] w fun e w' => e = .returned (.int .i64 0) ∧ Below w.heap.size w w' := by
  rw [cnvS, Bool.and_eq_true, Bool.and_eq_true, beq_iff_eq] at hs
  obtain ⟨⟨hv1, hv2⟩, hc⟩ := hs
  have hC := hide (fun (w : World) (hr1 : Rd w A1 0 s1) (hr2 : Rd w A2 0 s2) => by have := iConv_any k1 n1 s1 A1 c1 k2 n2 s2 A2 c2 200 w (by omega) hv1 hv2 hr1 hr2; rwa [hc] at this)
  clear hv1 hv2 hc
  go_enter Tryz.func72, Tryz.ntmps72
  go_wp2_with (go_at_call 10; refine (hC.out _ ((hr1.alloc _).alloc _) ((hr2.alloc _).alloc _)).mono ?_; rintro e w1 ⟨rfl, hb1⟩)
  go_ret
  exact ⟨rfl, (((Below.refl _ _).alloc (Nat.le_refl _) _).alloc (by simp) _).trans (hb1.mono (by simp; omega))⟩
/-- the closure that tells the types of operands -/
def TyOk (b2 b3 : Nat) (w : World) (ty : Nat → Option Tm) : Prop := ∀ (i : Nat) (k n : Int) (ks : List Tm), i < 4 → ty i = some (.mk k n ks) → ∀ w', Below w.heap.size w w' →
  Calls Tryz.prog 95 #[.int .i64 i, .pointer (some ⟨b2, 0, none⟩), .pointer (some ⟨b3, 0, none⟩)] w' (GotI w' k n ks)
theorem TyOk.below {b2 b3 : Nat} {w w' : World} {ty : Nat → Option Tm} (h : TyOk b2 b3 w ty) (hb : Below w.heap.size w w') : TyOk b2 b3 w' ty := fun i k n ks hi ht w2 hw2 => h i k n ks hi ht w2 (hb.trans (hw2.mono hb.size))
set_option maxRecDepth 100000 in
set_option maxHeartbeats 4000000 in
theorem iform_any (C : Option Addr) (m cc : Nat) (k n : Int) (A : Option Addr) (la c b2 b3 : Nat) (i : Nat) (hi : i < 4) (kind n3 : Int) (s3 : List Tm) (ty : Nat → Option Tm) (w : World) (hs : fmS (ty i) kind = some (.mk kind n3 s3)) (hT : TyOk b2 b3 w ty) :
    Calls Tryz.prog 129 #[.agg #[.slice C m cc, .int .i64 k, .int .i64 n, .slice A la c, .func (.func 95) #[] #[.pointer (some ⟨b2, 0, none⟩), .pointer (some ⟨b3, 0, none⟩)]], .int .i64 i, .int .i64 kind] w (GotI w kind n3 s3) := by
  obtain ⟨k1, n1, s1, h1, h2⟩ : ∃ k1 n1 s1, ty i = some (.mk k1 n1 s1) ∧ shpS (.mk k1 n1 s1) kind = some (.mk kind n3 s3) := by
    cases h : ty i with
    | none => rw [h] at hs; cases hs
    | some s => rw [h] at hs; obtain ⟨a, b, l⟩ := s; exact ⟨a, b, l, rfl, hs⟩
  have hv3 := hide (shpS_inv h2).2.2.2.2
  have h1' := hide h1
  have h2' := hide h2
  clear hs h1 h2
  go_enter Tryz.func129, Tryz.ntmps129
  go_wp2_with (first
    | (go_at_call 94; have _t := tok1; refine (ishaped_any k1 n1 s1 A1 c1 kind n3 s3 _ h2'.out (r1.alloc _)).mono ?_; rintro e w2 ⟨A3, c3, rfl, hl3, r3, hb2⟩; have hZ2 := (hZ.alloc (.cells #[.int .i64 k1, .int .i64 n1, .slice A1 s1.length c1] 27)).keep hb2; have g2 := (g1.alloc g1.size (.cells #[.int .i64 k1, .int .i64 n1, .slice A1 s1.length c1] 27)).trans (hb2.mono (by have := g1.size; simp; omega)); obtain ⟨d0, d1, d2⟩ := hZ2.three; have e0 := hZ2.frozen 0; have e1 := hZ2.frozen 1; have e2 := hZ2.frozen 2)
    | (go_at_call 95; refine (hT i k1 n1 s1 hi h1'.out _ (((Below.refl _ _).alloc (Nat.le_refl _) _).alloc (by simp) _)).mono ?_; rintro e w1 ⟨A1, c1, rfl, hl1, r1, hb1⟩; have hZ : Blk w1 (w.heap.size + 1) #[.int .i64 0, .int .i64 0, .slice none 0 0] := (Blk.new_ _ 27 _ (by simp)).keep hb1; have g1 : Below w.heap.size w w1 := (((Below.refl _ _).alloc (Nat.le_refl _) _).alloc (by simp) _).trans (hb1.mono (by simp; omega)); have lz := hZ.lt; have tok1 := trivial))
  refine bodyPost_ret (v := .tuple #[.agg #[.int .i64 kind, .int .i64 n3, .slice A3 s3.length c3], .int .i64 0]) (by simp [results, Tryz.results129, go_sem, d0, d1, d2]) rfl ⟨A3, c3, rfl, hl3, ?_, ?_⟩
  · exact rd_set0 hZ2 hv3.out r3 _ _ _
  · exact ((g2.setCell (by simp) _).setCell (by simp) _).setCell (by simp) _
open Go.RowKit
theorem fmS_inv {o : Option Tm} {kind : Int} {t : Tm} (h : fmS o kind = some t) : ∃ n3 s3, t = .mk kind n3 s3 ∧ validT (.mk kind n3 s3) = true := by
  cases o with
  | none => cases h
  | some s =>
    obtain ⟨h1, h2, h3, h4, h5⟩ := shpS_inv h
    obtain ⟨a, b, l⟩ := t
    obtain rfl : a = kind := h4
    exact ⟨b, l, rfl, h5⟩
theorem lvS_inv {o : Option Tm} {l : Int} (h : lvS o = some l) : ∃ s3, fmS o 2 = some (.mk 2 l s3) := by
  cases o with
  | none => cases h
  | some s =>
    rw [lvS] at h
    cases hh : shpS s 2 with
    | none => rw [hh] at h; cases h
    | some t =>
      rw [hh] at h
      obtain ⟨n3, s3, rfl, _⟩ := fmS_inv (o := some s) hh
      injection h with h
      obtain rfl : n3 = l := h
      exact ⟨s3, hh⟩
set_option maxRecDepth 100000 in
set_option maxHeartbeats 4000000 in
theorem ilevel_any (C : Option Addr) (m cc : Nat) (k n : Int) (A : Option Addr) (la c b2 b3 : Nat) (i : Nat) (hi : i < 4) (l : Int) (ty : Nat → Option Tm) (w : World) (hs : lvS (ty i) = some l) (hT : TyOk b2 b3 w ty) :
    Calls Tryz.prog 150 #[.agg #[.slice C m cc, .int .i64 k, .int .i64 n, .slice A la c, .func (.func 95) #[] #[.pointer (some ⟨b2, 0, none⟩), .pointer (some ⟨b3, 0, none⟩)]], .int .i64 i] w fun e w' => e = .returned (.tuple #[.int .i64 l, .int .i64 0]) ∧ Below w.heap.size w w' := by
  obtain ⟨s3, h1⟩ := lvS_inv hs
  have h1' := hide h1
  clear hs h1
  go_enter Tryz.func150, Tryz.ntmps150
  go_wp2_with (go_at_call 129; refine (iform_any C m cc k n A la c b2 b3 i hi 2 l s3 ty _ h1'.out (hT.below ((Below.refl _ _).alloc (Nat.le_refl _) _))).mono ?_; rintro e w1 ⟨A3, c3, rfl, hl3, r3, hb1⟩; have g1 : Below w.heap.size w w1 := ((Below.refl _ _).alloc (Nat.le_refl _) _).trans (hb1.mono (by simp)))
  go_ret2
  exact ⟨rfl, g1.alloc g1.size _⟩
theorem chkS_inv {o : Option Tm} {want : Tm} (h : chkS o want = true) : ∃ k1 n1 s1, o = some (.mk k1 n1 s1) ∧ cnvS (.mk k1 n1 s1) want = true := by
  cases o with
  | none => cases h
  | some s => obtain ⟨a, b, l⟩ := s; exact ⟨a, b, l, rfl, h⟩
set_option maxRecDepth 100000 in
set_option maxHeartbeats 4000000 in
theorem icheck_any (C : Option Addr) (m cc : Nat) (k n : Int) (A : Option Addr) (la c b2 b3 : Nat) (i : Nat) (hi : i < 4) (k2 n2 : Int) (s2 : List Tm) (A2 : Option Addr) (c2 : Nat) (ty : Nat → Option Tm) (w : World) (hs : chkS (ty i) (.mk k2 n2 s2) = true) (hT : TyOk b2 b3 w ty) (hr2 : Rd w A2 0 s2) :
    Calls Tryz.prog 126 #[.agg #[.slice C m cc, .int .i64 k, .int .i64 n, .slice A la c, .func (.func 95) #[] #[.pointer (some ⟨b2, 0, none⟩), .pointer (some ⟨b3, 0, none⟩)]], .int .i64 i, .agg #[.int .i64 k2, .int .i64 n2, .slice A2 s2.length c2]] w fun e w' => e = .returned (.int .i64 0) ∧ Below w.heap.size w w' := by
  obtain ⟨k1, n1, s1, h1, h2⟩ := chkS_inv hs
  have h1' := hide h1
  have h2' := hide h2
  clear hs h1 h2
  go_enter Tryz.func126, Tryz.ntmps126
  go_wp2_with (first
    | (go_at_call 72; have _t := tok1; refine (iconverts_any k1 n1 s1 A1 c1 k2 n2 s2 A2 c2 _ h2'.out (r1.alloc _) ((hr2.below g1).alloc _)).mono ?_; rintro e w2 ⟨rfl, hb2⟩; have g2 := (g1.alloc g1.size (.cells #[.int .i64 k1, .int .i64 n1, .slice A1 s1.length c1] 27)).trans (hb2.mono (by have := g1.size; simp; omega)))
    | (go_at_call 95; refine (hT i k1 n1 s1 hi h1'.out _ (((Below.refl _ _).alloc (Nat.le_refl _) _).alloc (by simp) _)).mono ?_; rintro e w1 ⟨A1, c1, rfl, hl1, r1, hb1⟩; have hZ : Blk w1 (w.heap.size + 1) #[.int .i64 k2, .int .i64 n2, .slice A2 s2.length c2] := (Blk.new_ _ 27 _ (by simp)).keep hb1; have g1 : Below w.heap.size w w1 := (((Below.refl _ _).alloc (Nat.le_refl _) _).alloc (by simp) _).trans (hb1.mono (by simp; omega)); have lz := hZ.lt; obtain ⟨d0, d1, d2⟩ := hZ.three; have tok1 := trivial))
  go_ret
  exact ⟨rfl, g2⟩
set_option maxRecDepth 100000 in
set_option maxHeartbeats 4000000 in
theorem ihas_any (C : Option Addr) (m cc : Nat) (k n : Int) (A : Option Addr) (la c b2 b3 : Nat) (i : Nat) (hi : i < 4) (k2 n2 : Int) (s2 : List Tm) (A2 : Option Addr) (c2 : Nat) (ty : Nat → Option Tm) (w : World) (hs : chkS (ty i) (.mk k2 n2 s2) = true) (hT : TyOk b2 b3 w ty) (hr2 : Rd w A2 0 s2) :
    Calls Tryz.prog 130 #[.agg #[.slice C m cc, .int .i64 k, .int .i64 n, .slice A la c, .func (.func 95) #[] #[.pointer (some ⟨b2, 0, none⟩), .pointer (some ⟨b3, 0, none⟩)]], .int .i64 i, .agg #[.int .i64 k2, .int .i64 n2, .slice A2 s2.length c2], .int .i64 0] w fun e w' => e = .returned (.int .i64 0) ∧ Below w.heap.size w w' := by
  have hs' := hide hs
  clear hs
  go_enter Tryz.func130, Tryz.ntmps130
  go_wp2_with (go_at_call 126; refine (icheck_any C m cc k n A la c b2 b3 i hi k2 n2 s2 A2 c2 ty _ hs'.out (hT.below (((Below.refl _ _).alloc (Nat.le_refl _) _).alloc (by simp) _)) ((hr2.alloc _).alloc _)).mono ?_; rintro e w1 ⟨rfl, hb1⟩; have g1 : Below w.heap.size w w1 := (((Below.refl _ _).alloc (Nat.le_refl _) _).alloc (by simp) _).trans (hb1.mono (by simp; omega)))
  go_ret
  exact ⟨rfl, g1⟩
theorem famS_inv {o : Option Tm} {t : Tm} (h : famS o t = true) : ∃ n3 ka na sa kb nb sb ne se, fmS o 3 = some (.mk 3 n3 [.mk ka na sa, .mk kb nb sb]) ∧ cnvS (.mk ka na sa) t = true ∧ shpS (.mk kb nb sb) 2 = some (.mk 2 ne se) := by
  unfold famS at h
  split at h
  · rename_i s hs
    obtain ⟨n3, s3, rfl, hv⟩ := fmS_inv hs
    obtain ⟨a, b, rfl⟩ := len2 (l := s3) (by have := (validT_arity hv).1; have h3 : arity 3 = 2 := rfl; omega)
    obtain ⟨ka, na, sa⟩ := a
    obtain ⟨kb, nb, sb⟩ := b
    rw [Bool.and_eq_true] at h
    obtain ⟨t2, ht2⟩ := Option.isSome_iff_exists.1 h.2
    obtain ⟨ne, se, rfl, _⟩ := fmS_inv (o := some (.mk kb nb sb)) ht2
    exact ⟨n3, ka, na, sa, kb, nb, sb, ne, se, hs, h.1, ht2⟩
  · cases h
set_option maxRecDepth 100000 in
set_option maxHeartbeats 4000000 in
theorem ifamily_any (C : Option Addr) (m cc : Nat) (k n : Int) (A : Option Addr) (la c b2 b3 : Nat) (i : Nat) (hi : i < 4) (k2 n2 : Int) (s2 : List Tm) (A2 : Option Addr) (c2 : Nat) (ty : Nat → Option Tm) (w : World) (hs : famS (ty i) (.mk k2 n2 s2) = true) (hT : TyOk b2 b3 w ty) (hr2 : Rd w A2 0 s2) :
    Calls Tryz.prog 151 #[.agg #[.slice C m cc, .int .i64 k, .int .i64 n, .slice A la c, .func (.func 95) #[] #[.pointer (some ⟨b2, 0, none⟩), .pointer (some ⟨b3, 0, none⟩)]], .int .i64 i, .agg #[.int .i64 k2, .int .i64 n2, .slice A2 s2.length c2]] w fun e w' => e = .returned (.int .i64 0) ∧ Below w.heap.size w w' := by
  obtain ⟨n3, ka, na, sa, kb, nb, sb, ne, se, h1, h2, h3⟩ := famS_inv hs
  have h1' := hide h1
  have h2' := hide h2
  have h3' := hide h3
  clear hs h1 h2 h3
  go_enter Tryz.func151, Tryz.ntmps151
  go_upto_region 4 with (go_at_call 129; refine (iform_any C m cc k n A la c b2 b3 i hi 3 n3 [.mk ka na sa, .mk kb nb sb] ty _ h1'.out (hT.below (((Below.refl _ _).alloc (Nat.le_refl _) _).alloc (by simp) _))).mono ?_; rintro e w1 ⟨A3, c3, rfl, hl3, r3, hb1⟩; have hY : Blk w1 (w.heap.size + 1) #[.int .i64 k2, .int .i64 n2, .slice A2 s2.length c2] := (Blk.new_ _ 27 _ (by simp)).keep hb1; have g1 : Below w.heap.size w w1 := (((Below.refl _ _).alloc (Nat.le_refl _) _).alloc (by simp) _).trans (hb1.mono (by simp; omega)); have r2 := hr2.below g1)
  refine name_world ?_
  intro wx hwx
  have hT7x : Blk wx w1.heap.size #[.int .i64 3, .int .i64 n3, .slice A3 2 c3] := by rw [hwx]; exact Blk.new_ _ 27 _ rfl
  have hYx : Blk wx (w.heap.size + 1) #[.int .i64 k2, .int .i64 n2, .slice A2 s2.length c2] := by rw [hwx]; exact hY.alloc _
  have gx : Below w.heap.size w wx := by rw [hwx]; exact g1.alloc g1.size _
  have r3x : Rd wx A3 0 [.mk ka na sa, .mk kb nb sb] := by rw [hwx]; exact r3.alloc _
  have r2x : Rd wx A2 0 s2 := by rw [hwx]; exact r2.alloc _
  clear hwx
  obtain ⟨ba, oa, x1, x2, x3, Aa, ca, rfl, hk1, i1, i2, i3, hla, ra⟩ := r3x.at_ (j := 0) (by simp)
  injection hk1 with e1 e2 e3
  subst e1 e2 e3
  obtain ⟨bb, ob, x1, x2, x3, Ab, cb, hAb, hk2, j1, j2, j3, hlb, rb⟩ := r3x.at_ (j := 1) (by simp)
  injection hk2 with e1 e2 e3
  injection hAb with hA
  injection hA with hA1 hA2
  subst e1 e2 e3 hA1 hA2
  simp only [Nat.zero_mul, Nat.add_zero, Nat.one_mul, Nat.reduceMul] at i1 i2 i3 j1 j2 j3
  have u0 := rule_of hT7x.three.1
  have u1 := rule_of hT7x.three.2.1
  have u2 := rule_of hT7x.three.2.2
  have v0 := rule_of hYx.three.1
  have v1 := rule_of hYx.three.2.1
  have v2 := rule_of hYx.three.2.2
  have y0 := rule_of i1
  have y1 := rule_of i2
  have y2 := rule_of i3
  obtain ⟨q0, hq0⟩ : ∃ q0, q0 = wx.drew := ⟨_, rfl⟩
  have bq0 : Below wx.heap.size wx q0 := by rw [hq0]; exact (Below.refl _ _).drew
  refine gC_start (fun w' => Below wx.heap.size wx w') [6] 7 (by kernel_rfl) rfl ?_
  refine gC_take [0, 1, 2, 3, 4] (f := 2) (l' := #[true, true, true, true, true, false, false]) (lT := [_, _, _, _, _]) (by rw [← hq0]; exact bq0) rfl (by kernel_rfl) (by kernel_rfl) (by kernel_rfl) rfl (fun _ _ d _ _ h => by cases d <;> exact h) ?_
  repeat (first | ((refine takeY_skip (a' := ?_) ?_ ?_ ?_); (rotate_left); (· (simp [Region.wanted, yielded, Go.undef]; done)); (· (simp only [List.getElem_toArray, List.getElem_cons_zero, List.getElem_cons_succ, Act.put, List.setIfInBounds_toArray, List.set_cons_zero, List.set_cons_succ]; exact rfl))) | ((refine takeY_step (v := ?_) (a' := ?_) ?_ ?_ ?_ ?_); (rotate_left 2); (· (simp [Region.wanted, yielded, Go.undef]; done)); (· (intro w' hS'; go_simp; try (with_reducible rfl))); (· (simp only [List.getElem_toArray, List.getElem_cons_zero, List.getElem_cons_succ, Act.put, List.setIfInBounds_toArray, List.set_cons_zero, List.set_cons_succ]; exact rfl))))
  refine takeY_nil ?_
  rw [← hq0]
  clear hq0
  refine gC_one (i := 5) (by kernel_rfl) rfl ?_
  · go_wp2_with (go_at_call 72; refine (iconverts_any ka na sa Aa ca k2 n2 s2 A2 c2 _ h2'.out (ra.below bq0) (r2x.below bq0)).mono ?_; rintro e q1 ⟨rfl, hbq1⟩)
    have bq1 : Below wx.heap.size wx q1 := bq0.trans (hbq1.mono bq0.size)
    have lq1 := hbq1.size
    refine mid_intro bq1 ?_
    refine gC_end [6] (lB := [_]) (by simp) (by kernel_rfl) (by kernel_rfl) rfl ?_
    have hT7 := hT7x.keep bq1
    have gz := gx.trans (bq1.mono gx.size)
    have rbz := rb.below bq1
    obtain ⟨p0, p1, p2⟩ := hT7.three
    have lp := hT7.lt
    have z0 := (Keeps.of_below bq1) _ _ j1
    have z1 := (Keeps.of_below bq1) _ _ j2
    have z2 := (Keeps.of_below bq1) _ _ j3
    go_wp2_with (go_at_call 94; refine (ishaped_any kb nb sb Ab cb 2 ne se _ h3'.out rbz).mono ?_; rintro e w9 ⟨A9, c9, rfl, hl9, r9, hb9⟩)
    go_ret
    exact ⟨rfl, gz.trans (hb9.mono gz.size)⟩
/-- a term that can be read -/
def GotK (w : World) (k n : Int) (ks : List Tm) (e : Ending) (w' : World) : Prop :=
  ∃ A c, e = .returned (.agg #[.int .i64 k, .int .i64 n, .slice A ks.length c]) ∧ ks.length ≤ 9223372036854775807 ∧ Rd w' A 0 ks ∧ Below w.heap.size w w'
set_option maxRecDepth 100000 in
set_option maxHeartbeats 4000000 in
theorem isideOf_any (k1 n1 : Int) (ka na : Int) (sa : List Tm) (ts : List Tm) (A1 : Option Addr) (c1 : Nat) (w : World) (hr : Rd w A1 0 (.mk ka na sa :: ts)) (hl : (Tm.mk ka na sa :: ts).length ≤ 9223372036854775807) :
    Calls Tryz.prog 131 #[.agg #[.int .i64 k1, .int .i64 n1, .slice A1 (ts.length + 1) c1]] w (GotK w ka na sa) := by
  obtain ⟨ba, oa, x1, x2, x3, Aa, ca, rfl, hk1, i1, i2, i3, hla, ra⟩ := hr.at_ (j := 0) (by simp)
  injection hk1 with e1 e2 e3
  subst e1 e2 e3
  simp only [Nat.zero_mul, Nat.add_zero] at i1 i2 i3
  have hb := World.block_lt_of_cell? _ _ i1
  have q : (((ts.length : Nat) : Int) + 1 == 0) = false := by simp; omega
  have q2 : (0 : Int) < ((ts.length : Nat) : Int) + 1 := by omega
  go_enter Tryz.func131, Tryz.ntmps131
  go_wp2_with fail
  refine bodyPost_ret (v := .agg #[.int .i64 ka, .int .i64 na, .slice Aa sa.length ca]) (by simp [results, Tryz.results131, go_sem]) rfl ⟨Aa, ca, rfl, hla, (ra.alloc _).alloc _, ?_⟩
  exact ((Below.refl _ _).alloc (Nat.le_refl _) _).alloc (by simp) _
end Go.Proofs.YthgmofdfecioaaaGreatDoor
