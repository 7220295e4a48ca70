/-
  Contracts of the functions that the law reaches, and plain lemmas. No condition.
-/
import Derived.Test.YthgmofdfecioaaaGreatDoorK3
import Derived.Test.YthgmofdfecioaaaGreatDoorK4
import Derived.Test.YthgmofdfecioaaaGreatDoorK8
import Derived.Test.YthgmofdfecioaaaGreatDoorK10
import Derived.Test.YthgmofdfecioaaaGreatDoorShelf
import Derived.Lib.ReplaceLaws
import Derived.Lib.AtoiErrMem
import Derived.IntWalk
import Derived.WalkSpells
import Derived.WalkLawsBesides
import Derived.Outline
namespace Go.Proofs.YthgmofdfecioaaaGreatDoor
set_option linter.unusedSimpArgs false
set_option linter.unusedVariables false
open Go.RowKit
/-- texts with commas between -/
def jn : List (List UInt8) → List UInt8
  | [] => []
  | [b] => b
  | b :: bs => b ++ 44 :: jn bs
theorem jn_two (b d : List UInt8) (bs : List (List UInt8)) : jn (b :: d :: bs) = b ++ 44 :: jn (d :: bs) := by simp [jn]
theorem jn_snoc (x : List UInt8) : ∀ {xs : List (List UInt8)}, xs ≠ [] → jn (xs ++ [x]) = jn xs ++ 44 :: x
  | [], h => absurd rfl h
  | [b], _ => by simp [jn]
  | b :: d :: bs, _ => by
    have := jn_snoc x (xs := d :: bs) (by simp)
    rw [List.cons_append, List.cons_append, jn_two, jn_two, ← List.cons_append, this]; simp
theorem ser_jn (c : UInt8) : ∀ {xs : List (List UInt8)}, xs ≠ [] → ser c xs = jn xs ++ [c]
  | [], h => absurd rfl h
  | [b], _ => by simp [ser, jn]
  | b :: d :: bs, _ => by rw [ser_more, jn_two, ser_jn c (xs := d :: bs) (by simp)]; simp
theorem jn_le (x : List UInt8) (xs : List (List UInt8)) : (jn xs).length + x.length ≤ (jn (xs ++ [x])).length := by
  by_cases h : xs = []
  · subst h; simp [jn]
  · rw [jn_snoc x h]; simp only [List.length_append, List.length_cons]; omega
theorem jn_take {xs : List (List UInt8)} {j : Nat} (hj : j < xs.length) : (jn (xs.take j)).length + xs[j].length ≤ (jn xs).length := by
  have h : ∀ m, j + 1 + m ≤ xs.length → (jn (xs.take j)).length + xs[j].length ≤ (jn (xs.take (j + 1 + m))).length := by
    intro m
    induction m with
    | zero => intro _; rw [Nat.add_zero, List.take_succ_eq_append_getElem hj]; exact jn_le _ _
    | succ m ih =>
      intro hm
      have := ih (by omega)
      rw [show j + 1 + (m + 1) = (j + 1 + m) + 1 from by omega, List.take_succ_eq_append_getElem (by omega : j + 1 + m < xs.length)]
      have := jn_le (xs[j + 1 + m]'(by omega)) (xs.take (j + 1 + m))
      omega
  have := h (xs.length - (j + 1)) (by omega)
  rw [show j + 1 + (xs.length - (j + 1)) = xs.length from by omega, List.take_length] at this
  exact this
set_option maxHeartbeats 4000000 in
set_option maxRecDepth 100000 in
theorem list_any (ts : List Tm) (xs : List (List UInt8)) (hl : xs.length = ts.length) (hl4 : ts.length ≤ 1000) (hj : (jn xs).length ≤ 100000)
    (ih : ∀ (j : Nat) (k n : Int) (ks : List Tm) (x : List UInt8), ts[j]? = some (.mk k n ks) → xs[j]? = some x → TextOk k n ks x) (A : Option Addr) (c : Nat) (w : World) (hr : Rd w A 0 ts) :
    Calls Tryz.prog 121 #[.slice A ts.length c] w fun e w' => e = .returned (.string (byt (jn xs))) ∧ Below w.heap.size w w' := by
  have hl' := hide hl
  have ih' := hide ih
  clear hl ih
  go_enter Tryz.func121, Tryz.ntmps121
  go_wp2
  go_loopw [3, 4] (fun v jv wr => ∃ j : Nat, j ≤ ts.length ∧ jv = .int .i64 j ∧ v = .string (byt (jn (xs.take j))) ∧ Below w.heap.size w wr) (fun _ jv _ => ts.length - (intOf jv).toNat)
  case atStart => exact ⟨0, Nat.zero_le _, rfl, rfl, Below.refl _ _⟩
  case round =>
    obtain ⟨j, hjl, rfl, rfl, hb⟩ := hrel
    by_cases hlt : j < ts.length
    · have hlx : j < xs.length := by have := hl'.out; omega
      obtain ⟨bb, off, k', n', ks', A', c', rfl, hk, hc1, hc2, hc3, hln, hr'⟩ := (hr.below hb).at_ hlt
      obtain ⟨x, hx⟩ : ∃ x, xs[j] = x := ⟨_, rfl⟩
      have htk := jn_take hlx
      rw [hx] at htk
      have htx := hide (show ts[j]? = some (.mk k' n' ks') by rw [List.getElem?_eq_getElem hlt, hk])
      have hxx := hide (show xs[j]? = some x by rw [List.getElem?_eq_getElem hlx, hx])
      have hnext := hide (show xs.take (j + 1) = xs.take j ++ [x] by rw [List.take_succ_eq_append_getElem hlx, hx])
      have hne := hide (show 0 < j → xs.take j ≠ [] from fun h e => by have := congrArg List.length e; rw [List.length_take] at this; simp only [List.length_nil] at this; omega)
      have hj0 := hide (show j = 0 → xs.take j = [] from fun h => by rw [h]; rfl)
      have hx1 : x.length ≤ 100000 := by omega
      have hsub := hide (fun (w : World) (hr : Rd w A' 0 ks') => ih'.out j k' n' ks' x htx.out hxx.out A' c' w hx1 hr)
      clear hk hx
      generalize xs.take j = pr at *
      generalize hJ : jn pr = J at *
      have hJ' := hide hJ
      clear hJ
      by_cases h0 : j = 0
      · have q0 : decide (0 < j) = false := decide_eq_false (by omega)
        have q1 : ¬ 0 < j := by omega
        have hJn : J = [] := by rw [← hJ'.out, hj0.out h0]; rfl
        subst hJn
        have h0' := hide h0
        clear h0
        have a2 : ∀ w, (Op.stringOp .add (byt []) (byt x)).run Tryz.prog w = .ok (.string (byt x)) w := fun w => add_strE (a := []) rfl (by simp; omega) w
        go_wp2_with (go_at_call 92; refine (hsub.out _ hr').mono ?_; rintro e w1 ⟨rfl, hb1⟩)
        go_roundw
        case rel => exact ⟨j + 1, by omega, by go_num, by rw [hnext.out, hj0.out h0'.out]; rfl, hb.trans (hb1.mono hb.size)⟩
        case measure => simp [intOf]; omega
      · have q0 : decide (0 < (j : Int)) = true := decide_eq_true (by omega)
        have a1 : ∀ w, (Op.stringOp .add (byt J) ⟨#[44]⟩).run Tryz.prog w = .ok (.string (byt (J ++ [44]))) w := fun w => add_strE (b := [44]) rfl (by simp; omega) w
        have a2 : ∀ w, (Op.stringOp .add (byt (J ++ [44])) (byt x)).run Tryz.prog w = .ok (.string (byt (J ++ 44 :: x))) w := fun w => add_strE (a := J ++ [44]) (by simp) (by simp; omega) w
        go_wp2_with (go_at_call 92; refine (hsub.out _ hr').mono ?_; rintro e w1 ⟨rfl, hb1⟩)
        go_roundw
        case rel => exact ⟨j + 1, by omega, by go_num, by rw [hnext.out, jn_snoc x (hne.out (by omega)), hJ'.out], hb.trans (hb1.mono hb.size)⟩
        case measure => simp [intOf]; omega
    · have hjl : j = ts.length := by omega
      subst hjl
      have hall := hide (show xs.take ts.length = xs from List.take_of_length_le (by have := hl'.out; omega))
      go_wp2
      go_ret
      exact ⟨by rw [hall.out]; rfl, hb⟩
set_option maxHeartbeats 4000000 in
set_option maxRecDepth 100000 in
theorem text_blk {k : Int} {m : Nat} {o : List UInt8} {c : UInt8} (h : BlkK k m o c) (ts : List Tm) (xs : List (List UInt8)) (hm : ts.length = m) (hx : xs.length = m)
    (ih : ∀ (j : Nat) (k n : Int) (ks : List Tm) (x : List UInt8), ts[j]? = some (.mk k n ks) → xs[j]? = some x → TextOk k n ks x) : TextOk k 0 ts (o ++ ser c xs) := by
  intro A cc w hl hr
  have hne : xs ≠ [] := fun e => by subst e; rcases h with ⟨_, rfl, _, _⟩ | ⟨_, rfl, _, _⟩ | ⟨_, rfl, _, _⟩ | ⟨_, rfl, _, _⟩ <;> simp at hx
  have hm4 : ts.length ≤ 4 := by rcases h with ⟨_, rfl, _, _⟩ | ⟨_, rfl, _, _⟩ | ⟨_, rfl, _, _⟩ | ⟨_, rfl, _, _⟩ <;> omega
  rw [ser_jn c hne] at hl ⊢
  have hjl : (jn xs).length ≤ 100000 := by simp only [List.length_append, List.length_cons] at hl; omega
  have hlist := hide (fun w (hr : Rd w A 0 ts) => list_any ts xs (by omega) (by omega) hjl ih A cc w hr)
  clear ih hx hne hl
  generalize jn xs = J at *
  have hm' := hide hm
  rcases h with ⟨rfl, rfl, rfl, rfl⟩ | ⟨rfl, rfl, rfl, rfl⟩ | ⟨rfl, rfl, rfl, rfl⟩ | ⟨rfl, rfl, rfl, rfl⟩
  · clear hm
    have a1 : ∀ w, (Op.stringOp .add ⟨#[60]⟩ (byt J)).run Tryz.prog w = .ok (.string (byt (60 :: J))) w := fun w => add_strE (a := [60]) rfl (by simp; omega) w
    have a2 : ∀ w, (Op.stringOp .add (byt (60 :: J)) ⟨#[62]⟩).run Tryz.prog w = .ok (.string (byt (60 :: (J ++ [62])))) w := fun w => add_strE (a := 60 :: J) (b := [62]) rfl (by simp; omega) w
    go_enter Tryz.func92, Tryz.ntmps92
    go_wp2_with (go_at_call 121; refine (hlist.out _ (hr.alloc _)).mono ?_; rintro e w1 ⟨rfl, hb1⟩)
    go_ret
    exact ⟨ret_str (by simp [byt]), ((Below.refl _ _).alloc (Nat.le_refl _) _).trans (hb1.mono (by simp))⟩
  · clear hm
    have a1 : ∀ w, (Op.stringOp .add ⟨#[123]⟩ (byt J)).run Tryz.prog w = .ok (.string (byt (123 :: J))) w := fun w => add_strE (a := [123]) rfl (by simp; omega) w
    have a2 : ∀ w, (Op.stringOp .add (byt (123 :: J)) ⟨#[125]⟩).run Tryz.prog w = .ok (.string (byt (123 :: (J ++ [125])))) w := fun w => add_strE (a := 123 :: J) (b := [125]) rfl (by simp; omega) w
    go_enter Tryz.func92, Tryz.ntmps92
    go_wp2_with (go_at_call 121; refine (hlist.out _ (hr.alloc _)).mono ?_; rintro e w1 ⟨rfl, hb1⟩)
    go_ret
    exact ⟨ret_str (by simp [byt]), ((Below.refl _ _).alloc (Nat.le_refl _) _).trans (hb1.mono (by simp))⟩
  · clear hm
    have a1 : ∀ w, (Op.stringOp .add ⟨#[124]⟩ (byt J)).run Tryz.prog w = .ok (.string (byt (124 :: J))) w := fun w => add_strE (a := [124]) rfl (by simp; omega) w
    have a2 : ∀ w, (Op.stringOp .add (byt (124 :: J)) ⟨#[124]⟩).run Tryz.prog w = .ok (.string (byt (124 :: (J ++ [124])))) w := fun w => add_strE (a := 124 :: J) (b := [124]) rfl (by simp; omega) w
    go_enter Tryz.func92, Tryz.ntmps92
    go_wp2_with (go_at_call 121; refine (hlist.out _ (hr.alloc _)).mono ?_; rintro e w1 ⟨rfl, hb1⟩)
    go_ret
    exact ⟨ret_str (by simp [byt]), ((Below.refl _ _).alloc (Nat.le_refl _) _).trans (hb1.mono (by simp))⟩
  · clear hm
    have a1 : ∀ w, (Op.stringOp .add ⟨#[64, 60]⟩ (byt J)).run Tryz.prog w = .ok (.string (byt (64 :: 60 :: J))) w := fun w => add_strE (a := [64, 60]) rfl (by simp; omega) w
    have a2 : ∀ w, (Op.stringOp .add (byt (64 :: 60 :: J)) ⟨#[62]⟩).run Tryz.prog w = .ok (.string (byt (64 :: 60 :: (J ++ [62])))) w := fun w => add_strE (a := 64 :: 60 :: J) (b := [62]) rfl (by simp; omega) w
    go_enter Tryz.func92, Tryz.ntmps92
    go_wp2_with (go_at_call 121; refine (hlist.out _ (hr.alloc _)).mono ?_; rintro e w1 ⟨rfl, hb1⟩)
    go_ret
    exact ⟨ret_str (by simp [byt]), ((Below.refl _ _).alloc (Nat.le_refl _) _).trans (hb1.mono (by simp))⟩
theorem text_any {d : Nat} {t : Tm} {b : List UInt8} (h : Tx d t b) : ∀ (k n : Int) (ks : List Tm), t = .mk k n ks → TextOk k n ks b := by
  induction h with
  | var d n c h => rintro k' n' ks' ⟨⟩; exact text_var n c h
  | sort d n c h => rintro k' n' ks' ⟨⟩; exact text_sort n c h
  | nat d => rintro k' n' ks' ⟨⟩; exact text_nat
  | zero d => rintro k' n' ks' ⟨⟩; exact text_zero
  | pre d k c t b h ht ih => rintro k' n' ks' ⟨⟩; obtain ⟨k1, n1, ks1⟩ := t; exact text_pre h (ih k1 n1 ks1 rfl)
  | rnd d k c t u x y h ht hu i1 i2 => rintro k' n' ks' ⟨⟩; obtain ⟨k1, n1, ks1⟩ := t; obtain ⟨k2, n2, ks2⟩ := u; exact text_rnd h (i1 k1 n1 ks1 rfl) (i2 k2 n2 ks2 rfl)
  | lam d t u x y ht hu i1 i2 => rintro k' n' ks' ⟨⟩; obtain ⟨k1, n1, ks1⟩ := t; obtain ⟨k2, n2, ks2⟩ := u; exact text_lam (i1 k1 n1 ks1 rfl) (i2 k2 n2 ks2 rfl)
  | blk d k m o c ts xs h hm hx ht ih => rintro k' n' ks' ⟨⟩; exact text_blk h ts xs hm hx fun j k n ks x h1 h2 => ih j (.mk k n ks) x h1 h2 k n ks rfl
open Go.RowKit
theorem validT_size' {k n : Int} {ks : List Tm} (h : validT (.mk k n ks) = true) : sizes ks ≤ 400 := by
  simp only [validT, Bool.and_eq_true, decide_eq_true_eq] at h
  have := h.2
  rw [Tm.size] at this
  omega
set_option maxHeartbeats 4000000 in
set_option maxRecDepth 100000 in
theorem format_any {t : Tm} {b : List UInt8} {d : Nat} (h : Tx d t b) (k n : Int) (ks : List Tm) (ht : t = .mk k n ks) (hv : validT t = true) (hb : b.length ≤ 100000) (A : Option Addr) (c : Nat) (w : World) (hr : Rd w A 0 ks) :
    Calls Tryz.prog 64 #[.agg #[.int .i64 k, .int .i64 n, .slice A ks.length c]] w fun e w' => e = .returned (.string (byt b)) ∧ Below w.heap.size w w' := by
  have htx := hide (text_any h k n ks ht)
  subst ht
  have hM := validT_size' hv
  have hv' := hide hv
  clear hv h
  go_enter Tryz.func64, Tryz.ntmps64
  go_wp2_with (first
    | (go_at_call 92; refine (htx.out A c _ hb ((hr.alloc _).below hb1)).mono ?_; rintro e w2 ⟨rfl, hb2⟩)
    | (go_at_call 55; refine (sTermValid_any k n ks A c _ (by omega) (hr.alloc _)).mono ?_; rw [hv'.out]; rintro e w1 ⟨rfl, hb1⟩; have hB := (Blk.new_ w 27 #[.int .i64 k, .int .i64 n, .slice A ks.length c] rfl).keep hb1; have x0 := hB.at_ (i := 0) rfl; have x1 := hB.at_ (i := 1) rfl; have x2 := hB.at_ (i := 2) rfl))
  go_ret
  exact ⟨rfl, (((Below.refl _ _).alloc (Nat.le_refl _) _).trans (hb1.mono (by simp))).trans (hb2.mono (by have := hb1.size; simp at this; omega))⟩
/-- a text that the parser reads -/
def Good (t : Tm) (b : List UInt8) : Prop := Tx 30 t b ∧ validT t = true ∧ b.length ≤ 1000
def GotPT (w : World) (k n : Int) (ks : List Tm) (e : Ending) (w' : World) : Prop :=
  ∃ A c, e = .returned (.tuple #[.agg #[.int .i64 k, .int .i64 n, .slice A ks.length c], .bool true]) ∧ ks.length ≤ 9223372036854775807 ∧ Fresh w.heap.size w' A ks ∧ Below w.heap.size w w'
set_option maxHeartbeats 4000000 in
set_option maxRecDepth 100000 in
theorem parseTerm_any {k n : Int} {ks : List Tm} {b : List UInt8} (h : Good (.mk k n ks) b) (w : World) : Calls Tryz.prog 40 #[.string (byt b)] w (GotPT w k n ks) := by
  obtain ⟨htx, hv, hb⟩ := h
  have hs : (byt b).size = b.length := by simp [byt, ByteArray.size]
  have hpar := hide (fun w => parse_any htx k n ks rfl (byt b) 0 0 30 w (by rw [hs]; omega) rfl (Has.all b) (Nd.out (by rw [hs]; omega)) (by omega) (by omega))
  have hfm := hide (fun A c w hr => format_any htx k n ks rfl hv (by omega) A c w hr)
  have q1 : ((byt b).toList == []) = false := by
    have := htx.ne
    cases b with
    | nil => exact absurd rfl this
    | cons x xs => simp [byt]
  have q2 : (byt b).toList.isEmpty = false := by
    have := htx.ne
    cases b with
    | nil => exact absurd rfl this
    | cons x xs => simp [byt]
  have q3 : ((byt b).toList == (byt b).toList) = true := by simp
  have hpos : 0 < b.length := List.length_pos_iff.2 htx.ne
  clear htx hv
  go_enter Tryz.func40, Tryz.ntmps40
  go_wp2_with (first
    | (go_at_call 64; refine (hfm.out A1 c1 _ (hf1.rd.alloc _)).mono ?_; rintro e w2 ⟨rfl, hb2⟩; replace hX := hX.keep hb2; replace hZ := (hZ.alloc _).keep hb2; have x0 := hX.at_ (i := 0) rfl; have x1 := hX.at_ (i := 1) rfl; have x2 := hX.at_ (i := 2) rfl; have d0 := hZ.at_ (i := 0) rfl; have d1 := hZ.at_ (i := 1) rfl; have d2 := hZ.at_ (i := 2) rfl; have e0 := hZ.frozen 0; have e1 := hZ.frozen 1; have e2 := hZ.frozen 2; have lx := hX.lt; have lz := hZ.lt)
    | (go_at_call 63; refine (hpar.out _).mono ?_; rintro e w1 ⟨m, A1, c1, hm, rfl, hl1, hf1, hb1⟩; rw [Nat.zero_add] at hm; subst hm; have hZ := (Blk.new_ w 27 #[.int .i64 0, .int .i64 0, .slice none 0 0] rfl).keep hb1; have g1 : Below w.heap.size w w1 := ((Below.refl _ _).alloc (Nat.le_refl _) _).trans (hb1.mono (by simp)); have s1 := g1.size; have hX := Blk.new_ w1 27 #[.int .i64 k, .int .i64 n, .slice A1 ks.length c1] rfl; have lz1 := hZ.lt))
  have hf2 := (hf1.alloc (.cells #[.int .i64 k, .int .i64 n, .slice A1 ks.length c1] 27)).below hb2
  have g2 : Below w.heap.size w w2 := (g1.alloc (by omega) _).trans (hb2.mono (by simp; omega))
  refine bodyPost_ret (v := .tuple #[.agg #[.int .i64 k, .int .i64 n, .slice A1 ks.length c1], .bool true]) (by simp [results, Tryz.results40, go_sem, d0, d1, d2]) rfl ⟨A1, c1, rfl, hl1, ?_, ((g2.setCell (by simp) _).setCell (by simp) _).setCell (by simp) _⟩
  exact (((hf2.setCell (by simp) _).setCell (by simp) _).setCell (by simp) _).mono (by simp)
/-- texts in a block -/
def strs (xs : List (List UInt8)) : Array Value := (xs.map fun x => Value.string (byt x)).toArray
theorem strs_get {xs : List (List UInt8)} {j : Nat} (h : j < xs.length) : (strs xs)[j]? = some (.string (byt xs[j])) := by simp [strs, List.getElem?_eq_getElem h]
open Go.RowKit
/-- the cell of the library's that is read holds a number -/
def GM (w : World) : Prop := ∃ m, w.cell? ⟨0, 0, none⟩ = some (.int .i64 m)
theorem GM.below {w w' : World} {B : Nat} (h : GM w) (hb : Below B w w') (hB : 0 < B) : GM w' := by obtain ⟨m, hm⟩ := h; exact ⟨m, (hb.cell (p := ⟨0, 0, none⟩) hB).trans hm⟩
theorem GM.pos {w : World} (h : GM w) : 0 < w.heap.size := by obtain ⟨m, hm⟩ := h; exact World.block_lt_of_cell? w _ hm
theorem GM.keep {w w' : World} (h : GM w) (hb : Below w.heap.size w w') : GM w' := h.below hb h.pos
theorem GM.alloc {w : World} (h : GM w) (o : Obj) : GM (w.alloc o) := h.keep ((Below.refl _ _).alloc (Nat.le_refl _) o)
theorem GM.drew {w : World} (h : GM w) : GM w.drew := h
theorem shpX_get {j : Nat} (hj : j < 16) : ∃ x, shpX[j]? = some x ∧ x.length ≤ 12 := by
  have h : ∀ x, x ∈ shpX → x.length ≤ 12 := by decide
  exact ⟨shpX[j]'hj, List.getElem?_eq_getElem hj, h _ (List.getElem_mem hj)⟩
/-- a kind's shape -/
def shp (k : Nat) : List UInt8 := (shpX[k - 1]?).getD []
theorem shp_parts {k : Nat} (hk : 3 ≤ k ∧ k ≤ 16) : Lib.splitK [46] 0 (Lib.count (shp k) [46]) (shp k) = prt k := by
  rcases prt_kinds hk with rfl | rfl | rfl | rfl | rfl | rfl | rfl | rfl | rfl | rfl | rfl | rfl | rfl | rfl <;> decide +kernel
theorem byt_list (l : List UInt8) : (byt l).data.toList = l := by simp [byt]
theorem byt_data (s : ByteArray) : byt s.data.toList = s := by simp [byt]
theorem split_shape {k : Nat} (hk : 3 ≤ k ∧ k ≤ 16) : Lib.countB (byt (shp k)) ⟨#[46]⟩ + 1 = (prt k).length ∧ ((Lib.splitB ⟨#[46]⟩ 0 (Lib.countB (byt (shp k)) ⟨#[46]⟩) (byt (shp k))).map Value.string).toArray = strs (prt k) := by
  have h1 : Lib.countB (byt (shp k)) ⟨#[46]⟩ = Lib.count (shp k) [46] := by show Lib.count _ _ = _; rw [byt_list]
  have h2 := Lib.splitB_data ⟨#[46]⟩ 0 (Lib.countB (byt (shp k)) ⟨#[46]⟩) (byt (shp k))
  rw [byt_list, show (⟨#[46]⟩ : ByteArray).data.toList = [46] from rfl, h1, shp_parts hk] at h2
  rw [h1]
  refine ⟨?_, ?_⟩
  · rcases prt_kinds hk with rfl | rfl | rfl | rfl | rfl | rfl | rfl | rfl | rfl | rfl | rfl | rfl | rfl | rfl <;> decide +kernel
  · unfold strs
    rw [← h2, List.map_map]
    refine congrArg _ (List.map_congr_left fun x _ => ?_)
    simp only [Function.comp, byt_data]
theorem split_any {k : Nat} (hk : 3 ≤ k ∧ k ≤ 16) (w : World) (hm : GM w) : Calls Tryz.prog 114 #[.string (byt (shp k)), .string ⟨#[46]⟩] w fun e w' =>
    e = .returned (.slice (some ⟨w.heap.size, 0, none⟩) (prt k).length (prt k).length) ∧ Blk w' w.heap.size (strs (prt k)) ∧ Below w.heap.size w w' := by
  obtain ⟨m, hm⟩ := hm
  obtain ⟨h1, h2⟩ := split_shape hk
  refine (Tryz.strings_Split (byt (shp k)) ⟨#[46]⟩ m w (by
    obtain ⟨x, h3, h4⟩ := shpX_get (j := k - 1) (by omega)
    simp only [shp, h3, Option.getD_some, byt, ByteArray.size, List.size_toArray]; omega) hm (by decide)).mono ?_
  rintro e w' ⟨rfl, rfl⟩
  rw [h1, h2]
  exact ⟨rfl, Blk.new _ _ _, (Below.refl _ _).alloc (Nat.le_refl _) _⟩
theorem cut_any (p l : List UInt8) (w : World) : Calls Tryz.prog 116 #[.string (byt (p ++ l)), .string (byt p)] w fun e w' => e = .returned (.tuple #[.string (byt l), .bool true]) ∧ w = w' := by
  refine (Tryz.strings_CutPrefix (byt (p ++ l)) (byt p) w).mono ?_
  rintro e w' ⟨rfl, rfl⟩
  have h1 : Lib.hasPrefix (p ++ l) p = true := by simp [Lib.hasPrefix]
  have h2 : Lib.trimPrefix (p ++ l) p = l := by simp [Lib.trimPrefix, h1]
  rw [byt_list, byt_list, h1, h2]
  exact ⟨rfl, rfl⟩
theorem digit_of {n : Int} {c : UInt8} (h : 0 ≤ n ∧ n ≤ 9 ∧ (c.toNat : Int) = 48 + n) : ∃ i : Nat, n = i ∧ i ≤ 9 ∧ c = UInt8.ofNat (48 + i) := by
  obtain ⟨h1, h2, h3⟩ := h
  obtain ⟨i, rfl⟩ := Int.eq_ofNat_of_zero_le h1
  refine ⟨i, rfl, by omega, ?_⟩
  have : c.toNat = 48 + i := by omega
  rw [← this]; simp
theorem itoa_any (n : Int) (c : UInt8) (h : 0 ≤ n ∧ n ≤ 9 ∧ (c.toNat : Int) = 48 + n) (w : World) : Calls Tryz.prog 117 #[.int .i64 n] w fun e w' => e = .returned (.string (byt [c])) ∧ w = w' := by
  obtain ⟨i, rfl, hi, rfl⟩ := digit_of h
  refine (Tryz.strconv_Itoa_small i (by omega) w).mono ?_
  rintro e w' ⟨rfl, rfl⟩
  refine ⟨?_, rfl⟩
  rw [Lib.decDigits, dif_pos (by omega)]
  rfl
theorem atoi_any (n : Int) (c : UInt8) (h : 0 ≤ n ∧ n ≤ 9 ∧ (c.toNat : Int) = 48 + n) (s : ByteArray) (hs : s = byt [c]) (w : World) : Calls Tryz.prog 145 #[.string s] w fun e w' => e = .returned (.tuple #[.int .i64 n, .nilIface]) ∧ Below w.heap.size w w' := by
  subst hs
  obtain ⟨i, rfl, hi, rfl⟩ := digit_of h
  have hat : Lib.atoi (byt [UInt8.ofNat (48 + i)]).data.toList = some (i : Int) := by
    rw [byt_list]
    have : ∀ j : Fin 10, Lib.atoi [UInt8.ofNat (48 + j.val)] = some (j.val : Int) := by decide +kernel
    exact this ⟨i, by omega⟩
  refine (Tryz.strconv_Atoi _ i (by simp [byt, ByteArray.size]) hat w).mono ?_
  rintro e w' ⟨rfl, t, rfl⟩
  exact ⟨rfl, Lib.bytesWorld_below w 5 t⟩
open Go.RowKit
set_option maxRecDepth 100000 in
theorem shapes_any (w : World) : Calls Tryz.prog 115 #[] w fun e w' => e = .returned (.slice (some ⟨w.heap.size, 0, none⟩) 16 16) ∧ Blk w' w.heap.size (strs shpX) ∧ Below w.heap.size w w' := by
  go_enter Tryz.func115, Tryz.ntmps115
  go_wp2
  go_ret
  exact ⟨rfl, Blk.new_ w 9 (strs shpX) rfl, (Below.refl _ _).alloc (Nat.le_refl _) _⟩
/-- the first signs of the kinds -/
def sgn : List Nat := [35, 42, 40, 91, 40, 78, 48, 43, 60, 123, 33, 64, 40, 124, 94, 95]
theorem byt_head {c : UInt8} {l : List UInt8} {x : List UInt8} (hx : x = c :: l) : ∃ h : 0 < (byt x).size, ((byt x)[0]'h).toNat = c.toNat := by
  subst hx
  exact ⟨by simp [byt, ByteArray.size], rfl⟩
theorem byt_ne {c : UInt8} {l : List UInt8} : ((byt (c :: l)).toList == []) = false ∧ (byt (c :: l)).toList.isEmpty = false := by simp [byt]
theorem sgn_get {j : Nat} (hj : j < 16) : ∃ x z, shpX[j]? = some x ∧ sgn[j]? = some z ∧ z < 256 ∧ ∃ h : 0 < (byt x).size, ((byt x)[0]'h).toNat = z := by
  have h : ∀ i : Fin 16, (shpX[i.val]'i.isLt).head?.map (·.toNat) = some (sgn[i.val]'i.isLt) := by decide +kernel
  have h2 := h ⟨j, hj⟩
  obtain ⟨x, hx⟩ : ∃ x, shpX[j]? = some x := ⟨_, List.getElem?_eq_getElem (show j < shpX.length from hj)⟩
  obtain ⟨z, hz⟩ : ∃ z, sgn[j]? = some z := ⟨_, List.getElem?_eq_getElem (show j < sgn.length from hj)⟩
  obtain ⟨h3, h4⟩ := List.getElem?_eq_some_iff.1 hx
  obtain ⟨h5, h6⟩ := List.getElem?_eq_some_iff.1 hz
  have h7 : x.head?.map (·.toNat) = some z := by rw [← h4, ← h6]; exact h2
  refine ⟨x, z, hx, hz, ?_, ?_⟩
  · have : ∀ z, z ∈ sgn → z < 256 := by decide
    rw [← h6]; exact this _ (List.getElem_mem h5)
  · cases x with
    | nil => simp at h7
    | cons a b =>
      simp only [List.head?_cons, Option.map_some, Option.some.injEq] at h7
      rw [← h7]
      exact byt_head rfl
set_option maxRecDepth 100000 in
set_option maxHeartbeats 2000000 in
theorem kindAt_any (c : UInt8) (l : List UInt8) (s : ByteArray) (hsl : s = byt (c :: l)) (z k : Nat) (hs2 : s.size ≤ 1000000) (hcz : c.toNat = z) (hk : k < 16) (h1 : sgn[k]? = some z) (h2 : ∀ j y, j < k → sgn[j]? = some y → y ≠ z) (w : World) :
    Calls Tryz.prog 112 #[.string s] w fun e w' => e = .returned (.int .i64 ((k : Int) + 1)) ∧ Below w.heap.size w w' := by
  obtain ⟨q1, q2⟩ := byt_ne (c := c) (l := l)
  obtain ⟨hs, hz⟩ := byt_head (c := c) (l := l) rfl
  rw [← hsl] at q1 q2
  rw [hcz] at hz
  replace hz : ∃ hs : 0 < s.size, (s[0]'hs).toNat = z := by subst hsl; exact ⟨hs, hz⟩
  clear hs
  obtain ⟨hs, hz⟩ := hz
  clear hsl hcz
  go_enter Tryz.func112, Tryz.ntmps112
  go_wp2_with (go_at_call 115; refine (shapes_any _).mono ?_; rintro e w1 ⟨rfl, hB, hb1⟩)
  go_loopw [9] (fun i wr => ∃ j : Nat, j ≤ k ∧ i = .int .i64 j ∧ Below w.heap.size w wr ∧ Blk wr w.heap.size (strs shpX)) (fun i _ => 16 - (intOf i).toNat)
  case atStart => exact ⟨0, Nat.zero_le _, rfl, hb1, hB⟩
  case round =>
    obtain ⟨j, hj, rfl, hb, hBr⟩ := hrel
    obtain ⟨x, y, hx, hy, hy2, hxs, hxz⟩ := sgn_get (j := j) (by omega)
    obtain ⟨hjl, hxe⟩ := List.getElem?_eq_some_iff.1 hx
    have hc := hBr.at_ (strs_get hjl)
    rw [hxe] at hc
    have hxs2 : (byt x).size ≤ 100 := by
      obtain ⟨x', h3, h4⟩ := shpX_get (j := j) (by omega)
      rw [hx] at h3; injection h3 with h3; subst h3
      simp only [byt, ByteArray.size, List.size_toArray]; omega
    have hj16 : (j : Int) < 16 := by omega
    generalize hsx : byt x = sx at hc hxs hxz hxs2
    clear hsx hxe hx
    go_wp2_with fail
    refine wp_region_class (fun w' => Below wr.heap.size wr w') (by kernel_rfl) (by kernel_rfl) (Below.refl _ _).drew ?_
    repeat (first | ((refine quiet_skip (a' := ?_) ?_ ?_ ?_); (rotate_left); (· (simp [Region.wanted, yielded, Go.undef]; done)); (· (simp only [Act.put, List.setIfInBounds_toArray, List.set_cons_zero, List.set_cons_succ]; exact rfl))) | ((refine quiet_one (v := ?_) (a' := ?_) ?_ ?_ ?_ ?_); (rotate_left 2); (· (simp [Region.wanted, yielded, Go.undef]; done)); (· (intro w' hS'; go_simp; try (with_reducible rfl))); (· (simp only [Act.put, List.setIfInBounds_toArray, List.set_cons_zero, List.set_cons_succ]; exact rfl))))
    refine quiet_nil ?_
    intro w2 hb2
    have s2 := hb2.size
    have hbw : Below w.heap.size w w2 := hb.trans (hb2.mono hb.size)
    by_cases hjk : j = k
    · subst hjk
      rw [h1] at hy; injection hy with hy; subst hy
      go_wp2_with fail
      go_ret
      exact ⟨ret_int (by omega), hbw⟩
    · have hyz := h2 j y (by omega) hy
      have q3 : ((y : Int) == (z : Int)) = false := beq_eq_false_iff_ne.2 (by omega)
      go_wp2_with fail
      go_roundw
      case rel => exact ⟨j + 1, by omega, by go_num, hbw, hBr.keep hb2⟩
      case measure => simp [intOf]; omega
theorem sgn_first {k : Nat} (hk : 1 ≤ k ∧ k ≤ 16) : ∃ z, sgn[kind0 k - 1]? = some z ∧ (∀ j y, j < kind0 k - 1 → sgn[j]? = some y → y ≠ z) ∧ ((shp k).head?.map (·.toNat)) = some z ∧ z < 256 ∧ (z = 40 ↔ (k = 3 ∨ k = 5 ∨ k = 13)) := by
  have h : ∀ i : Fin 16, sgn[kind0 (i.val + 1) - 1]? = some ((sgn[kind0 (i.val + 1) - 1]?).getD 0) ∧ (∀ j : Fin 16, j.val < kind0 (i.val + 1) - 1 → sgn[j.val]? ≠ some ((sgn[kind0 (i.val + 1) - 1]?).getD 0)) ∧
      ((shp (i.val + 1)).head?.map (·.toNat)) = some ((sgn[kind0 (i.val + 1) - 1]?).getD 0) ∧ ((sgn[kind0 (i.val + 1) - 1]?).getD 0) < 256 ∧ (((sgn[kind0 (i.val + 1) - 1]?).getD 0) = 40 ↔ (i.val + 1 = 3 ∨ i.val + 1 = 5 ∨ i.val + 1 = 13)) := by decide +kernel
  obtain ⟨i, rfl⟩ : ∃ i, k = i + 1 := ⟨k - 1, by omega⟩
  obtain ⟨h1, h2, h3⟩ := h ⟨i, by omega⟩
  refine ⟨_, h1, fun j y hj hy e => ?_, h3⟩
  obtain ⟨hl, _⟩ := List.getElem?_eq_some_iff.1 hy
  exact h2 ⟨j, hl⟩ hj (e ▸ hy)
/-- a text's first sign tells its kind *-/
theorem kindAt_of {k : Nat} (hk : 1 ≤ k ∧ k ≤ 16) {c : UInt8} {x l : List UInt8} (hx : shp k = c :: x) (hl : l.length ≤ 100000) (w : World) :
    Calls Tryz.prog 112 #[.string (byt (c :: l))] w fun e w' => e = .returned (.int .i64 (kind0 k : Nat)) ∧ Below w.heap.size w w' := by
  obtain ⟨z, h1, h2, h3, h4, h5⟩ := sgn_first hk
  rw [hx] at h3
  simp only [List.head?_cons, Option.map_some, Option.some.injEq] at h3
  have hk0 : 1 ≤ kind0 k ∧ kind0 k ≤ 16 := by unfold kind0; split <;> omega
  have := kindAt_any c l _ rfl z (kind0 k - 1) (by simp [byt, ByteArray.size]; omega) h3 (by omega) h1 h2 w
  rwa [show ((kind0 k - 1 : Nat) : Int) + 1 = ((kind0 k : Nat) : Int) by omega] at this
set_option maxRecDepth 100000 in
set_option maxHeartbeats 2000000 in
theorem kindAt_nil (w : World) : Calls Tryz.prog 112 #[.string ⟨#[]⟩] w fun e w' => e = .returned (.int .i64 (-1)) ∧ Below w.heap.size w w' := by
  go_enter Tryz.func112, Tryz.ntmps112
  go_wp2
  go_ret
  exact ⟨rfl, Below.refl _ _⟩
theorem byt_take1 (c : UInt8) (l : List UInt8) : (byt (c :: l)).extract 0 1 = byt [c] := by
  refine ByteArray.ext ?_
  rw [ByteArray.data_extract]
  exact Array.ext' (by simp [byt])
theorem byt_drop1 (c : UInt8) (l : List UInt8) : (byt (c :: l)).extract 1 (byt (c :: l)).size = byt l := by
  refine ByteArray.ext ?_
  rw [ByteArray.data_extract]
  exact Array.ext' (by simp [byt, ByteArray.size])
/-- a text begins with no digit -/
def NdL : List UInt8 → Prop | [] => True | c :: _ => c.toNat < 48 ∨ 57 < c.toNat
set_option maxRecDepth 100000 in
set_option maxHeartbeats 4000000 in
theorem readNumber_any (n : Int) (c : UInt8) (h : 0 ≤ n ∧ n ≤ 9 ∧ (c.toNat : Int) = 48 + n) (rest : List UInt8) (hr : NdL rest) (hl : rest.length ≤ 100000) (w : World) :
    Calls Tryz.prog 113 #[.string (byt (c :: rest))] w fun e w' => e = .returned (.tuple #[.int .i64 n, .string (byt rest)]) ∧ Below w.heap.size w w' := by
  obtain ⟨s, hs⟩ : ∃ s, byt (c :: rest) = s := ⟨_, rfl⟩
  have hat := hide (atoi_any n c h (s.extract 0 1) (by subst hs; exact byt_take1 c rest))
  have hsz : s.size = rest.length + 1 := by subst hs; simp [byt, ByteArray.size]
  obtain ⟨hi, hc⟩ : ∃ hi : 0 < s.size, (s[0]'hi).toNat = c.toNat := by subst hs; exact byt_head rfl
  have hnd : ∀ hi : 1 < s.size, (s[1]'hi).toNat < 48 ∨ 57 < (s[1]'hi).toNat := by
    subst hs
    intro hi
    cases rest with
    | nil => simp [byt, ByteArray.size] at hi
    | cons a b => exact hr
  have hrest : s.extract 1 (rest.length + 1) = byt rest := by rw [← hsz]; subst hs; exact byt_drop1 c rest
  have hsg : (1 : Int) ≤ (rest.length : Int) + 1 := by omega
  have hsl : s.size ≤ 1000000 := by omega
  rw [hs]
  clear hs hr
  generalize hz : c.toNat = z at hc h
  have hn' := hide h
  have d1 : decide ((48 : Int) ≤ (z : Int)) = true := decide_eq_true (by omega)
  have d2 : decide ((z : Int) ≤ 57) = true := decide_eq_true (by omega)
  clear h hz
  go_enter Tryz.func113, Tryz.ntmps113
  go_wp2
  go_loopw [4] (fun v wr => ∃ k : Nat, k ≤ 1 ∧ v = .int .i64 (k : Nat) ∧ wr = w) (fun v _ => 1 - (intOf v).toNat)
  case atStart => exact ⟨0, by omega, rfl, by first | trivial | rfl⟩
  case round =>
    obtain ⟨k, hk, rfl, rfl⟩ := hrel
    by_cases hk0 : k = 0
    · subst hk0
      go_wp2
      go_roundw
      case rel => exact ⟨1, by omega, rfl, by first | trivial | rfl⟩
      case measure => simp [intOf]
    · obtain rfl : k = 1 := by omega
      clear hk hk0
      by_cases hl1 : 1 < s.size
      · have hnd1 := hnd hl1
        obtain ⟨c2, hc2⟩ : ∃ c2, (s[1]'hl1).toNat = c2 := ⟨_, rfl⟩
        rw [hc2] at hnd1
        by_cases h5 : c2 < 48
        · have e1 : decide ((48 : Int) ≤ (c2 : Int)) = false := decide_eq_false (by omega)
          go_wp2_with (go_at_call 145; refine (hat.out _).mono ?_; rintro e w1 ⟨rfl, hb1⟩)
          refine wp_region_class (fun w' => Below w1.heap.size w1 w') (by kernel_rfl) (by kernel_rfl) (Below.refl _ _).drew ?_
          repeat (first | ((refine quiet_skip (a' := ?_) ?_ ?_ ?_); (rotate_left); (· (simp [Region.wanted, yielded, Go.undef]; done)); (· (simp only [Act.put, List.setIfInBounds_toArray, List.set_cons_zero, List.set_cons_succ]; exact rfl))) | ((refine quiet_one (v := ?_) (a' := ?_) ?_ ?_ ?_ ?_); (rotate_left 2); (· (simp [Region.wanted, yielded, Go.undef]; done)); (· (intro w' hS'; go_simp; try (with_reducible rfl))); (· (simp only [Act.put, List.setIfInBounds_toArray, List.set_cons_zero, List.set_cons_succ]; exact rfl))))
          refine quiet_nil ?_
          intro w2 hb2
          go_wp2_with fail
          go_ret2
          exact ⟨by rw [← hrest]; rfl, hb1.trans (hb2.mono hb1.size)⟩
        · have e1 : decide ((48 : Int) ≤ (c2 : Int)) = true := decide_eq_true (by omega)
          have e2 : decide ((c2 : Int) ≤ 57) = false := decide_eq_false (by omega)
          go_wp2_with (go_at_call 145; refine (hat.out _).mono ?_; rintro e w1 ⟨rfl, hb1⟩)
          refine wp_region_class (fun w' => Below w1.heap.size w1 w') (by kernel_rfl) (by kernel_rfl) (Below.refl _ _).drew ?_
          repeat (first | ((refine quiet_skip (a' := ?_) ?_ ?_ ?_); (rotate_left); (· (simp [Region.wanted, yielded, Go.undef]; done)); (· (simp only [Act.put, List.setIfInBounds_toArray, List.set_cons_zero, List.set_cons_succ]; exact rfl))) | ((refine quiet_one (v := ?_) (a' := ?_) ?_ ?_ ?_ ?_); (rotate_left 2); (· (simp [Region.wanted, yielded, Go.undef]; done)); (· (intro w' hS'; go_simp; try (with_reducible rfl))); (· (simp only [Act.put, List.setIfInBounds_toArray, List.set_cons_zero, List.set_cons_succ]; exact rfl))))
          refine quiet_nil ?_
          intro w2 hb2
          go_wp2_with fail
          go_ret2
          exact ⟨by rw [← hrest]; rfl, hb1.trans (hb2.mono hb1.size)⟩
      · go_wp2_with (go_at_call 145; refine (hat.out _).mono ?_; rintro e w1 ⟨rfl, hb1⟩)
        refine wp_region_class (fun w' => Below w1.heap.size w1 w') (by kernel_rfl) (by kernel_rfl) (Below.refl _ _).drew ?_
        repeat (first | ((refine quiet_skip (a' := ?_) ?_ ?_ ?_); (rotate_left); (· (simp [Region.wanted, yielded, Go.undef]; done)); (· (simp only [Act.put, List.setIfInBounds_toArray, List.set_cons_zero, List.set_cons_succ]; exact rfl))) | ((refine quiet_one (v := ?_) (a' := ?_) ?_ ?_ ?_ ?_); (rotate_left 2); (· (simp [Region.wanted, yielded, Go.undef]; done)); (· (intro w' hS'; go_simp; try (with_reducible rfl))); (· (simp only [Act.put, List.setIfInBounds_toArray, List.set_cons_zero, List.set_cons_succ]; exact rfl))))
        refine quiet_nil ?_
        intro w2 hb2
        go_wp2_with fail
        go_ret2
        exact ⟨by rw [← hrest]; rfl, hb1.trans (hb2.mono hb1.size)⟩
end Go.Proofs.YthgmofdfecioaaaGreatDoor
