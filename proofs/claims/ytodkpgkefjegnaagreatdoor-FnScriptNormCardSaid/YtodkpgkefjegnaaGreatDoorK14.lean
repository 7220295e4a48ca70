/-
  Contracts of the functions that the law reaches, and plain lemmas. No condition.
-/
import Derived.Test.YtodkpgkefjegnaaGreatDoorK1
import Derived.Test.YtodkpgkefjegnaaGreatDoorK2
import Derived.Test.YtodkpgkefjegnaaGreatDoorK3
import Derived.Test.YtodkpgkefjegnaaGreatDoorK11
import Derived.Test.YtodkpgkefjegnaaGreatDoorK12
import Derived.Test.YtodkpgkefjegnaaGreatDoorK13
import Derived.WalkSpells
import Derived.WalkLawsBesides
namespace Go.Proofs.YtodkpgkefjegnaaGreatDoor
set_option linter.unusedSimpArgs false
set_option linter.unusedVariables false
open Go.RowKit
/-- texts with commas between -/
def jn : List (List UInt8) → List UInt8
  | [] => []
  | [b] => b
  | b :: bs => b ++ 44 :: jn bs
theorem jn_two (b d : List UInt8) (bs : List (List UInt8)) : jn (b :: d :: bs) = b ++ 44 :: jn (d :: bs) := by simp [jn]
theorem jn_snoc (x : List UInt8) : ∀ {xs : List (List UInt8)}, xs ≠ [] → jn (xs ++ [x]) = jn xs ++ 44 :: x
  | [], h => absurd rfl h
  | [b], _ => by simp [jn]
  | b :: d :: bs, _ => by
    have := jn_snoc x (xs := d :: bs) (by simp)
    rw [List.cons_append, List.cons_append, jn_two, jn_two, ← List.cons_append, this]; simp
theorem ser_jn (c : UInt8) : ∀ {xs : List (List UInt8)}, xs ≠ [] → ser c xs = jn xs ++ [c]
  | [], h => absurd rfl h
  | [b], _ => by simp [ser, jn]
  | b :: d :: bs, _ => by rw [ser_more, jn_two, ser_jn c (xs := d :: bs) (by simp)]; simp
theorem jn_le (x : List UInt8) (xs : List (List UInt8)) : (jn xs).length + x.length ≤ (jn (xs ++ [x])).length := by
  by_cases h : xs = []
  · subst h; simp [jn]
  · rw [jn_snoc x h]; simp only [List.length_append, List.length_cons]; omega
theorem jn_take {xs : List (List UInt8)} {j : Nat} (hj : j < xs.length) : (jn (xs.take j)).length + xs[j].length ≤ (jn xs).length := by
  have h : ∀ m, j + 1 + m ≤ xs.length → (jn (xs.take j)).length + xs[j].length ≤ (jn (xs.take (j + 1 + m))).length := by
    intro m
    induction m with
    | zero => intro _; rw [Nat.add_zero, List.take_succ_eq_append_getElem hj]; exact jn_le _ _
    | succ m ih =>
      intro hm
      have := ih (by omega)
      rw [show j + 1 + (m + 1) = (j + 1 + m) + 1 from by omega, List.take_succ_eq_append_getElem (by omega : j + 1 + m < xs.length)]
      have := jn_le (xs[j + 1 + m]'(by omega)) (xs.take (j + 1 + m))
      omega
  have := h (xs.length - (j + 1)) (by omega)
  rw [show j + 1 + (xs.length - (j + 1)) = xs.length from by omega, List.take_length] at this
  exact this
set_option maxHeartbeats 4000000 in
set_option maxRecDepth 100000 in
theorem list_any (ts : List Tm) (xs : List (List UInt8)) (hl : xs.length = ts.length) (hl4 : ts.length ≤ 1000) (hj : (jn xs).length ≤ 100000)
    (ih : ∀ (j : Nat) (k n : Int) (ks : List Tm) (x : List UInt8), ts[j]? = some (.mk k n ks) → xs[j]? = some x → TextOk k n ks x) (A : Option Addr) (c : Nat) (w : World) (hr : Rd w A 0 ts) :
    Calls Tryz.prog 136 #[.slice A ts.length c] w fun e w' => e = .returned (.string (byt (jn xs))) ∧ Below w.heap.size w w' := by
  have hl' := hide hl
  have ih' := hide ih
  clear hl ih
  go_enter Tryz.func136, Tryz.ntmps136
  go_wp2
  go_loopw [3, 4] (fun v jv wr => ∃ j : Nat, j ≤ ts.length ∧ jv = .int .i64 j ∧ v = .string (byt (jn (xs.take j))) ∧ Below w.heap.size w wr) (fun _ jv _ => ts.length - (intOf jv).toNat)
  case atStart => exact ⟨0, Nat.zero_le _, rfl, rfl, Below.refl _ _⟩
  case round =>
    obtain ⟨j, hjl, rfl, rfl, hb⟩ := hrel
    by_cases hlt : j < ts.length
    · have hlx : j < xs.length := by have := hl'.out; omega
      obtain ⟨bb, off, k', n', ks', A', c', rfl, hk, hc1, hc2, hc3, hln, hr'⟩ := (hr.below hb).at_ hlt
      obtain ⟨x, hx⟩ : ∃ x, xs[j] = x := ⟨_, rfl⟩
      have htk := jn_take hlx
      rw [hx] at htk
      have htx := hide (show ts[j]? = some (.mk k' n' ks') by rw [List.getElem?_eq_getElem hlt, hk])
      have hxx := hide (show xs[j]? = some x by rw [List.getElem?_eq_getElem hlx, hx])
      have hnext := hide (show xs.take (j + 1) = xs.take j ++ [x] by rw [List.take_succ_eq_append_getElem hlx, hx])
      have hne := hide (show 0 < j → xs.take j ≠ [] from fun h e => by have := congrArg List.length e; rw [List.length_take] at this; simp only [List.length_nil] at this; omega)
      have hj0 := hide (show j = 0 → xs.take j = [] from fun h => by rw [h]; rfl)
      have hx1 : x.length ≤ 100000 := by omega
      have hsub := hide (fun (w : World) (hr : Rd w A' 0 ks') => ih'.out j k' n' ks' x htx.out hxx.out A' c' w hx1 hr)
      clear hk hx
      generalize xs.take j = pr at *
      generalize hJ : jn pr = J at *
      have hJ' := hide hJ
      clear hJ
      by_cases h0 : j = 0
      · have q0 : decide (0 < j) = false := decide_eq_false (by omega)
        have q1 : ¬ 0 < j := by omega
        have hJn : J = [] := by rw [← hJ'.out, hj0.out h0]; rfl
        subst hJn
        have h0' := hide h0
        clear h0
        have a2 : ∀ w, (Op.stringOp .add (byt []) (byt x)).run Tryz.prog w = .ok (.string (byt x)) w := fun w => add_strE (a := []) rfl (by simp; omega) w
        go_wp2_with (go_at_call 97; refine (hsub.out _ hr').mono ?_; rintro e w1 ⟨rfl, hb1⟩)
        go_roundw
        case rel => exact ⟨j + 1, by omega, by go_num, by rw [hnext.out, hj0.out h0'.out]; rfl, hb.trans (hb1.mono hb.size)⟩
        case measure => simp [intOf]; omega
      · have q0 : decide (0 < (j : Int)) = true := decide_eq_true (by omega)
        have a1 : ∀ w, (Op.stringOp .add (byt J) ⟨#[44]⟩).run Tryz.prog w = .ok (.string (byt (J ++ [44]))) w := fun w => add_strE (b := [44]) rfl (by simp; omega) w
        have a2 : ∀ w, (Op.stringOp .add (byt (J ++ [44])) (byt x)).run Tryz.prog w = .ok (.string (byt (J ++ 44 :: x))) w := fun w => add_strE (a := J ++ [44]) (by simp) (by simp; omega) w
        go_wp2_with (go_at_call 97; refine (hsub.out _ hr').mono ?_; rintro e w1 ⟨rfl, hb1⟩)
        go_roundw
        case rel => exact ⟨j + 1, by omega, by go_num, by rw [hnext.out, jn_snoc x (hne.out (by omega)), hJ'.out], hb.trans (hb1.mono hb.size)⟩
        case measure => simp [intOf]; omega
    · have hjl : j = ts.length := by omega
      subst hjl
      have hall := hide (show xs.take ts.length = xs from List.take_of_length_le (by have := hl'.out; omega))
      go_wp2
      go_ret
      exact ⟨by rw [hall.out]; rfl, hb⟩
set_option maxHeartbeats 4000000 in
set_option maxRecDepth 100000 in
theorem text_blk {k : Int} {m : Nat} {o : List UInt8} {c : UInt8} (h : BlkK k m o c) (ts : List Tm) (xs : List (List UInt8)) (hm : ts.length = m) (hx : xs.length = m)
    (ih : ∀ (j : Nat) (k n : Int) (ks : List Tm) (x : List UInt8), ts[j]? = some (.mk k n ks) → xs[j]? = some x → TextOk k n ks x) : TextOk k 0 ts (o ++ ser c xs) := by
  intro A cc w hl hr
  have hne : xs ≠ [] := fun e => by subst e; rcases h with ⟨_, rfl, _, _⟩ | ⟨_, rfl, _, _⟩ | ⟨_, rfl, _, _⟩ | ⟨_, rfl, _, _⟩ <;> simp at hx
  have hm4 : ts.length ≤ 4 := by rcases h with ⟨_, rfl, _, _⟩ | ⟨_, rfl, _, _⟩ | ⟨_, rfl, _, _⟩ | ⟨_, rfl, _, _⟩ <;> omega
  rw [ser_jn c hne] at hl ⊢
  have hjl : (jn xs).length ≤ 100000 := by simp only [List.length_append, List.length_cons] at hl; omega
  have hlist := hide (fun w (hr : Rd w A 0 ts) => list_any ts xs (by omega) (by omega) hjl ih A cc w hr)
  clear ih hx hne hl
  generalize jn xs = J at *
  have hm' := hide hm
  rcases h with ⟨rfl, rfl, rfl, rfl⟩ | ⟨rfl, rfl, rfl, rfl⟩ | ⟨rfl, rfl, rfl, rfl⟩ | ⟨rfl, rfl, rfl, rfl⟩
  · clear hm
    have a1 : ∀ w, (Op.stringOp .add ⟨#[60]⟩ (byt J)).run Tryz.prog w = .ok (.string (byt (60 :: J))) w := fun w => add_strE (a := [60]) rfl (by simp; omega) w
    have a2 : ∀ w, (Op.stringOp .add (byt (60 :: J)) ⟨#[62]⟩).run Tryz.prog w = .ok (.string (byt (60 :: (J ++ [62])))) w := fun w => add_strE (a := 60 :: J) (b := [62]) rfl (by simp; omega) w
    go_enter Tryz.func97, Tryz.ntmps97
    go_wp2_with (go_at_call 136; refine (hlist.out _ (hr.alloc _)).mono ?_; rintro e w1 ⟨rfl, hb1⟩)
    go_ret
    exact ⟨ret_str (by simp [byt]), ((Below.refl _ _).alloc (Nat.le_refl _) _).trans (hb1.mono (by simp))⟩
  · clear hm
    have a1 : ∀ w, (Op.stringOp .add ⟨#[123]⟩ (byt J)).run Tryz.prog w = .ok (.string (byt (123 :: J))) w := fun w => add_strE (a := [123]) rfl (by simp; omega) w
    have a2 : ∀ w, (Op.stringOp .add (byt (123 :: J)) ⟨#[125]⟩).run Tryz.prog w = .ok (.string (byt (123 :: (J ++ [125])))) w := fun w => add_strE (a := 123 :: J) (b := [125]) rfl (by simp; omega) w
    go_enter Tryz.func97, Tryz.ntmps97
    go_wp2_with (go_at_call 136; refine (hlist.out _ (hr.alloc _)).mono ?_; rintro e w1 ⟨rfl, hb1⟩)
    go_ret
    exact ⟨ret_str (by simp [byt]), ((Below.refl _ _).alloc (Nat.le_refl _) _).trans (hb1.mono (by simp))⟩
  · clear hm
    have a1 : ∀ w, (Op.stringOp .add ⟨#[124]⟩ (byt J)).run Tryz.prog w = .ok (.string (byt (124 :: J))) w := fun w => add_strE (a := [124]) rfl (by simp; omega) w
    have a2 : ∀ w, (Op.stringOp .add (byt (124 :: J)) ⟨#[124]⟩).run Tryz.prog w = .ok (.string (byt (124 :: (J ++ [124])))) w := fun w => add_strE (a := 124 :: J) (b := [124]) rfl (by simp; omega) w
    go_enter Tryz.func97, Tryz.ntmps97
    go_wp2_with (go_at_call 136; refine (hlist.out _ (hr.alloc _)).mono ?_; rintro e w1 ⟨rfl, hb1⟩)
    go_ret
    exact ⟨ret_str (by simp [byt]), ((Below.refl _ _).alloc (Nat.le_refl _) _).trans (hb1.mono (by simp))⟩
  · clear hm
    have a1 : ∀ w, (Op.stringOp .add ⟨#[64, 60]⟩ (byt J)).run Tryz.prog w = .ok (.string (byt (64 :: 60 :: J))) w := fun w => add_strE (a := [64, 60]) rfl (by simp; omega) w
    have a2 : ∀ w, (Op.stringOp .add (byt (64 :: 60 :: J)) ⟨#[62]⟩).run Tryz.prog w = .ok (.string (byt (64 :: 60 :: (J ++ [62])))) w := fun w => add_strE (a := 64 :: 60 :: J) (b := [62]) rfl (by simp; omega) w
    go_enter Tryz.func97, Tryz.ntmps97
    go_wp2_with (go_at_call 136; refine (hlist.out _ (hr.alloc _)).mono ?_; rintro e w1 ⟨rfl, hb1⟩)
    go_ret
    exact ⟨ret_str (by simp [byt]), ((Below.refl _ _).alloc (Nat.le_refl _) _).trans (hb1.mono (by simp))⟩
theorem text_any {d : Nat} {t : Tm} {b : List UInt8} (h : Tx d t b) : ∀ (k n : Int) (ks : List Tm), t = .mk k n ks → TextOk k n ks b := by
  induction h with
  | var d n c h => rintro k' n' ks' ⟨⟩; exact text_var n c h
  | sort d n c h => rintro k' n' ks' ⟨⟩; exact text_sort n c h
  | nat d => rintro k' n' ks' ⟨⟩; exact text_nat
  | zero d => rintro k' n' ks' ⟨⟩; exact text_zero
  | pre d k c t b h ht ih => rintro k' n' ks' ⟨⟩; obtain ⟨k1, n1, ks1⟩ := t; exact text_pre h (ih k1 n1 ks1 rfl)
  | rnd d k c t u x y h ht hu i1 i2 => rintro k' n' ks' ⟨⟩; obtain ⟨k1, n1, ks1⟩ := t; obtain ⟨k2, n2, ks2⟩ := u; exact text_rnd h (i1 k1 n1 ks1 rfl) (i2 k2 n2 ks2 rfl)
  | lam d t u x y ht hu i1 i2 => rintro k' n' ks' ⟨⟩; obtain ⟨k1, n1, ks1⟩ := t; obtain ⟨k2, n2, ks2⟩ := u; exact text_lam (i1 k1 n1 ks1 rfl) (i2 k2 n2 ks2 rfl)
  | blk d k m o c ts xs h hm hx ht ih => rintro k' n' ks' ⟨⟩; exact text_blk h ts xs hm hx fun j k n ks x h1 h2 => ih j (.mk k n ks) x h1 h2 k n ks rfl
open Go.RowKit
theorem validT_size' {k n : Int} {ks : List Tm} (h : validT (.mk k n ks) = true) : sizes ks ≤ 400 := by
  simp only [validT, Bool.and_eq_true, decide_eq_true_eq] at h
  have := h.2
  rw [Tm.size] at this
  omega
set_option maxHeartbeats 4000000 in
set_option maxRecDepth 100000 in
theorem format_any {t : Tm} {b : List UInt8} {d : Nat} (h : Tx d t b) (k n : Int) (ks : List Tm) (ht : t = .mk k n ks) (hv : validT t = true) (hb : b.length ≤ 100000) (A : Option Addr) (c : Nat) (w : World) (hr : Rd w A 0 ks) :
    Calls Tryz.prog 58 #[.agg #[.int .i64 k, .int .i64 n, .slice A ks.length c]] w fun e w' => e = .returned (.string (byt b)) ∧ Below w.heap.size w w' := by
  have htx := hide (text_any h k n ks ht)
  subst ht
  have hM := validT_size' hv
  have hv' := hide hv
  clear hv h
  go_enter Tryz.func58, Tryz.ntmps58
  go_wp2_with (first
    | (go_at_call 97; refine (htx.out A c _ hb ((hr.alloc _).below hb1)).mono ?_; rintro e w2 ⟨rfl, hb2⟩)
    | (go_at_call 43; refine (sTermValid_any k n ks A c _ (by omega) (hr.alloc _)).mono ?_; rw [hv'.out]; rintro e w1 ⟨rfl, hb1⟩; have hB := (Blk.new_ w 25 #[.int .i64 k, .int .i64 n, .slice A ks.length c] rfl).keep hb1; have x0 := hB.at_ (i := 0) rfl; have x1 := hB.at_ (i := 1) rfl; have x2 := hB.at_ (i := 2) rfl))
  go_ret
  exact ⟨rfl, (((Below.refl _ _).alloc (Nat.le_refl _) _).trans (hb1.mono (by simp))).trans (hb2.mono (by have := hb1.size; simp at this; omega))⟩
/-- a text that the parser reads -/
def Good (t : Tm) (b : List UInt8) : Prop := Tx 30 t b ∧ validT t = true ∧ b.length ≤ 1000
def GotPT (w : World) (k n : Int) (ks : List Tm) (e : Ending) (w' : World) : Prop :=
  ∃ A c, e = .returned (.tuple #[.agg #[.int .i64 k, .int .i64 n, .slice A ks.length c], .bool true]) ∧ ks.length ≤ 9223372036854775807 ∧ Fresh w.heap.size w' A ks ∧ Below w.heap.size w w'
set_option maxHeartbeats 4000000 in
set_option maxRecDepth 100000 in
theorem parseTerm_any {k n : Int} {ks : List Tm} {b : List UInt8} (h : Good (.mk k n ks) b) (w : World) : Calls Tryz.prog 36 #[.string (byt b)] w (GotPT w k n ks) := by
  obtain ⟨htx, hv, hb⟩ := h
  have hs : (byt b).size = b.length := by simp [byt, ByteArray.size]
  have hpar := hide (fun w => parse_any htx k n ks rfl (byt b) 0 0 30 w (by rw [hs]; omega) rfl (Has.all b) (Nd.out (by rw [hs]; omega)) (by omega) (by omega))
  have hfm := hide (fun A c w hr => format_any htx k n ks rfl hv (by omega) A c w hr)
  have q1 : ((byt b).toList == []) = false := by
    have := htx.ne
    cases b with
    | nil => exact absurd rfl this
    | cons x xs => simp [byt]
  have q2 : (byt b).toList.isEmpty = false := by
    have := htx.ne
    cases b with
    | nil => exact absurd rfl this
    | cons x xs => simp [byt]
  have q3 : ((byt b).toList == (byt b).toList) = true := by simp
  have hpos : 0 < b.length := List.length_pos_iff.2 htx.ne
  clear htx hv
  go_enter Tryz.func36, Tryz.ntmps36
  go_wp2_with (first
    | (go_at_call 58; refine (hfm.out A1 c1 _ (hf1.rd.alloc _)).mono ?_; rintro e w2 ⟨rfl, hb2⟩; replace hX := hX.keep hb2; replace hZ := (hZ.alloc _).keep hb2; have x0 := hX.at_ (i := 0) rfl; have x1 := hX.at_ (i := 1) rfl; have x2 := hX.at_ (i := 2) rfl; have d0 := hZ.at_ (i := 0) rfl; have d1 := hZ.at_ (i := 1) rfl; have d2 := hZ.at_ (i := 2) rfl; have e0 := hZ.frozen 0; have e1 := hZ.frozen 1; have e2 := hZ.frozen 2; have lx := hX.lt; have lz := hZ.lt)
    | (go_at_call 57; refine (hpar.out _).mono ?_; rintro e w1 ⟨m, A1, c1, hm, rfl, hl1, hf1, hb1⟩; rw [Nat.zero_add] at hm; subst hm; have hZ := (Blk.new_ w 25 #[.int .i64 0, .int .i64 0, .slice none 0 0] rfl).keep hb1; have g1 : Below w.heap.size w w1 := ((Below.refl _ _).alloc (Nat.le_refl _) _).trans (hb1.mono (by simp)); have s1 := g1.size; have hX := Blk.new_ w1 25 #[.int .i64 k, .int .i64 n, .slice A1 ks.length c1] rfl; have lz1 := hZ.lt))
  have hf2 := (hf1.alloc (.cells #[.int .i64 k, .int .i64 n, .slice A1 ks.length c1] 25)).below hb2
  have g2 : Below w.heap.size w w2 := (g1.alloc (by omega) _).trans (hb2.mono (by simp; omega))
  refine bodyPost_ret (v := .tuple #[.agg #[.int .i64 k, .int .i64 n, .slice A1 ks.length c1], .bool true]) (by simp [results, Tryz.results36, go_sem, d0, d1, d2]) rfl ⟨A1, c1, rfl, hl1, ?_, ((g2.setCell (by simp) _).setCell (by simp) _).setCell (by simp) _⟩
  exact (((hf2.setCell (by simp) _).setCell (by simp) _).setCell (by simp) _).mono (by simp)
/-- texts in a block -/
def strs (xs : List (List UInt8)) : Array Value := (xs.map fun x => Value.string (byt x)).toArray
theorem strs_get {xs : List (List UInt8)} {j : Nat} (h : j < xs.length) : (strs xs)[j]? = some (.string (byt xs[j])) := by simp [strs, List.getElem?_eq_getElem h]
open Go.RowKit
theorem not_false_true {b : Bool} (h : (!b) = false) : b = true := by cases b with | true => rfl | false => cases h
theorem not_true_false {b : Bool} (h : (!b) = true) : b = false := by cases b with | false => rfl | true => cases h
/-- a step and its code -/
def oneS (t : Tm) : Tm × Nat := match stepS t with | none => (t, 0) | some u => if validT u = true then (u, 1) else (.mk 0 0 [], 2)
theorem oneS_none {t : Tm} (h : stepS t = none) : oneS t = (t, 0) := by rw [oneS, h]
theorem oneS_took {t u : Tm} (h : stepS t = some u) (hv : validT u = true) : oneS t = (u, 1) := by rw [oneS, h]; exact if_pos hv
theorem oneS_large {t u : Tm} (h : stepS t = some u) (hv : validT u = false) : oneS t = (.mk 0 0 [], 2) := by rw [oneS, h]; exact if_neg (by simp [hv])
theorem normS_zero {t : Tm} {f : Nat} (h : (oneS t).2 = 0) : normS f t = (some (oneS t).1, 0) := by
  unfold oneS at h ⊢
  rw [normS]
  cases hs : stepS t with
  | none => rfl
  | some u => rw [hs] at h; simp only at h; split at h <;> cases h
theorem normS_fuel {t : Tm} (h : (oneS t).2 ≠ 0) : normS 0 t = (none, 1) := by
  unfold oneS at h
  rw [normS]
  cases hs : stepS t with
  | none => rw [hs] at h; exact absurd rfl h
  | some u => rfl
theorem normS_large {t : Tm} {f : Nat} (h : (oneS t).2 = 2) : normS (f + 1) t = (none, 2) := by
  unfold oneS at h
  rw [normS]
  cases hs : stepS t with
  | none => rw [hs] at h; cases h
  | some u =>
    rw [hs] at h
    simp only at h ⊢
    split at h
    · cases h
    · rename_i hv; rw [if_neg hv]
theorem normS_more {t : Tm} {f : Nat} (h0 : (oneS t).2 ≠ 0) (h2 : (oneS t).2 ≠ 2) : normS (f + 1) t = normS f (oneS t).1 := by
  unfold oneS at h0 h2 ⊢
  rw [normS]
  cases hs : stepS t with
  | none => rw [hs] at h0; exact absurd rfl h0
  | some u =>
    rw [hs] at h0 h2
    simp only at h0 h2 ⊢
    split at h2
    · rename_i hv; simp only [if_pos hv]
    · exact absurd rfl h2
/-- a normal term, or none, and the code -/
def Normd (R : Option Tm × Int) (w : World) (e : Ending) (w' : World) : Prop :=
  ∃ (k n : Int) (ks : List Tm) (A : Option Addr) (c : Nat), R.1.getD (.mk 0 0 []) = .mk k n ks ∧ e = .returned (.tuple #[.agg #[.int .i64 k, .int .i64 n, .slice A ks.length c], .int .i64 R.2]) ∧ ks.length ≤ 9223372036854775807 ∧ RdP (fun x => w.heap.size ≤ x) w' A 0 ks ∧ Below w.heap.size w w'
/-- a step and its code -/
def Oned (t0 : Tm) (w : World) (e : Ending) (w' : World) : Prop :=
  ∃ (k n : Int) (ks : List Tm) (A : Option Addr) (c code : Nat), .mk k n ks = (oneS t0).1 ∧ code = (oneS t0).2 ∧ e = .returned (.tuple #[.agg #[.int .i64 k, .int .i64 n, .slice A ks.length c], .int .i64 code]) ∧ code ≤ 2 ∧ ks.length ≤ 9223372036854775807 ∧ sizes ks ≤ 400 ∧ (code ≠ 2 → validT (.mk k n ks) = true) ∧ RdP (fun x => w.heap.size ≤ x) w' A 0 ks ∧ Below w.heap.size w w'
set_option maxHeartbeats 4000000 in
set_option maxRecDepth 100000 in
theorem sOne_any (hC : Contract3) (k n : Int) (ks : List Tm) (A : Option Addr) (c : Nat) (w : World) (hv : validT (.mk k n ks) = true) (hl : ks.length ≤ 9223372036854775807) (hr : Rd w A 0 ks) :
    Calls Tryz.prog 44 #[.agg #[.int .i64 k, .int .i64 n, .slice A ks.length c], .bool false] w (Oned (.mk k n ks) w) := by
  have hM := validT_size' hv
  have hsh := hide (validT_shape30 hv)
  have hv' := hide hv
  clear hv
  go_enter Tryz.func44, Tryz.ntmps44
  go_wp2_with (go_at_call 66; refine (sStep_any hC _ 30 k n ks A c _ (by omega) (Nat.lt_succ_self _) hM hsh.out (((hr.alloc _).alloc _))).mono ?_; rintro e w1 ⟨k2, n2, ks2, A2, c2, bb, hx2, hx3, rfl, hl2, hs2, hr2, hb1⟩; replace hx2 := hide hx2; replace hx3 := hide hx3; have hB := (((Blk.new_ w 25 #[.int .i64 k, .int .i64 n, .slice A ks.length c] rfl).alloc (.cells #[.int .i64 0, .int .i64 0, .slice none 0 0] 25)).keep hb1).alloc (.cells #[.int .i64 k2, .int .i64 n2, .slice A2 ks2.length c2] 25); have hZ : Blk (w1.alloc (.cells #[.int .i64 k2, .int .i64 n2, .slice A2 ks2.length c2] 25)) (w.heap.size + 1) #[.int .i64 0, .int .i64 0, .slice none 0 0] := ((Blk.new_ (w.alloc (.cells #[.int .i64 k, .int .i64 n, .slice A ks.length c] 25)) 25 #[.int .i64 0, .int .i64 0, .slice none 0 0] (by simp)).keep hb1).alloc _; have g1 : Below w.heap.size w w1 := (((Below.refl _ _).alloc (Nat.le_refl _) _).alloc (by simp) _).trans (hb1.mono (by simp; omega)); have s1 : w.heap.size + 2 ≤ w1.heap.size := (by have := hb1.size; simpa using this); have g2 := g1.alloc g1.size (.cells #[.int .i64 k2, .int .i64 n2, .slice A2 ks2.length c2] 25); have hK := Blk.new_ w1 25 #[.int .i64 k2, .int .i64 n2, .slice A2 ks2.length c2] rfl; obtain ⟨x0, x1, x2⟩ := hB.three; obtain ⟨y0, y1, y2⟩ := hK.three)
  · have hbf : bb = false := not_true_false (by assumption)
    have ho := hide (oneS_none (none_of hx3.out hbf))
    refine (sCopy_any _ k n ks A c _ (Nat.lt_succ_self _) (by omega) ((hr.below g1).alloc _)).mono ?_
    rintro e w3 ⟨A3, c3, rfl, hl3, hf3, hb3⟩
    replace hZ := hZ.keep hb3
    obtain ⟨d0, d1, d2⟩ := hZ.three
    have e0 := hZ.frozen 0
    have e1 := hZ.frozen 1
    have e2 := hZ.frozen 2
    replace g2 := g2.trans (hb3.mono g2.size)
    go_wp2_with fail
    refine bodyPost_ret (v := .tuple #[.agg #[.int .i64 k, .int .i64 n, .slice A3 ks.length c3], .int .i64 0]) (by simp [results, Tryz.results44, go_sem, d0, d1, d2]) rfl ⟨k, n, ks, A3, c3, 0, (by rw [ho.out]), (by rw [ho.out]), rfl, by omega, hl3, by omega, fun _ => hv'.out, ?_, ?_⟩
    · exact (Fresh.rdp (((hf3.setCell (by simp; omega) _).setCell (by simp; omega) _).setCell (by simp; omega) _)).mono (fun b hb => by have := hb.1; simp at this; omega)
    · exact ((g2.setCell (by simp) _).setCell (by simp) _).setCell (by simp) _
  · have hbb : bb = true := not_false_true (by assumption)
    have hst := hide (some_of hx2.out hx3.out hbb)
    have hrx : RdP (fun x => w.heap.size + 2 ≤ x) w1 A2 0 ks2 := hr2.mono (fun x hx => by rw [hbb] at hx; simp at hx; omega)
    clear hr2
    obtain ⟨vv, hvv0⟩ : ∃ vv, validT (.mk k2 n2 ks2) = vv := ⟨_, rfl⟩
    have hvv := hide hvv0
    refine (sTermValid_any k2 n2 ks2 A2 c2 _ (by omega) (hrx.alloc _).rd).mono ?_
    rw [hvv0]
    rintro e w3 ⟨rfl, hb3⟩
    clear hvv0
    replace hZ := hZ.keep hb3
    replace hK := hK.keep hb3
    clear y0 y1 y2
    obtain ⟨y0, y1, y2⟩ := hK.three
    obtain ⟨d0, d1, d2⟩ := hZ.three
    have e0 := hZ.frozen 0
    have e1 := hZ.frozen 1
    have e2 := hZ.frozen 2
    replace g2 := g2.trans (hb3.mono g2.size)
    have hrx3 := (hrx.alloc (.cells #[.int .i64 k2, .int .i64 n2, .slice A2 ks2.length c2] 25)).below hb3
    cases vv with
    | false =>
      go_wp2_with fail
      refine bodyPost_ret (v := .tuple #[.agg #[.int .i64 0, .int .i64 0, .slice none 0 0], .int .i64 2]) (by simp [results, Tryz.results44, go_sem, d0, d1, d2]) rfl ⟨0, 0, [], none, 0, 2, (by rw [oneS_large hst.out hvv.out]), (by rw [oneS_large hst.out hvv.out]), rfl, by omega, by simp, by simp [sizes], fun h => absurd rfl h, RdP.nil, ?_⟩
      exact ((g2.setCell (by simp) _).setCell (by simp) _).setCell (by simp) _
    | true =>
      have hs400 := validT_size' hvv.out
      go_wp2_with fail
      refine bodyPost_ret (v := .tuple #[.agg #[.int .i64 k2, .int .i64 n2, .slice A2 ks2.length c2], .int .i64 1]) (by simp [results, Tryz.results44, go_sem, d0, d1, d2]) rfl ⟨k2, n2, ks2, A2, c2, 1, (by rw [oneS_took hst.out hvv.out]), (by rw [oneS_took hst.out hvv.out]), rfl, by omega, hl2, hs400, fun _ => hvv.out, ?_, ?_⟩
      · exact (((hrx3.setCell (by simp) _).setCell (by simp) _).setCell (by simp) _).mono (fun b hb => by omega)
      · exact ((g2.setCell (by simp) _).setCell (by simp) _).setCell (by simp) _
set_option maxHeartbeats 4000000 in
set_option maxRecDepth 100000 in
theorem sNorm_any (hC : Contract3) (k n : Int) (ks : List Tm) (A : Option Addr) (c : Nat) (F : Nat) (hF : F ≤ 1000) (w : World) (hv : validT (.mk k n ks) = true) (hl : ks.length ≤ 9223372036854775807) (hr : Rd w A 0 ks) :
    Calls Tryz.prog 19 #[.agg #[.int .i64 k, .int .i64 n, .slice A ks.length c], .int .i64 F, .bool false] w (Normd (normS F (.mk k n ks)) w) := by
  obtain ⟨R, hR⟩ : ∃ R, normS F (.mk k n ks) = R := ⟨_, rfl⟩
  rw [hR]
  replace hR := hide hR
  go_enter Tryz.func19, Tryz.ntmps19
  go_wp2_with fail
  go_loopw [1, 8, 9] (fun fv _ _ wr => ∃ (f : Nat) (k n : Int) (ks : List Tm) (A : Option Addr) (c : Nat), f ≤ F ∧ Hid (normS f (.mk k n ks) = R) ∧ fv = .int .i64 f ∧ validT (.mk k n ks) = true ∧ ks.length ≤ 9223372036854775807 ∧ Blk wr w.heap.size #[.int .i64 k, .int .i64 n, .slice A ks.length c] ∧ Blk wr (w.heap.size + 1) #[.int .i64 0, .int .i64 0, .slice none 0 0] ∧ RdP (fun b => b < w.heap.size ∨ w.heap.size + 2 ≤ b) wr A 0 ks ∧ Below w.heap.size w wr)
    (fun fv _ _ _ => (intOf fv).toNat)
  case atStart => exact ⟨F, k, n, ks, A, c, Nat.le_refl _, hR, rfl, hv, hl, (Blk.new_ _ _ _ rfl).alloc _, Blk.new_ _ _ _ (by simp), ((hr.rdp.alloc _).alloc _).mono (fun b hb => .inl hb), ((Below.refl _ _).alloc (by simp) _).alloc (by simp) _⟩
  case round =>
    clear hv hl hr hR
    obtain ⟨f, k, n, ks, A, c, hf, hRf, rfl, hv, hl, hB, hZ, hrd, hb⟩ := hrel
    have hv' := hide hv
    clear hv
    obtain ⟨x0, x1, x2⟩ := hB.three
    have lz0 := hZ.lt
    go_wp2_with (go_at_call 44; refine (sOne_any hC k n ks A c _ hv'.out hl hrd.rd).mono ?_; rintro e w1 ⟨k2, n2, ks2, A2, c2, code, hx2, hx3, rfl, hcd, hl2, hs2, hv2, hr2, hb1⟩; replace hB := (hB.keep hb1).alloc (.cells #[.int .i64 k2, .int .i64 n2, .slice A2 ks2.length c2] 25); replace hZ := (hZ.keep hb1).alloc (.cells #[.int .i64 k2, .int .i64 n2, .slice A2 ks2.length c2] 25); have s1 := hb1.size; have g1 := (hb.trans (hb1.mono hb.size)).alloc (by have := hb.size; omega) (.cells #[.int .i64 k2, .int .i64 n2, .slice A2 ks2.length c2] 25); have hK := Blk.new_ w1 25 #[.int .i64 k2, .int .i64 n2, .slice A2 ks2.length c2] rfl; have hr3 := (hr2.alloc (.cells #[.int .i64 k2, .int .i64 n2, .slice A2 ks2.length c2] 25)).mono (q := fun b => w.heap.size + 2 ≤ b) (fun b hb => by omega); have hv3 := hide hv2; replace hx2 := hide hx2; replace hx3 := hide hx3; clear hv2 x0 x1 x2; obtain ⟨x0, x1, x2⟩ := hB.three; obtain ⟨y0, y1, y2⟩ := hK.three; obtain ⟨d0, d1, d2⟩ := hZ.three; have e0 := hZ.frozen 0; have e1 := hZ.frozen 1; have e2 := hZ.frozen 2; have z0 := hB.frozen 0; have z1 := hB.frozen 1; have z2 := hB.frozen 2)
    · have hc0 : code = 0 := by rename_i h0; have := eq_of_beq h0; omega
      obtain rfl : R = (some (.mk k2 n2 ks2), 0) := by rw [← hRf.out, normS_zero (by rw [← hx3.out]; exact hc0), ← hx2.out]
      refine bodyPost_ret (v := .tuple #[.agg #[.int .i64 k2, .int .i64 n2, .slice A2 ks2.length c2], .int .i64 0]) (by simp [results, Tryz.results19, go_sem, d0, d1, d2]) rfl ⟨k2, n2, ks2, A2, c2, rfl, rfl, hl2, ?_, ?_⟩
      · exact (((hr3.setCell (by simp) _).setCell (by simp) _).setCell (by simp) _).mono (fun b hb => by omega)
      · exact ((g1.setCell (by simp) _).setCell (by simp) _).setCell (by simp) _
    · have hcb : ((code : Int) == 0) = false := by assumption
      have hc0 : ¬ (code : Int) = 0 := ne_of_beq_false hcb
      obtain rfl : f = 0 := by omega
      obtain rfl : R = (none, 1) := by rw [← hRf.out, normS_fuel (by rw [← hx3.out]; omega)]
      refine bodyPost_ret (v := .tuple #[.agg #[.int .i64 0, .int .i64 0, .slice none 0 0], .int .i64 1]) (by simp [results, Tryz.results19, go_sem, d0, d1, d2]) rfl ⟨0, 0, [], none, 0, rfl, rfl, by simp, RdP.nil, ?_⟩
      exact ((g1.setCell (by simp) _).setCell (by simp) _).setCell (by simp) _
    · have hc2 : (code : Int) = 2 := by rename_i h0; exact eq_of_beq h0
      obtain ⟨f, rfl⟩ : ∃ g, f = g + 1 := ⟨f - 1, by omega⟩
      obtain rfl : R = (none, 2) := by rw [← hRf.out, normS_large (by rw [← hx3.out]; omega)]
      refine bodyPost_ret (v := .tuple #[.agg #[.int .i64 0, .int .i64 0, .slice none 0 0], .int .i64 2]) (by simp [results, Tryz.results19, go_sem, d0, d1, d2]) rfl ⟨0, 0, [], none, 0, rfl, rfl, by simp, RdP.nil, ?_⟩
      exact ((g1.setCell (by simp) _).setCell (by simp) _).setCell (by simp) _
    · have hc2 : ¬ (code : Int) = 2 := by rename_i h0; exact ne_of_beq_false h0
      have hcb : ((code : Int) == 0) = false := by assumption
      have hc0 : ¬ (code : Int) = 0 := ne_of_beq_false hcb
      have hf1 : 1 ≤ f := by omega
      have hRg : normS (f - 1) (.mk k2 n2 ks2) = R := by rw [← hRf.out, show f = (f - 1) + 1 from by omega, normS_more (by rw [← hx3.out]; omega) (by rw [← hx3.out]; omega), ← hx2.out]; rfl
      refine ⟨⟨f - 1, k2, n2, ks2, A2, c2, by omega, hide hRg, by go_num, hv3.out (by omega), hl2, ((hB.set_ 0 _).set_ 1 _).set_ 2 _, ((hZ.far (by simp) _).far (by simp) _).far (by simp) _, (((hr3.setCell (by simp) _).setCell (by simp) _).setCell (by simp) _).mono (fun b hb => .inr hb), ((g1.setCell (by simp) _).setCell (by simp) _).setCell (by simp) _⟩, by simp [intOf]; omega⟩
open Go.RowKit
set_option maxHeartbeats 1000000 in
set_option maxRecDepth 100000 in
theorem own_any (N : Nat) : ∀ (k n : Int) (ks : List Tm) (A : Option Addr) (c : Nat) (w : World), sizes ks < N → sizes ks ≤ 1099511627776 → Rd w A 0 ks →
    Calls Tryz.prog 39 #[.agg #[.int .i64 k, .int .i64 n, .slice A ks.length c]] w (GotT w k n ks) := by
  induction N with
  | zero => intro k n ks A c w hN; exact absurd hN (Nat.not_lt_zero _)
  | succ N ih =>
  intro k n ks A c w hN hM hr
  have hlen := length_le_sizes ks
  go_enter Tryz.func39, Tryz.ntmps39
  go_wp2_with fail
  go_loopw [14] (fun i wr => ∃ (j : Nat) (v : Value), j ≤ ks.length ∧ i = .int .i64 j ∧ Part (w.heap.size + 3) wr v (ks.take j) ∧ Blk wr (w.heap.size + 1 + 1) #[.int .i64 k, .int .i64 n, v] ∧ Blk wr (w.heap.size + 1) #[.int .i64 0, .int .i64 0, .slice none 0 0] ∧ Below w.heap.size w wr)
    (fun i _ => ks.length - (intOf i).toNat)
  case atStart => exact ⟨0, _, Nat.zero_le _, rfl, Part.nil, Blk.new_ _ _ _ (by simp), (Blk.new_ _ _ _ (by simp)).alloc _, (((Below.refl _ _).alloc (by simp) _).alloc (by simp) _).alloc (by simp; omega) _⟩
  case round =>
    obtain ⟨j, v, hj, rfl, hp, hB3, hB2, hb⟩ := hrel
    by_cases hlt : j < ks.length
    · obtain ⟨b, off, k', n', ks', A', c', rfl, hkj, hc1, hc2, hc3, hl', hr'⟩ := (hr.below hb).at_ hlt
      have hbl := World.block_lt_of_cell? _ _ hc1
      have hsz := sizes_le (List.getElem_mem hlt)
      rw [hkj] at hsz
      simp only [Tm.size] at hsz
      have H3 := hide hkj
      clear hkj
      have hz := hB3.lt
      have c2 : wr.cell? ⟨w.heap.size + 1 + 1, 2, none⟩ = some v := hB3.at_ rfl
      go_wp2_with fail
      refine name_world ?_
      intro wx hwx
      have hXB : Blk wx wr.heap.size #[.int .i64 k', .int .i64 n', .slice A' ks'.length c'] := by rw [hwx]; exact Blk.new_ _ _ _ rfl
      have hpx : Part (w.heap.size + 3) wx v (ks.take j) := by rw [hwx]; exact hp.alloc _
      have hrx : Rd wx A' 0 ks' := by rw [hwx]; exact hr'.alloc _
      have hB3x : Blk wx (w.heap.size + 1 + 1) #[.int .i64 k, .int .i64 n, v] := by rw [hwx]; exact hB3.alloc _
      have hB2x : Blk wx (w.heap.size + 1) #[.int .i64 0, .int .i64 0, .slice none 0 0] := by rw [hwx]; exact hB2.alloc _
      have hbx : Below w.heap.size w wx := by rw [hwx]; exact hb.alloc hb.size _
      have hs1 : wr.heap.size < wx.heap.size := by rw [hwx]; simp
      have hs2 : w.heap.size + 1 + 1 < wx.heap.size := by omega
      have x2 := hB3x.rule (i := 2) rfl
      have y0 := hXB.rule (i := 0) rfl
      have y1 := hXB.rule (i := 1) rfl
      have y2 := hXB.rule (i := 2) rfl
      clear hwx
      refine wp_region_first (fun w' => Below wx.heap.size wx w') [0, 1, 2] [3, 4] [5, 6, 7] [_, _, _] [_, _] [_, _, _] (by kernel_rfl) (by kernel_rfl) rfl rfl rfl (fun _ _ d _ _ h => by cases d <;> exact h) (Below.refl _ _).drew ?_
      repeat (first | ((refine take_skip (a' := ?_) ?_ ?_ ?_); (rotate_left); (· (simp [Region.wanted, yielded]; done)); (· (simp only [Act.put, List.setIfInBounds_toArray, List.set_cons_zero, List.set_cons_succ]; exact rfl))) | ((refine take_step (v := ?_) (a' := ?_) ?_ ?_ ?_ ?_); (rotate_left 2); (· (simp [Region.wanted, yielded]; done)); (· (intro w' hS'; go_simp; try (with_reducible rfl))); (· (simp only [Act.put, List.setIfInBounds_toArray, List.set_cons_zero, List.set_cons_succ]; exact rfl))))
      refine take_nil (then_cons ?_)
      go_wp2_with (go_at_call 39; refine (ih k' n' ks' A' c' _ (by omega) (by omega) hrx.drew).mono ?_; rintro e w1 ⟨A1, c1, rfl, hl1, hf1, hb1⟩)
      have hx1 : Below wx.heap.size wx w1 := (Below.refl wx.heap.size wx).drew.trans hb1
      refine mid_intro hx1 (then_cons ?_)
      go_wp2_with fail
      refine mid_intro (hx1.alloc hx1.size _) (then_nil ?_)
      refine wpList_append_built (B := w.heap.size + 3) (m := j) hpx.drew hb1 (by simp; omega) hf1 hl1 (by simp; omega) (by omega) rfl (.tmp 19) (.tmp 22) rfl rfl rfl ?_
      intro A2 c2 w2 hp2 hb2 hg2
      have q3 : Blk w2 (w.heap.size + 1 + 1) #[.int .i64 k, .int .i64 n, v] := (hB3x.below hx1 (by omega)).below hb2 (by omega)
      have q2 : Blk w2 (w.heap.size + 1) #[.int .i64 0, .int .i64 0, .slice none 0 0] := (hB2x.below hx1 (by omega)).below hb2 (by omega)
      have c3 : w2.cell? ⟨w.heap.size + 1 + 1, 2, none⟩ = some v := q3.at_ rfl
      have z3 := q3.frozen 2
      have hbf : Below w.heap.size w w2 := (hbx.trans (hx1.mono (by omega))).trans (hb2.mono (by omega))
      clear x2 y0 y1 y2 hpx hrx hB3x hB2x hbx
      go_wp2_with fail
      go_roundw
      case rel => exact ⟨j + 1, _, by omega, by go_num, by rw [List.take_succ_eq_append_getElem hlt, H3.out]; exact hp2.setCell (by simp) _, q3.set_ 2 _, q2.far (by simp) _, hbf.setCell (by simp; omega) _⟩
      case measure => simp [intOf]; omega
    · have hjl : j = ks.length := by omega
      subst hjl
      rw [List.take_length] at hp
      obtain ⟨Ar, cr, rfl, hfr⟩ := hp.fresh
      have c0 : wr.cell? ⟨w.heap.size + 1 + 1, 0, none⟩ = some (.int .i64 k) := hB3.at_ rfl
      have c1 : wr.cell? ⟨w.heap.size + 1 + 1, 1, none⟩ = some (.int .i64 n) := hB3.at_ rfl
      have c2 : wr.cell? ⟨w.heap.size + 1 + 1, 2, none⟩ = some (.slice Ar ks.length cr) := hB3.at_ rfl
      have d0 : wr.cell? ⟨w.heap.size + 1, 0, none⟩ = some (.int .i64 0) := hB2.at_ rfl
      have d1 : wr.cell? ⟨w.heap.size + 1, 1, none⟩ = some (.int .i64 0) := hB2.at_ rfl
      have d2 : wr.cell? ⟨w.heap.size + 1, 2, none⟩ = some (.slice none 0 0) := hB2.at_ rfl
      have e0 := hB2.frozen 0
      have e1 := hB2.frozen 1
      have e2 := hB2.frozen 2
      go_wp2_with fail
      refine bodyPost_ret (v := .agg #[.int .i64 k, .int .i64 n, .slice Ar ks.length cr]) (by simp [results, Tryz.results39, go_sem, d0, d1, d2]) rfl ⟨Ar, cr, rfl, by omega, ?_, ?_⟩
      · exact (((hfr.setCell (by simp) _).setCell (by simp) _).setCell (by simp) _).mono (by omega)
      · exact ((hb.setCell (by simp) _).setCell (by simp) _).setCell (by simp) _
open Go.RowKit
set_option maxHeartbeats 1000000 in
set_option maxRecDepth 100000 in
theorem sOwnK_of {M : Nat} (hL : ∀ (ks : List Tm) (A : Option Addr) (c : Nat) (w : World), sizes ks < M → sizes ks ≤ 1099511627776 → Rd w A 0 ks → Calls Tryz.prog 42 #[.slice A ks.length c] w (GotL w ks))
    (k n : Int) (ks : List Tm) (A : Option Addr) (c : Nat) (w : World) (hs : sizes ks < M) (hM : sizes ks ≤ 1099511627776) (hr : Rd w A 0 ks) :
    Calls Tryz.prog 17 #[.agg #[.int .i64 k, .int .i64 n, .slice A ks.length c]] w (GotT w k n ks) := by
  have hlen := length_le_sizes ks
  go_enter Tryz.func17, Tryz.ntmps17
  go_wp2_with fail
  go_at_call 42
  refine (hL ks A c _ hs hM ((hr.alloc _).alloc _)).mono ?_
  rintro e w1 ⟨A1, c1, rfl, hf1, hb1⟩
  have hB1 : Blk w1 w.heap.size #[.int .i64 k, .int .i64 n, .slice A ks.length c] := ((Blk.new_ w 25 #[.int .i64 k, .int .i64 n, .slice A ks.length c] rfl).alloc (.cells #[.int .i64 0, .int .i64 0, .slice none 0 0] 25)).keep hb1
  have hB2 : Blk w1 (w.heap.size + 1) #[.int .i64 0, .int .i64 0, .slice none 0 0] := (Blk.new_ (w.alloc (.cells #[.int .i64 k, .int .i64 n, .slice A ks.length c] 25)) 25 #[.int .i64 0, .int .i64 0, .slice none 0 0] (by simp)).keep hb1
  have hb : Below w.heap.size w w1 := (((Below.refl _ _).alloc (Nat.le_refl _) _).alloc (by simp) _).trans (hb1.mono (by simp; omega))
  have s1 : w.heap.size + 1 + 1 ≤ w1.heap.size := (by have := hb1.size; simpa using this)
  have c0 : w1.cell? ⟨w.heap.size, 0, none⟩ = some (.int .i64 k) := hB1.at_ rfl
  have c1' : w1.cell? ⟨w.heap.size, 1, none⟩ = some (.int .i64 n) := hB1.at_ rfl
  have c2 : w1.cell? ⟨w.heap.size, 2, none⟩ = some (.slice A ks.length c) := hB1.at_ rfl
  have d0 : w1.cell? ⟨w.heap.size + 1, 0, none⟩ = some (.int .i64 0) := hB2.at_ rfl
  have d1 : w1.cell? ⟨w.heap.size + 1, 1, none⟩ = some (.int .i64 0) := hB2.at_ rfl
  have d2 : w1.cell? ⟨w.heap.size + 1, 2, none⟩ = some (.slice none 0 0) := hB2.at_ rfl
  have z2 := hB1.frozen 2
  have e0 := hB2.frozen 0
  have e1 := hB2.frozen 1
  have e2 := hB2.frozen 2
  go_wp2_with fail
  refine bodyPost_ret (v := .agg #[.int .i64 k, .int .i64 n, .slice A1 ks.length c1]) (by simp [results, Tryz.results17, go_sem, d0, d1, d2]) rfl ⟨A1, c1, rfl, by omega, ?_, ?_⟩
  · exact ((((hf1.setCell (by simp <;> omega) _).setCell (by simp <;> omega) _).setCell (by simp <;> omega) _).setCell (by simp <;> omega) _).mono (by simp <;> omega)
  · exact ((((hb.setCell (by simp) _).setCell (by simp) _).setCell (by simp) _).setCell (by simp) _)
set_option maxHeartbeats 1000000 in
set_option maxRecDepth 100000 in
theorem sOwnL_any (N : Nat) : ∀ (ks : List Tm) (A : Option Addr) (c : Nat) (w : World), sizes ks < N → sizes ks ≤ 1099511627776 → Rd w A 0 ks →
    Calls Tryz.prog 42 #[.slice A ks.length c] w (GotL w ks) := by
  induction N with
  | zero => intro ks A c w hN; exact absurd hN (Nat.not_lt_zero _)
  | succ N ih =>
  intro ks A c w hN hM hr
  have hlen := length_le_sizes ks
  go_enter Tryz.func42, Tryz.ntmps42
  go_wp2_with fail
  go_loopw [3, 9] (fun v i wr => ∃ (j : Nat), j ≤ ks.length ∧ i = .int .i64 j ∧ Part w.heap.size wr v (ks.take j) ∧ Below w.heap.size w wr)
    (fun _ i _ => ks.length - (intOf i).toNat)
  case atStart => exact ⟨0, Nat.zero_le _, rfl, Part.empty_ rfl (Nat.le_refl _), (Below.refl _ _).alloc (Nat.le_refl _) _⟩
  case round =>
    obtain ⟨j, hj, rfl, hp, hb⟩ := hrel
    by_cases hlt : j < ks.length
    · obtain ⟨b, off, k', n', ks', A', c', rfl, hkj, hc1, hc2, hc3, hl', hr'⟩ := (hr.below hb).at_ hlt
      have hsz := sizes_le (List.getElem_mem hlt)
      rw [hkj] at hsz
      simp only [Tm.size] at hsz
      have H3 := hide hkj
      clear hkj
      go_wp2_with (first | (go_at_call 17; refine (sOwnK_of ih k' n' ks' A' c' _ (by omega) (by omega) (hr'.alloc _)).mono ?_; rintro e w1 ⟨A1, c1, rfl, hl1, hf1, hb1⟩) | (at_builtin; refine wpList_append_built (B := w.heap.size) (m := j) (hp.alloc _) hb1 (by simp; have := hb.size; omega) hf1 hl1 (by simp; omega) (by omega) rfl _ _ rfl rfl rfl ?_; intro A2 c2 w2 hp2 hb2 hg2))
      go_roundw
      case rel => exact ⟨j + 1, by omega, by go_num, by rw [List.take_succ_eq_append_getElem hlt, H3.out]; exact hp2, (hb.trans (((Below.refl _ _).alloc (Nat.le_refl _) _).trans (hb1.mono (by simp)) |>.mono hb.size)).trans hb2⟩
      case measure => simp [intOf]; omega
    · have hjl : j = ks.length := by omega
      subst hjl
      rw [List.take_length] at hp
      obtain ⟨Ar, cr, rfl, hfr⟩ := hp.fresh
      go_wp2_with fail
      go_ret
      exact ⟨Ar, cr, rfl, hfr, hb⟩
/-- l19OwnTerm -/
theorem sOwn_any (k n : Int) (ks : List Tm) (A : Option Addr) (c : Nat) (w : World) (hM : sizes ks ≤ 1099511627776) (hr : Rd w A 0 ks) :
    Calls Tryz.prog 17 #[.agg #[.int .i64 k, .int .i64 n, .slice A ks.length c]] w (GotT w k n ks) := sOwnK_of (sOwnL_any (sizes ks + 1)) k n ks A c w (by omega) hM hr
end Go.Proofs.YtodkpgkefjegnaaGreatDoor
