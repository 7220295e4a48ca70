/-
  Texts of this claim, merged: contracts of the functions that the law reaches. No condition.
-/
import Derived.Test.YtjpgdfndlmipcaaDoorK1
import Derived.Test.YtjpgdfndlmipcaaDoorK4
import Derived.Test.YtjpgdfndlmipcaaDoorK5

namespace Go.Proofs.YtjpgdfndlmipcaaDoor
open Go.RowKit
set_option linter.unusedSimpArgs false
set_option linter.unusedVariables false

/-- texts with commas between -/
def jn : List (List UInt8) → List UInt8
  | [] => []
  | [b] => b
  | b :: bs => b ++ 44 :: jn bs
theorem jn_two (b d : List UInt8) (bs : List (List UInt8)) : jn (b :: d :: bs) = b ++ 44 :: jn (d :: bs) := by simp [jn]
theorem jn_snoc (x : List UInt8) : ∀ {xs : List (List UInt8)}, xs ≠ [] → jn (xs ++ [x]) = jn xs ++ 44 :: x
  | [], h => absurd rfl h
  | [b], _ => by simp [jn]
  | b :: d :: bs, _ => by
    have := jn_snoc x (xs := d :: bs) (by simp)
    rw [List.cons_append, List.cons_append, jn_two, jn_two, ← List.cons_append, this]; simp
theorem ser_jn (c : UInt8) : ∀ {xs : List (List UInt8)}, xs ≠ [] → ser c xs = jn xs ++ [c]
  | [], h => absurd rfl h
  | [b], _ => by simp [ser, jn]
  | b :: d :: bs, _ => by rw [ser_more, jn_two, ser_jn c (xs := d :: bs) (by simp)]; simp
theorem jn_le (x : List UInt8) (xs : List (List UInt8)) : (jn xs).length + x.length ≤ (jn (xs ++ [x])).length := by
  by_cases h : xs = []
  · subst h; simp [jn]
  · rw [jn_snoc x h]; simp only [List.length_append, List.length_cons]; omega
theorem jn_take {xs : List (List UInt8)} {j : Nat} (hj : j < xs.length) : (jn (xs.take j)).length + xs[j].length ≤ (jn xs).length := by
  have h : ∀ m, j + 1 + m ≤ xs.length → (jn (xs.take j)).length + xs[j].length ≤ (jn (xs.take (j + 1 + m))).length := by
    intro m
    induction m with
    | zero => intro _; rw [Nat.add_zero, List.take_succ_eq_append_getElem hj]; exact jn_le _ _
    | succ m ih =>
      intro hm
      have := ih (by omega)
      rw [show j + 1 + (m + 1) = (j + 1 + m) + 1 from by omega, List.take_succ_eq_append_getElem (by omega : j + 1 + m < xs.length)]
      have := jn_le (xs[j + 1 + m]'(by omega)) (xs.take (j + 1 + m))
      omega
  have := h (xs.length - (j + 1)) (by omega)
  rw [show j + 1 + (xs.length - (j + 1)) = xs.length from by omega, List.take_length] at this
  exact this

set_option maxHeartbeats 4000000 in
set_option maxRecDepth 100000 in
theorem list_any (ts : List Tm) (xs : List (List UInt8)) (hl : xs.length = ts.length) (hl4 : ts.length ≤ 1000) (hj : (jn xs).length ≤ 100000)
    (ih : ∀ (j : Nat) (k n : Int) (ks : List Tm) (x : List UInt8), ts[j]? = some (.mk k n ks) → xs[j]? = some x → TextOk k n ks x) (A : Option Addr) (c : Nat) (w : World) (hr : Rd w A 0 ts) :
    Calls Tryd.prog 81 #[.slice A ts.length c] w fun e w' => e = .returned (.string (byt (jn xs))) ∧ Below w.heap.size w w' := by
  have hl' := hide hl
  have ih' := hide ih
  clear hl ih
  go_enter Tryd.func81, Tryd.ntmps81
  go_wp2
  go_loopw [3, 4] (fun v jv wr => ∃ j : Nat, j ≤ ts.length ∧ jv = .int .i64 j ∧ v = .string (byt (jn (xs.take j))) ∧ Below w.heap.size w wr) (fun _ jv _ => ts.length - (intOf jv).toNat)
  case atStart => exact ⟨0, Nat.zero_le _, rfl, rfl, Below.refl _ _⟩
  case round =>
    obtain ⟨j, hjl, rfl, rfl, hb⟩ := hrel
    by_cases hlt : j < ts.length
    · have hlx : j < xs.length := by have := hl'.out; omega
      obtain ⟨bb, off, k', n', ks', A', c', rfl, hk, hc1, hc2, hc3, hln, hr'⟩ := (hr.below hb).at_ hlt
      obtain ⟨x, hx⟩ : ∃ x, xs[j] = x := ⟨_, rfl⟩
      have htk := jn_take hlx
      rw [hx] at htk
      have htx := hide (show ts[j]? = some (.mk k' n' ks') by rw [List.getElem?_eq_getElem hlt, hk])
      have hxx := hide (show xs[j]? = some x by rw [List.getElem?_eq_getElem hlx, hx])
      have hnext := hide (show xs.take (j + 1) = xs.take j ++ [x] by rw [List.take_succ_eq_append_getElem hlx, hx])
      have hne := hide (show 0 < j → xs.take j ≠ [] from fun h e => by have := congrArg List.length e; rw [List.length_take] at this; simp only [List.length_nil] at this; omega)
      have hj0 := hide (show j = 0 → xs.take j = [] from fun h => by rw [h]; rfl)
      have hx1 : x.length ≤ 100000 := by omega
      have hsub := hide (fun (w : World) (hr : Rd w A' 0 ks') => ih'.out j k' n' ks' x htx.out hxx.out A' c' w hx1 hr)
      clear hk hx
      generalize xs.take j = pr at *
      generalize hJ : jn pr = J at *
      have hJ' := hide hJ
      clear hJ
      by_cases h0 : j = 0
      · have q0 : decide (0 < j) = false := decide_eq_false (by omega)
        have q1 : ¬ 0 < j := by omega
        have hJn : J = [] := by rw [← hJ'.out, hj0.out h0]; rfl
        subst hJn
        have h0' := hide h0
        clear h0
        have a2 : ∀ w, (Op.stringOp .add (byt []) (byt x)).run Tryd.prog w = .ok (.string (byt x)) w := fun w => add_strE (a := []) rfl (by simp; omega) w
        go_wp2_with (go_at_call 64; refine (hsub.out _ hr').mono ?_; rintro e w1 ⟨rfl, hb1⟩)
        go_roundw
        case rel => exact ⟨j + 1, by omega, by go_num, by rw [hnext.out, hj0.out h0'.out]; rfl, hb.trans (hb1.mono hb.size)⟩
        case measure => simp [intOf]; omega
      · have q0 : decide (0 < (j : Int)) = true := decide_eq_true (by omega)
        have a1 : ∀ w, (Op.stringOp .add (byt J) ⟨#[44]⟩).run Tryd.prog w = .ok (.string (byt (J ++ [44]))) w := fun w => add_strE (b := [44]) rfl (by simp; omega) w
        have a2 : ∀ w, (Op.stringOp .add (byt (J ++ [44])) (byt x)).run Tryd.prog w = .ok (.string (byt (J ++ 44 :: x))) w := fun w => add_strE (a := J ++ [44]) (by simp) (by simp; omega) w
        go_wp2_with (go_at_call 64; refine (hsub.out _ hr').mono ?_; rintro e w1 ⟨rfl, hb1⟩)
        go_roundw
        case rel => exact ⟨j + 1, by omega, by go_num, by rw [hnext.out, jn_snoc x (hne.out (by omega)), hJ'.out], hb.trans (hb1.mono hb.size)⟩
        case measure => simp [intOf]; omega
    · have hjl : j = ts.length := by omega
      subst hjl
      have hall := hide (show xs.take ts.length = xs from List.take_of_length_le (by have := hl'.out; omega))
      go_wp2
      go_ret
      exact ⟨by rw [hall.out]; rfl, hb⟩

set_option maxHeartbeats 4000000 in
set_option maxRecDepth 100000 in
theorem text_blk {k : Int} {m : Nat} {o : List UInt8} {c : UInt8} (h : BlkK k m o c) (ts : List Tm) (xs : List (List UInt8)) (hm : ts.length = m) (hx : xs.length = m)
    (ih : ∀ (j : Nat) (k n : Int) (ks : List Tm) (x : List UInt8), ts[j]? = some (.mk k n ks) → xs[j]? = some x → TextOk k n ks x) : TextOk k 0 ts (o ++ ser c xs) := by
  intro A cc w hl hr
  have hne : xs ≠ [] := fun e => by subst e; rcases h with ⟨_, rfl, _, _⟩ | ⟨_, rfl, _, _⟩ | ⟨_, rfl, _, _⟩ | ⟨_, rfl, _, _⟩ <;> simp at hx
  have hm4 : ts.length ≤ 4 := by rcases h with ⟨_, rfl, _, _⟩ | ⟨_, rfl, _, _⟩ | ⟨_, rfl, _, _⟩ | ⟨_, rfl, _, _⟩ <;> omega
  rw [ser_jn c hne] at hl ⊢
  have hjl : (jn xs).length ≤ 100000 := by simp only [List.length_append, List.length_cons] at hl; omega
  have hlist := hide (fun w (hr : Rd w A 0 ts) => list_any ts xs (by omega) (by omega) hjl ih A cc w hr)
  clear ih hx hne hl
  generalize jn xs = J at *
  have hm' := hide hm
  rcases h with ⟨rfl, rfl, rfl, rfl⟩ | ⟨rfl, rfl, rfl, rfl⟩ | ⟨rfl, rfl, rfl, rfl⟩ | ⟨rfl, rfl, rfl, rfl⟩
  · clear hm
    have a1 : ∀ w, (Op.stringOp .add ⟨#[60]⟩ (byt J)).run Tryd.prog w = .ok (.string (byt (60 :: J))) w := fun w => add_strE (a := [60]) rfl (by simp; omega) w
    have a2 : ∀ w, (Op.stringOp .add (byt (60 :: J)) ⟨#[62]⟩).run Tryd.prog w = .ok (.string (byt (60 :: (J ++ [62])))) w := fun w => add_strE (a := 60 :: J) (b := [62]) rfl (by simp; omega) w
    go_enter Tryd.func64, Tryd.ntmps64
    go_wp2_with (go_at_call 81; refine (hlist.out _ (hr.alloc _)).mono ?_; rintro e w1 ⟨rfl, hb1⟩)
    go_ret
    exact ⟨ret_str (by simp [byt]), ((Below.refl _ _).alloc (Nat.le_refl _) _).trans (hb1.mono (by simp))⟩
  · clear hm
    have a1 : ∀ w, (Op.stringOp .add ⟨#[123]⟩ (byt J)).run Tryd.prog w = .ok (.string (byt (123 :: J))) w := fun w => add_strE (a := [123]) rfl (by simp; omega) w
    have a2 : ∀ w, (Op.stringOp .add (byt (123 :: J)) ⟨#[125]⟩).run Tryd.prog w = .ok (.string (byt (123 :: (J ++ [125])))) w := fun w => add_strE (a := 123 :: J) (b := [125]) rfl (by simp; omega) w
    go_enter Tryd.func64, Tryd.ntmps64
    go_wp2_with (go_at_call 81; refine (hlist.out _ (hr.alloc _)).mono ?_; rintro e w1 ⟨rfl, hb1⟩)
    go_ret
    exact ⟨ret_str (by simp [byt]), ((Below.refl _ _).alloc (Nat.le_refl _) _).trans (hb1.mono (by simp))⟩
  · clear hm
    have a1 : ∀ w, (Op.stringOp .add ⟨#[124]⟩ (byt J)).run Tryd.prog w = .ok (.string (byt (124 :: J))) w := fun w => add_strE (a := [124]) rfl (by simp; omega) w
    have a2 : ∀ w, (Op.stringOp .add (byt (124 :: J)) ⟨#[124]⟩).run Tryd.prog w = .ok (.string (byt (124 :: (J ++ [124])))) w := fun w => add_strE (a := 124 :: J) (b := [124]) rfl (by simp; omega) w
    go_enter Tryd.func64, Tryd.ntmps64
    go_wp2_with (go_at_call 81; refine (hlist.out _ (hr.alloc _)).mono ?_; rintro e w1 ⟨rfl, hb1⟩)
    go_ret
    exact ⟨ret_str (by simp [byt]), ((Below.refl _ _).alloc (Nat.le_refl _) _).trans (hb1.mono (by simp))⟩
  · clear hm
    have a1 : ∀ w, (Op.stringOp .add ⟨#[64, 60]⟩ (byt J)).run Tryd.prog w = .ok (.string (byt (64 :: 60 :: J))) w := fun w => add_strE (a := [64, 60]) rfl (by simp; omega) w
    have a2 : ∀ w, (Op.stringOp .add (byt (64 :: 60 :: J)) ⟨#[62]⟩).run Tryd.prog w = .ok (.string (byt (64 :: 60 :: (J ++ [62])))) w := fun w => add_strE (a := 64 :: 60 :: J) (b := [62]) rfl (by simp; omega) w
    go_enter Tryd.func64, Tryd.ntmps64
    go_wp2_with (go_at_call 81; refine (hlist.out _ (hr.alloc _)).mono ?_; rintro e w1 ⟨rfl, hb1⟩)
    go_ret
    exact ⟨ret_str (by simp [byt]), ((Below.refl _ _).alloc (Nat.le_refl _) _).trans (hb1.mono (by simp))⟩

theorem text_any {d : Nat} {t : Tm} {b : List UInt8} (h : Tx d t b) : ∀ (k n : Int) (ks : List Tm), t = .mk k n ks → TextOk k n ks b := by
  induction h with
  | var d n c h => rintro k' n' ks' ⟨⟩; exact text_var n c h
  | sort d n c h => rintro k' n' ks' ⟨⟩; exact text_sort n c h
  | nat d => rintro k' n' ks' ⟨⟩; exact text_nat
  | zero d => rintro k' n' ks' ⟨⟩; exact text_zero
  | pre d k c t b h ht ih => rintro k' n' ks' ⟨⟩; obtain ⟨k1, n1, ks1⟩ := t; exact text_pre h (ih k1 n1 ks1 rfl)
  | rnd d k c t u x y h ht hu i1 i2 => rintro k' n' ks' ⟨⟩; obtain ⟨k1, n1, ks1⟩ := t; obtain ⟨k2, n2, ks2⟩ := u; exact text_rnd h (i1 k1 n1 ks1 rfl) (i2 k2 n2 ks2 rfl)
  | lam d t u x y ht hu i1 i2 => rintro k' n' ks' ⟨⟩; obtain ⟨k1, n1, ks1⟩ := t; obtain ⟨k2, n2, ks2⟩ := u; exact text_lam (i1 k1 n1 ks1 rfl) (i2 k2 n2 ks2 rfl)
  | blk d k m o c ts xs h hm hx ht ih => rintro k' n' ks' ⟨⟩; exact text_blk h ts xs hm hx fun j k n ks x h1 h2 => ih j (.mk k n ks) x h1 h2 k n ks rfl
end Go.Proofs.YtjpgdfndlmipcaaDoor

namespace Go.Proofs.YtjpgdfndlmipcaaDoor.Cd
open Go.RowKit
set_option linter.unusedSimpArgs false
set_option linter.unusedVariables false

def TextOk (k n : Int) (ks : List Tm) (b : List UInt8) : Prop := ∀ (A : Option Addr) (c : Nat) (w : World), b.length ≤ 100000 → Rd w A 0 ks →
  Calls Tryd.prog 21 #[.agg #[.int .i64 k, .int .i64 n, .slice A ks.length c]] w fun e w' => e = .returned (.string (byt b)) ∧ Below w.heap.size w w'
set_option maxHeartbeats 4000000 in
set_option maxRecDepth 100000 in
theorem text_var (n : Nat) (h : n ≤ 20) : TextOk 1 n [] (35 :: Lib.decDigits n) := by
  intro A cc w _ _
  have hd := digits_le h
  have hsz : (byt (Lib.decDigits n)).size ≤ 1000 := by simp only [byt, ByteArray.size, List.size_toArray]; omega
  have hc := hide (fun w => dec2_any h w)
  generalize Lib.decDigits n = D at *
  go_enter Tryd.func21, Tryd.ntmps21
  go_wp2_with (go_at_call 34; refine (hc.out _).mono ?_; rintro e w1 ⟨rfl, hb1⟩)
  go_ret
  exact ⟨ret_str (by simp [byt]), ((Below.refl _ _).alloc (Nat.le_refl _) _).trans (hb1.mono (by simp))⟩
set_option maxHeartbeats 4000000 in
set_option maxRecDepth 100000 in
theorem text_zero : TextOk 4 0 [] [48] := by
  intro A cc w _ _
  go_enter Tryd.func21, Tryd.ntmps21
  go_wp2
  go_ret
  exact ⟨ret_str (by simp [byt]), (Below.refl _ _).alloc (Nat.le_refl _) _⟩
set_option maxHeartbeats 4000000 in
set_option maxRecDepth 100000 in
theorem text_unit : TextOk 10 0 [] [63] := by
  intro A cc w _ _
  go_enter Tryd.func21, Tryd.ntmps21
  go_wp2
  go_ret
  exact ⟨ret_str (by simp [byt]), (Below.refl _ _).alloc (Nat.le_refl _) _⟩
def PreK (k : Int) (c : UInt8) : Prop := k = 2 ∧ c = 46 ∨ k = 5 ∧ c = 43 ∨ k = 8 ∧ c = 94 ∨ k = 9 ∧ c = 95
set_option maxHeartbeats 4000000 in
set_option maxRecDepth 100000 in
theorem text_pre {k : Int} {c : UInt8} {k1 n1 : Int} {ks1 : List Tm} {b : List UInt8} (h : PreK k c) (ih : TextOk k1 n1 ks1 b) : TextOk k 0 [.mk k1 n1 ks1] (c :: b) := by
  intro A cc w hl hr
  obtain ⟨bb, off, k', n', ks', A', c', rfl, hk, hc1, hc2, hc3, hl', hr'⟩ := hr.at_ (j := 0) (by simp)
  injection hk with h1 h2 h3
  subst h1 h2 h3
  simp only [Nat.zero_mul, Nat.add_zero] at hc1 hc2 hc3
  have hb : b.length ≤ 100000 := by simp at hl; omega
  have hsz : (byt b).size ≤ 100000 := by simpa [byt, ByteArray.size] using hb
  have ih' := hide ih
  have bl : bb < w.heap.size := World.block_lt_of_cell? w _ hc1
  clear ih hr
  rcases h with ⟨rfl, rfl⟩ | ⟨rfl, rfl⟩ | ⟨rfl, rfl⟩ | ⟨rfl, rfl⟩
  all_goals
    go_enter Tryd.func21, Tryd.ntmps21
    go_wp2_with (go_at_call 21; refine (ih'.out A' c' _ hb (hr'.alloc _)).mono ?_; rintro e w1 ⟨rfl, hb1⟩)
    go_ret
    exact ⟨ret_str (by simp [byt]), ((Below.refl _ _).alloc (Nat.le_refl _) _).trans (hb1.mono (by simp))⟩
set_option maxHeartbeats 4000000 in
set_option maxRecDepth 100000 in
theorem text_call {k1 n1 : Int} {ks1 : List Tm} {x : List UInt8} {k2 n2 : Int} {ks2 : List Tm} {y : List UInt8} (ih1 : TextOk k1 n1 ks1 x) (ih2 : TextOk k2 n2 ks2 y) : TextOk 3 0 [.mk k1 n1 ks1, .mk k2 n2 ks2] (40 :: (x ++ 32 :: (y ++ [41]))) := by
  intro A cc w hl hr
  obtain ⟨bb, off, k', n', ks', A', c', rfl, hk, hc1, hc2, hc3, hl', hr'⟩ := hr.at_ (j := 0) (by simp)
  obtain ⟨b2, o2, k3, n3, ks3, A2, c2, hA, hk2, hd1, hd2, hd3, hl2, hr2⟩ := hr.at_ (j := 1) (by simp)
  injection hA with hA
  injection hA with h8 h9
  subst h8 h9
  injection hk with h1 h2 h3
  subst h1 h2 h3
  injection hk2 with h1 h2 h3
  subst h1 h2 h3
  simp only [Nat.zero_mul, Nat.add_zero, Nat.one_mul] at hc1 hc2 hc3 hd1 hd2 hd3
  have hbx1 : x.length ≤ 100000 := by simp at hl; omega
  have hby1 : y.length ≤ 100000 := by simp at hl; omega
  have ih1' := hide ih1
  have ih2' := hide ih2
  have bl : bb < w.heap.size := World.block_lt_of_cell? w _ hc1
  clear ih1 ih2 hr
  have a1 : ∀ w, (Op.stringOp .add ⟨#[40]⟩ (byt x)).run Tryd.prog w = .ok (.string (byt (40 :: x))) w := fun w => add_strE (a := [40]) rfl (by simp; omega) w
  have a2 : ∀ w, (Op.stringOp .add (byt (40 :: x)) ⟨#[32]⟩).run Tryd.prog w = .ok (.string (byt (40 :: (x ++ [32])))) w := fun w => add_strE (a := 40 :: x) (b := [32]) rfl (by simp; omega) w
  have a3 : ∀ w, (Op.stringOp .add (byt (40 :: (x ++ [32]))) (byt y)).run Tryd.prog w = .ok (.string (byt (40 :: (x ++ 32 :: y)))) w := fun w => add_strE (a := 40 :: (x ++ [32])) (b := y) (by simp) (by simp; omega) w
  have a4 : ∀ w, (Op.stringOp .add (byt (40 :: (x ++ 32 :: y))) ⟨#[41]⟩).run Tryd.prog w = .ok (.string (byt (40 :: (x ++ 32 :: (y ++ [41]))))) w := fun w => add_strE (a := 40 :: (x ++ 32 :: y)) (b := [41]) (by simp) (by simp; omega) w
  go_enter Tryd.func21, Tryd.ntmps21
  go_wp2_with fail
  refine name_world ?_
  intro wx hwx
  have hbx : Below w.heap.size w wx := by rw [hwx]; exact (Below.refl _ _).alloc (Nat.le_refl _) _
  have hX : Blk wx w.heap.size #[.int .i64 3, .int .i64 0, .slice (some ⟨bb, off, none⟩) 2 cc] := by rw [hwx]; exact Blk.new_ _ _ _ rfl
  have y0 := rule_of ((Keeps.of_below hbx) _ _ hc1)
  have y1 := rule_of ((Keeps.of_below hbx) _ _ hc2)
  have y2 := rule_of ((Keeps.of_below hbx) _ _ hc3)
  have z0 := rule_of ((Keeps.of_below hbx) _ _ hd1)
  have z1 := rule_of ((Keeps.of_below hbx) _ _ hd2)
  have z2 := rule_of ((Keeps.of_below hbx) _ _ hd3)
  have x2 := hX.rule (i := 2) rfl
  have sm1 := fun (w' : World) (hw' : Below wx.heap.size wx w') => ih1'.out A' c' w' hbx1 ((hr'.below hbx).below hw')
  have sm2 := fun (w' : World) (hw' : Below wx.heap.size wx w') => ih2'.out A2 c2 w' hby1 ((hr2.below hbx).below hw')
  clear hwx
  refine wp_region_class (fun w' => Below wx.heap.size wx w') (by kernel_rfl) (by kernel_rfl) (Below.refl _ _).drew ?_
  repeat (first | ((refine quiet_skip (a' := ?_) ?_ ?_ ?_); (rotate_left); (· (simp [Region.wanted, yielded, Go.undef]; done)); (· (simp only [Act.put, List.setIfInBounds_toArray, List.set_cons_zero, List.set_cons_succ]; exact rfl))) | ((refine quiet_one (v := ?_) (a' := ?_) ?_ ?_ ?_ ?_); (rotate_left 2); (· (simp [Region.wanted, yielded, Go.undef]; done)); (· (intro w' hS'; go_simp; try (with_reducible rfl))); (· (simp only [Act.put, List.setIfInBounds_toArray, List.set_cons_zero, List.set_cons_succ]; exact rfl))) | ((refine quiet_below (v := ?_) (a' := ?_) 21 ?_ ?_ ?_ ?_ ?_ ?_); (rotate_left 3); (· (simp [Region.wanted, yielded, Go.undef]; done)); (· (intro w' hS'; go_simp; try (with_reducible rfl))); (· (intro w' hS'; with_reducible exact sm1 w' hS')); (· (simp only [Act.put, List.setIfInBounds_toArray, List.set_cons_zero, List.set_cons_succ]; exact rfl))) | ((refine quiet_below (v := ?_) (a' := ?_) 21 ?_ ?_ ?_ ?_ ?_ ?_); (rotate_left 3); (· (simp [Region.wanted, yielded, Go.undef]; done)); (· (intro w' hS'; go_simp; try (with_reducible rfl))); (· (intro w' hS'; with_reducible exact sm2 w' hS')); (· (simp only [Act.put, List.setIfInBounds_toArray, List.set_cons_zero, List.set_cons_succ]; exact rfl))))
  refine quiet_nil ?_
  intro wa hx1
  clear sm1 sm2 y0 y1 y2 z0 z1 z2 x2
  go_wp2_with fail
  go_ret
  exact ⟨ret_str (by simp [byt]), hbx.trans (hx1.mono hbx.size)⟩
set_option maxHeartbeats 4000000 in
set_option maxRecDepth 100000 in
theorem list_any (ts : List Tm) (xs : List (List UInt8)) (hl : xs.length = ts.length) (hl4 : ts.length ≤ 1000) (hj : (jn xs).length ≤ 100000)
    (ih : ∀ (j : Nat) (k n : Int) (ks : List Tm) (x : List UInt8), ts[j]? = some (.mk k n ks) → xs[j]? = some x → TextOk k n ks x) (A : Option Addr) (c : Nat) (w : World) (hr : Rd w A 0 ts) :
    Calls Tryd.prog 35 #[.slice A ts.length c] w fun e w' => e = .returned (.string (byt (jn xs))) ∧ Below w.heap.size w w' := by
  have hl' := hide hl
  have ih' := hide ih
  clear hl ih
  go_enter Tryd.func35, Tryd.ntmps35
  go_wp2
  go_loopw [3, 4] (fun v jv wr => ∃ j : Nat, j ≤ ts.length ∧ jv = .int .i64 j ∧ v = .string (byt (jn (xs.take j))) ∧ Below w.heap.size w wr) (fun _ jv _ => ts.length - (intOf jv).toNat)
  case atStart => exact ⟨0, Nat.zero_le _, rfl, rfl, Below.refl _ _⟩
  case round =>
    obtain ⟨j, hjl, rfl, rfl, hb⟩ := hrel
    by_cases hlt : j < ts.length
    · have hlx : j < xs.length := by have := hl'.out; omega
      obtain ⟨bb, off, k', n', ks', A', c', rfl, hk, hc1, hc2, hc3, hln, hr'⟩ := (hr.below hb).at_ hlt
      obtain ⟨x, hx⟩ : ∃ x, xs[j] = x := ⟨_, rfl⟩
      have htk := jn_take hlx
      rw [hx] at htk
      have htx := hide (show ts[j]? = some (.mk k' n' ks') by rw [List.getElem?_eq_getElem hlt, hk])
      have hxx := hide (show xs[j]? = some x by rw [List.getElem?_eq_getElem hlx, hx])
      have hnext := hide (show xs.take (j + 1) = xs.take j ++ [x] by rw [List.take_succ_eq_append_getElem hlx, hx])
      have hne := hide (show 0 < j → xs.take j ≠ [] from fun h e => by have := congrArg List.length e; rw [List.length_take] at this; simp only [List.length_nil] at this; omega)
      have hj0 := hide (show j = 0 → xs.take j = [] from fun h => by rw [h]; rfl)
      have hx1 : x.length ≤ 100000 := by omega
      have hsub := hide (fun (w : World) (hr : Rd w A' 0 ks') => ih'.out j k' n' ks' x htx.out hxx.out A' c' w hx1 hr)
      clear hk hx
      generalize xs.take j = pr at *
      generalize hJ : jn pr = J at *
      have hJ' := hide hJ
      clear hJ
      by_cases h0 : j = 0
      · have q0 : decide (0 < j) = false := decide_eq_false (by omega)
        have q1 : ¬ 0 < j := by omega
        have hJn : J = [] := by rw [← hJ'.out, hj0.out h0]; rfl
        subst hJn
        have h0' := hide h0
        clear h0
        have a2 : ∀ w, (Op.stringOp .add (byt []) (byt x)).run Tryd.prog w = .ok (.string (byt x)) w := fun w => add_strE (a := []) rfl (by simp; omega) w
        go_wp2_with (go_at_call 21; refine (hsub.out _ hr').mono ?_; rintro e w1 ⟨rfl, hb1⟩)
        go_roundw
        case rel => exact ⟨j + 1, by omega, by go_num, by rw [hnext.out, hj0.out h0'.out]; rfl, hb.trans (hb1.mono hb.size)⟩
        case measure => simp [intOf]; omega
      · have q0 : decide (0 < (j : Int)) = true := decide_eq_true (by omega)
        have a1 : ∀ w, (Op.stringOp .add (byt J) ⟨#[44]⟩).run Tryd.prog w = .ok (.string (byt (J ++ [44]))) w := fun w => add_strE (b := [44]) rfl (by simp; omega) w
        have a2 : ∀ w, (Op.stringOp .add (byt (J ++ [44])) (byt x)).run Tryd.prog w = .ok (.string (byt (J ++ 44 :: x))) w := fun w => add_strE (a := J ++ [44]) (by simp) (by simp; omega) w
        go_wp2_with (go_at_call 21; refine (hsub.out _ hr').mono ?_; rintro e w1 ⟨rfl, hb1⟩)
        go_roundw
        case rel => exact ⟨j + 1, by omega, by go_num, by rw [hnext.out, jn_snoc x (hne.out (by omega)), hJ'.out], hb.trans (hb1.mono hb.size)⟩
        case measure => simp [intOf]; omega
    · have hjl : j = ts.length := by omega
      subst hjl
      have hall := hide (show xs.take ts.length = xs from List.take_of_length_le (by have := hl'.out; omega))
      go_wp2
      go_ret
      exact ⟨by rw [hall.out]; rfl, hb⟩


def BlkK (k : Int) (m : Nat) (o c : UInt8) : Prop := k = 6 ∧ m = 3 ∧ o = 60 ∧ c = 62 ∨ k = 7 ∧ m = 2 ∧ o = 124 ∧ c = 124
set_option maxHeartbeats 4000000 in
set_option maxRecDepth 100000 in
theorem text_blk {k : Int} {m : Nat} {o c : UInt8} (h : BlkK k m o c) (ts : List Tm) (xs : List (List UInt8)) (hm : ts.length = m) (hx : xs.length = m)
    (ih : ∀ (j : Nat) (k n : Int) (ks : List Tm) (x : List UInt8), ts[j]? = some (.mk k n ks) → xs[j]? = some x → TextOk k n ks x) : TextOk k 0 ts (o :: (jn xs ++ [c])) := by
  intro A cc w hl hr
  have hm4 : ts.length ≤ 4 := by rcases h with ⟨_, rfl, _, _⟩ | ⟨_, rfl, _, _⟩ <;> omega
  have hjl : (jn xs).length ≤ 100000 := by simp only [List.length_append, List.length_cons] at hl; omega
  have hlist := hide (fun w (hr : Rd w A 0 ts) => list_any ts xs (by omega) (by omega) hjl ih A cc w hr)
  clear ih hx hl
  generalize jn xs = J at *
  have hm' := hide hm
  rcases h with ⟨rfl, rfl, rfl, rfl⟩ | ⟨rfl, rfl, rfl, rfl⟩
  · clear hm
    have a1 : ∀ w, (Op.stringOp .add ⟨#[60]⟩ (byt J)).run Tryd.prog w = .ok (.string (byt (60 :: J))) w := fun w => add_strE (a := [60]) rfl (by simp; omega) w
    have a2 : ∀ w, (Op.stringOp .add (byt (60 :: J)) ⟨#[62]⟩).run Tryd.prog w = .ok (.string (byt (60 :: (J ++ [62])))) w := fun w => add_strE (a := 60 :: J) (b := [62]) rfl (by simp; omega) w
    go_enter Tryd.func21, Tryd.ntmps21
    go_wp2_with (go_at_call 35; refine (hlist.out _ (hr.alloc _)).mono ?_; rintro e w1 ⟨rfl, hb1⟩)
    go_ret
    exact ⟨ret_str (by simp [byt]), ((Below.refl _ _).alloc (Nat.le_refl _) _).trans (hb1.mono (by simp))⟩
  · clear hm
    have a1 : ∀ w, (Op.stringOp .add ⟨#[124]⟩ (byt J)).run Tryd.prog w = .ok (.string (byt (124 :: J))) w := fun w => add_strE (a := [124]) rfl (by simp; omega) w
    have a2 : ∀ w, (Op.stringOp .add (byt (124 :: J)) ⟨#[124]⟩).run Tryd.prog w = .ok (.string (byt (124 :: (J ++ [124])))) w := fun w => add_strE (a := 124 :: J) (b := [124]) rfl (by simp; omega) w
    go_enter Tryd.func21, Tryd.ntmps21
    go_wp2_with (go_at_call 35; refine (hlist.out _ (hr.alloc _)).mono ?_; rintro e w1 ⟨rfl, hb1⟩)
    go_ret
    exact ⟨ret_str (by simp [byt]), ((Below.refl _ _).alloc (Nat.le_refl _) _).trans (hb1.mono (by simp))⟩
theorem two_of {α : Type} : ∀ {l : List α}, l.length = 2 → ∃ a b, l = [a, b]
  | [a, b], _ => ⟨a, b, rfl⟩
theorem one_of {α : Type} : ∀ {l : List α}, l.length = 1 → ∃ a, l = [a]
  | [a], _ => ⟨a, rfl⟩
theorem three_of {α : Type} : ∀ {l : List α}, l.length = 3 → ∃ a b c, l = [a, b, c]
  | [a, b, c], _ => ⟨a, b, c, rfl⟩
/-- the reference's text of a code -/
theorem text_any {d : Nat} {t : Tm} {b : List UInt8} (h : Tc d t b) : ∀ (k n : Int) (ks : List Tm), t = .mk k n ks → TextOk k n ks b := by
  induction h with
  | num d n h => rintro k' n' ks' ⟨⟩; exact text_var n h
  | node d k ts xs hk hl hx ht ih =>
    rintro k' n' ks' ⟨⟩
    have ih' : ∀ (j : Nat) (k n : Int) (ks : List Tm) (x : List UInt8), ts[j]? = some (.mk k n ks) → xs[j]? = some x → TextOk k n ks x := fun j k n ks x h1 h2 => ih j (.mk k n ks) x h1 h2 k n ks rfl
    clear ih ht
    rcases kinds hk with rfl | rfl | rfl | rfl | rfl | rfl | rfl | rfl | rfl
    · have e : ts.length = 1 := by rw [show (prt 2).length = 2 from rfl] at hl; omega
      obtain ⟨⟨k1, n1, ks1⟩, rfl⟩ := one_of e
      obtain ⟨x, rfl⟩ := one_of (hx.trans e)
      have := text_pre (k := 2) (c := 46) (by unfold PreK; decide) (ih' 0 k1 n1 ks1 x rfl rfl)
      simpa [inter, prt, rem] using this
    · have e : ts.length = 2 := by rw [show (prt 3).length = 3 from rfl] at hl; omega
      obtain ⟨⟨k1, n1, ks1⟩, ⟨k2, n2, ks2⟩, rfl⟩ := two_of e
      obtain ⟨x, y, rfl⟩ := two_of (hx.trans e)
      have := text_call (ih' 0 k1 n1 ks1 x rfl rfl) (ih' 1 k2 n2 ks2 y rfl rfl)
      simpa [inter, prt, rem] using this
    · have e : ts.length = 0 := by rw [show (prt 4).length = 1 from rfl] at hl; omega
      have e1 := List.eq_nil_of_length_eq_zero e
      subst e1
      have e1 := List.eq_nil_of_length_eq_zero hx
      subst e1
      exact text_zero
    · have e : ts.length = 1 := by rw [show (prt 5).length = 2 from rfl] at hl; omega
      obtain ⟨⟨k1, n1, ks1⟩, rfl⟩ := one_of e
      obtain ⟨x, rfl⟩ := one_of (hx.trans e)
      have := text_pre (k := 5) (c := 43) (by unfold PreK; decide) (ih' 0 k1 n1 ks1 x rfl rfl)
      simpa [inter, prt, rem] using this
    · have e : ts.length = 3 := by rw [show (prt 6).length = 4 from rfl] at hl; omega
      obtain ⟨x, y, z, rfl⟩ := three_of (hx.trans e)
      have := text_blk (k := 6) (m := 3) (o := 60) (c := 62) (.inl ⟨rfl, rfl, rfl, rfl⟩) ts [x, y, z] e rfl ih'
      simpa [inter, prt, rem, jn] using this
    · have e : ts.length = 2 := by rw [show (prt 7).length = 3 from rfl] at hl; omega
      obtain ⟨x, y, rfl⟩ := two_of (hx.trans e)
      have := text_blk (k := 7) (m := 2) (o := 124) (c := 124) (.inr ⟨rfl, rfl, rfl, rfl⟩) ts [x, y] e rfl ih'
      simpa [inter, prt, rem, jn] using this
    · have e : ts.length = 1 := by rw [show (prt 8).length = 2 from rfl] at hl; omega
      obtain ⟨⟨k1, n1, ks1⟩, rfl⟩ := one_of e
      obtain ⟨x, rfl⟩ := one_of (hx.trans e)
      have := text_pre (k := 8) (c := 94) (by unfold PreK; decide) (ih' 0 k1 n1 ks1 x rfl rfl)
      simpa [inter, prt, rem] using this
    · have e : ts.length = 1 := by rw [show (prt 9).length = 2 from rfl] at hl; omega
      obtain ⟨⟨k1, n1, ks1⟩, rfl⟩ := one_of e
      obtain ⟨x, rfl⟩ := one_of (hx.trans e)
      have := text_pre (k := 9) (c := 95) (by unfold PreK; decide) (ih' 0 k1 n1 ks1 x rfl rfl)
      simpa [inter, prt, rem] using this
    · have e : ts.length = 0 := by rw [show (prt 10).length = 1 from rfl] at hl; omega
      have e1 := List.eq_nil_of_length_eq_zero e
      subst e1
      have e1 := List.eq_nil_of_length_eq_zero hx
      subst e1
      exact text_unit
end Go.Proofs.YtjpgdfndlmipcaaDoor.Cd

namespace Go.Proofs.YtjpgdfndlmipcaaDoor.Nw
open Go.RowKit
set_option linter.unusedSimpArgs false
set_option linter.unusedVariables false

mutual
/-- how many nodes; much more where a node has a wrong number of operands -/
def wz : Tm → Nat | .mk k n ks => wzs ks + 1 + (if arity k = (ks.length : Int) then 0 else 1000000000)
def wzs : List Tm → Nat | [] => 0 | t :: ts => wz t + wzs ts
end
theorem wz_ok {k n : Int} {ks : List Tm} (h : arity k = (ks.length : Int)) : wz (.mk k n ks) = wzs ks + 1 := by rw [wz, if_pos h]
theorem wz1 (n : Int) : wz (.mk 1 n []) = 1 := rfl
theorem wz6 (n : Int) : wz (.mk 6 n []) = 1 := rfl
theorem wz7 (n : Int) : wz (.mk 7 n []) = 1 := rfl
theorem wz8 (n : Int) (a : Tm) : wz (.mk 8 n [a]) = wz a + 1 := wz_ok rfl
theorem wz11 (n : Int) (a : Tm) : wz (.mk 11 n [a]) = wz a + 1 := wz_ok rfl
theorem wz15 (n : Int) (a : Tm) : wz (.mk 15 n [a]) = wz a + 1 := wz_ok rfl
theorem wz16 (n : Int) (a : Tm) : wz (.mk 16 n [a]) = wz a + 1 := wz_ok rfl
theorem wzx {x : Int} (h : x ∈ ([15, 16] : List Int)) (n : Int) (a : Tm) : wz (.mk x n [a]) = wz a + 1 := by
  simp only [List.mem_cons, List.not_mem_nil, or_false] at h
  rcases h with rfl | rfl
  · exact wz15 n a
  · exact wz16 n a
theorem wz4 (n : Int) (a b : Tm) : wz (.mk 4 n [a, b]) = wz a + (wz b + 0) + 1 := wz_ok rfl
theorem wz5 (n : Int) (a b : Tm) : wz (.mk 5 n [a, b]) = wz a + (wz b + 0) + 1 := wz_ok rfl
theorem wz13 (n : Int) (a b : Tm) : wz (.mk 13 n [a, b]) = wz a + (wz b + 0) + 1 := wz_ok rfl
theorem wz12 (n : Int) (a b c : Tm) : wz (.mk 12 n [a, b, c]) = wz a + (wz b + (wz c + 0)) + 1 := wz_ok rfl
theorem wz14 (n : Int) (a b c : Tm) : wz (.mk 14 n [a, b, c]) = wz a + (wz b + (wz c + 0)) + 1 := wz_ok rfl
theorem wz9 (n : Int) (a b c d : Tm) : wz (.mk 9 n [a, b, c, d]) = wz a + (wz b + (wz c + (wz d + 0))) + 1 := wz_ok rfl
end Go.Proofs.YtjpgdfndlmipcaaDoor.Nw

namespace Go.Proofs.YtjpgdfndlmipcaaDoor.Cd
open Go.RowKit Nw
set_option linter.unusedSimpArgs false
set_option linter.unusedVariables false

theorem four_of {α : Type} : ∀ {l : List α}, l.length = 4 → ∃ a b c d, l = [a, b, c, d]
  | [a, b, c, d], _ => ⟨a, b, c, d, rfl⟩
theorem wz_ar {k n : Int} {ks : List Tm} {m : Nat} (h : wz (.mk k n ks) ≤ m) (hm : m ≤ 100000000) : Go.Proofs.YtjpgdfndlmipcaaDoor.arity k = (ks.length : Int) := by
  rw [wz] at h
  by_cases e : Go.Proofs.YtjpgdfndlmipcaaDoor.arity k = (ks.length : Int)
  · exact e
  · rw [if_neg e] at h; omega
theorem wz_pos (t : Tm) : sizes [] + 1 ≤ wz t := by cases t; rw [wz]; simp only [sizes]; omega
/-- a code in new blocks, of at most so many nodes -/
def GotX (s : Nat) (w : World) (e : Ending) (w' : World) : Prop :=
  ∃ (k n : Int) (ks : List Tm) (A : Option Addr) (c : Nat), e = .returned (.agg #[.int .i64 k, .int .i64 n, .slice A ks.length c]) ∧ ks.length ≤ 9223372036854775807 ∧ sizes ks + 1 ≤ s ∧ RdP (fun b => w.heap.size ≤ b) w' A 0 ks ∧ Below w.heap.size w w'
theorem ext_done {w w1 : World} {k n : Int} {ks : List Tm} {A : Option Addr} {c s : Nat} {x y z : Value} (hl : ks.length ≤ 9223372036854775807) (hs : sizes ks + 1 ≤ s) (hk : RdP (fun b => w.heap.size + 1 < b) w1 A 0 ks) (hb : Below w.heap.size w w1) :
    GotX s w (.returned (.agg #[.int .i64 k, .int .i64 n, .slice A ks.length c])) (((w1.setCell ⟨w.heap.size + 1, 0, none⟩ x).setCell ⟨w.heap.size + 1, 1, none⟩ y).setCell ⟨w.heap.size + 1, 2, none⟩ z) := by
  refine ⟨k, n, ks, A, c, rfl, hl, hs, ?_, ?_⟩
  · exact (((hk.setCell (by simp) _).setCell (by simp) _).setCell (by simp) _).mono (fun b hb => by omega)
  · exact ((hb.setCell (by simp) _).setCell (by simp) _).setCell (by simp) _
def ExtO (N : Nat) : Prop := ∀ (k n : Int) (ks : List Tm) (A : Option Addr) (c : Nat) (w : World), wz (.mk k n ks) < N → wz (.mk k n ks) ≤ 1000000 → ks.length ≤ 9223372036854775807 → Rd w A 0 ks →
  Calls Tryd.prog 28 #[.agg #[.int .i64 k, .int .i64 n, .slice A ks.length c]] w (GotX (wz (.mk k n ks)) w)
set_option maxHeartbeats 4000000 in
set_option maxRecDepth 100000 in
theorem ext_4 {N : Nat} (ih : ExtO N) (n : Int) (ks : List Tm) (A : Option Addr) (c : Nat) (w : World) (hN : wz (.mk 4 n ks) < N + 1) (hM : wz (.mk 4 n ks) ≤ 1000000) (hr : Rd w A 0 ks) :
    Calls Tryd.prog 28 #[.agg #[.int .i64 4, .int .i64 n, .slice A ks.length c]] w (GotX (wz (.mk 4 n ks)) w) := by
  obtain ⟨⟨k0, n0, ks0⟩, ⟨k1, n1, ks1⟩, rfl⟩ := two_of (l := ks) (by have := wz_ar hM (by omega); simp [Go.Proofs.YtjpgdfndlmipcaaDoor.arity] at this; omega)
  rw [wz4] at hN hM ⊢
  obtain ⟨b1, o1, k', n', ks', A1, c1, rfl, hk, hc10, hc11, hc12, hl1, hr1⟩ := hr.at_ (j := 1) (by simp)
  injection hk with h1 h2 h3
  subst h1 h2 h3
  try simp only [Nat.zero_mul, Nat.add_zero, Nat.one_mul] at hc10 hc11 hc12
  have bl : b1 < w.heap.size := World.block_lt_of_cell? w _ hc10
  go_enter Tryd.func28, Tryd.ntmps28
  go_wp2_with (first
    | (go_at_call 29; have _t := tok1; refine (node_q (L := w.heap.size + 1) (us := [.mk u1 v1 us1]) 2 (by simp; omega) (rdx_cons hul1 (hR1.alloc _) rfl) (by simp) _ 1 (Blk.new_ _ 25 _ rfl)).mono ?_; rintro e w7 ⟨A7, c7, rfl, hl7, hk7, hb7⟩; have hZ7 := (hZ4.alloc (.cells #[.int .i64 u1, .int .i64 v1, .slice B1 us1.length q1] 25)).keep hb7; obtain ⟨d0, d1, d2⟩ := hZ7.three; have e0 := hZ7.frozen 0; have e1 := hZ7.frozen 1; have e2 := hZ7.frozen 2)
    | (go_at_call 28; refine name_callsN ?_; intro wx hwx; have hbx : Below w.heap.size w wx := (by rw [hwx]; exact ((Below.refl _ _).alloc (Nat.le_refl _) _).alloc (by simp) _); have hZ : Blk wx (w.heap.size + 1) #[.int .i64 0, .int .i64 0, .slice none 0 0] := (by rw [hwx]; exact Blk.new_ _ 25 _ (by simp)); clear hwx; refine (ih k1 n1 ks1 A1 c1 wx (by omega) (by omega) hl1 (hr1.below hbx)).mono ?_; rintro e w4 ⟨u1, v1, us1, B1, q1, rfl, hul1, hus1, hur1, hub1⟩; have sx := hZ.lt; have hR1 := hur1.mono (q := fun b => w.heap.size + 1 < b) (fun b hb => Nat.lt_of_lt_of_le sx hb); have hZ4 := hZ.keep hub1; have s4 := hub1.size; have hb4 : Below w.heap.size w w4 := hbx.trans (hub1.mono hbx.size); have tok1 := trivial))
  refine bodyPost_ret (v := .agg #[.int .i64 2, .int .i64 0, .slice A7 1 c7]) (by simp [results, Tryd.results28, go_sem, d0, d1, d2]) rfl (ext_done (ks := [.mk u1 v1 us1]) (by simp) (by simp only [sizes, Tm.size]; omega) hk7 ((hb4.alloc (by omega) _).trans (hb7.mono (by simp; omega))))
set_option maxHeartbeats 4000000 in
set_option maxRecDepth 100000 in
theorem ext_5 {N : Nat} (ih : ExtO N) (n : Int) (ks : List Tm) (A : Option Addr) (c : Nat) (w : World) (hN : wz (.mk 5 n ks) < N + 1) (hM : wz (.mk 5 n ks) ≤ 1000000) (hr : Rd w A 0 ks) :
    Calls Tryd.prog 28 #[.agg #[.int .i64 5, .int .i64 n, .slice A ks.length c]] w (GotX (wz (.mk 5 n ks)) w) := by
  obtain ⟨⟨k0, n0, ks0⟩, ⟨k1, n1, ks1⟩, rfl⟩ := two_of (l := ks) (by have := wz_ar hM (by omega); simp [Go.Proofs.YtjpgdfndlmipcaaDoor.arity] at this; omega)
  rw [wz5] at hN hM ⊢
  obtain ⟨b0, o0, k', n', ks', A0, c0, rfl, hk, hc00, hc01, hc02, hl0, hr0⟩ := hr.at_ (j := 0) (by simp)
  injection hk with h1 h2 h3
  subst h1 h2 h3
  try simp only [Nat.zero_mul, Nat.add_zero, Nat.one_mul] at hc00 hc01 hc02
  obtain ⟨b1, o1, k', n', ks', A1, c1, hA, hk, hc10, hc11, hc12, hl1, hr1⟩ := hr.at_ (j := 1) (by simp)
  injection hA with hA
  injection hA with h8 h9
  subst h8 h9
  injection hk with h1 h2 h3
  subst h1 h2 h3
  try simp only [Nat.zero_mul, Nat.add_zero, Nat.one_mul] at hc10 hc11 hc12
  have bl : b0 < w.heap.size := World.block_lt_of_cell? w _ hc00
  go_enter Tryd.func28, Tryd.ntmps28
  go_wp2_with fail
  refine name_world ?_
  intro wx hwx
  have hbx : Below w.heap.size w wx := by rw [hwx]; exact ((Below.refl _ _).alloc (Nat.le_refl _) _).alloc (by simp) _
  have hX : Blk wx w.heap.size #[.int .i64 5, .int .i64 n, .slice (some ⟨b0, o0, none⟩) 2 c] := by rw [hwx]; exact (Blk.new_ _ _ _ rfl).alloc _
  have hZ : Blk wx (w.heap.size + 1) #[.int .i64 0, .int .i64 0, .slice none 0 0] := by rw [hwx]; exact Blk.new_ _ 25 _ (by simp)
  have sx := hZ.lt
  have y00 := rule_of ((Keeps.of_below hbx) _ _ hc00)
  have y01 := rule_of ((Keeps.of_below hbx) _ _ hc01)
  have y02 := rule_of ((Keeps.of_below hbx) _ _ hc02)
  have y10 := rule_of ((Keeps.of_below hbx) _ _ hc10)
  have y11 := rule_of ((Keeps.of_below hbx) _ _ hc11)
  have y12 := rule_of ((Keeps.of_below hbx) _ _ hc12)
  have x2 := hX.rule (i := 2) rfl
  clear hwx
  refine wp_region_firstY (fun w' => Below wx.heap.size wx w') [0, 1, 2, 3, 5, 6, 7, 8] [4, 9, 10, 11] [12] [_, _, _, _, _, _, _, _] [_, _, _, _] [_] (by kernel_rfl) (by kernel_rfl) rfl rfl rfl (fun _ _ d _ _ h => by cases d <;> exact h) (Below.refl _ _).drew ?_
  repeat (first | ((refine takeY_skip (a' := ?_) ?_ ?_ ?_); (rotate_left); (· (simp [Region.wanted, yielded, Go.undef]; done)); (· (simp only [List.getElem_toArray, List.getElem_cons_zero, List.getElem_cons_succ, Act.put, List.setIfInBounds_toArray, List.set_cons_zero, List.set_cons_succ]; exact rfl))) | ((refine takeY_step (v := ?_) (a' := ?_) ?_ ?_ ?_ ?_); (rotate_left 2); (· (simp [Region.wanted, yielded, Go.undef]; done)); (· (intro w' hS'; go_simp; try (with_reducible rfl))); (· (simp only [List.getElem_toArray, List.getElem_cons_zero, List.getElem_cons_succ, Act.put, List.setIfInBounds_toArray, List.set_cons_zero, List.set_cons_succ]; exact rfl))))
  refine takeY_nil (then_cons ?_)
  go_wp2_with (go_at_call 28; refine (ih k0 n0 ks0 A0 c0 _ (by omega) (by omega) hl0 ((hr0.below hbx).drew)).mono ?_; rintro e w3 ⟨u0, v0, us0, B0, q0, rfl, hul0, hus0, hur0, hub0⟩)
  have G0 : Below wx.heap.size wx w3 := (Below.refl _ _).drew.trans hub0
  have hR0 := hur0.mono (q := fun b => w.heap.size + 1 < b) (fun b hb => Nat.lt_of_lt_of_le sx hb)
  refine mid_intro G0 (then_cons ?_)
  go_wp2_with (go_at_call 28; refine (ih k1 n1 ks1 A1 c1 _ (by omega) (by omega) hl1 ((hr1.below hbx).below G0)).mono ?_; rintro e w4 ⟨u1, v1, us1, B1, q1, rfl, hul1, hus1, hur1, hub1⟩)
  have G1 : Below wx.heap.size wx w4 := G0.trans (hub1.mono G0.size)
  have hR1 := hur1.mono (q := fun b => w.heap.size + 1 < b) (fun b hb => Nat.lt_of_lt_of_le (Nat.lt_of_lt_of_le sx G0.size) hb)
  replace hR0 := hR0.below hub1
  refine mid_intro G1 (then_cons ?_)
  go_wp2_with fail
  have s9 := G1.size
  refine mid_intro (G1.alloc s9 _) (then_cons ?_)
  go_wp2_with (go_at_call 29; refine (node_q (L := w.heap.size + 1) (us := [.mk u0 v0 us0, .mk u1 v1 us1]) 3 (by simp; omega) (rdx_cons hul0 (hR0.alloc _) (rdx_cons hul1 (hR1.alloc _) rfl)) (by simp) _ 2 (Blk.new_ _ 25 _ rfl)).mono ?_; rintro e w9 ⟨A9, c9, rfl, hl9, hk9, hb9⟩)
  have G9 : Below wx.heap.size wx w9 := (G1.alloc s9 _).trans (hb9.mono (by simp; omega))
  refine mid_intro G9 (then_nil ?_)
  have hZ9 := hZ.keep G9
  obtain ⟨d0, d1, d2⟩ := hZ9.three
  have e0 := hZ9.frozen 0
  have e1 := hZ9.frozen 1
  have e2 := hZ9.frozen 2
  go_wp2_with fail
  refine bodyPost_ret (v := .agg #[.int .i64 3, .int .i64 0, .slice A9 2 c9]) (by simp [results, Tryd.results28, go_sem, d0, d1, d2]) rfl (ext_done (ks := [.mk u0 v0 us0, .mk u1 v1 us1]) (by simp) (by simp only [sizes, Tm.size]; omega) hk9 (hbx.trans (G9.mono hbx.size)))
set_option maxHeartbeats 4000000 in
set_option maxRecDepth 100000 in
theorem ext_7 {N : Nat} (ih : ExtO N) (n : Int) (ks : List Tm) (A : Option Addr) (c : Nat) (w : World) (hN : wz (.mk 7 n ks) < N + 1) (hM : wz (.mk 7 n ks) ≤ 1000000) (hr : Rd w A 0 ks) :
    Calls Tryd.prog 28 #[.agg #[.int .i64 7, .int .i64 n, .slice A ks.length c]] w (GotX (wz (.mk 7 n ks)) w) := by
  have e := List.eq_nil_of_length_eq_zero (show ks.length = 0 by have := wz_ar hM (by omega); simp [Go.Proofs.YtjpgdfndlmipcaaDoor.arity] at this; omega)
  subst e
  go_enter Tryd.func28, Tryd.ntmps28
  go_wp2_with (go_at_call 29; refine name_callsN ?_; intro wx hwx; have hbx : Below w.heap.size w wx := (by rw [hwx]; exact ((Below.refl _ _).alloc (Nat.le_refl _) _).alloc (by simp) _); have hZ : Blk wx (w.heap.size + 1) #[.int .i64 0, .int .i64 0, .slice none 0 0] := (by rw [hwx]; exact Blk.new_ _ 25 _ (by simp)); clear hwx; refine (node0_any _ _).mono ?_; rintro e w7 ⟨A7, c7, rfl, hb7⟩; have hZ7 := hZ.keep hb7; have lz7 := hZ7.lt; obtain ⟨d0, d1, d2⟩ := hZ7.three; have e0 := hZ7.frozen 0; have e1 := hZ7.frozen 1; have e2 := hZ7.frozen 2)
  refine bodyPost_ret (v := .agg #[.int .i64 4, .int .i64 0, .slice A7 0 c7]) (by simp [results, Tryd.results28, go_sem, d0, d1, d2]) rfl (ext_done (ks := []) (by simp) (wz_pos _) RdP.nil (hbx.trans (hb7.mono hbx.size)))
set_option maxHeartbeats 4000000 in
set_option maxRecDepth 100000 in
theorem ext_8 {N : Nat} (ih : ExtO N) (n : Int) (ks : List Tm) (A : Option Addr) (c : Nat) (w : World) (hN : wz (.mk 8 n ks) < N + 1) (hM : wz (.mk 8 n ks) ≤ 1000000) (hr : Rd w A 0 ks) :
    Calls Tryd.prog 28 #[.agg #[.int .i64 8, .int .i64 n, .slice A ks.length c]] w (GotX (wz (.mk 8 n ks)) w) := by
  obtain ⟨⟨k0, n0, ks0⟩, rfl⟩ := one_of (l := ks) (by have := wz_ar hM (by omega); simp [Go.Proofs.YtjpgdfndlmipcaaDoor.arity] at this; omega)
  rw [wz8] at hN hM ⊢
  obtain ⟨b0, o0, k', n', ks', A0, c0, rfl, hk, hc00, hc01, hc02, hl0, hr0⟩ := hr.at_ (j := 0) (by simp)
  injection hk with h1 h2 h3
  subst h1 h2 h3
  try simp only [Nat.zero_mul, Nat.add_zero, Nat.one_mul] at hc00 hc01 hc02
  have bl : b0 < w.heap.size := World.block_lt_of_cell? w _ hc00
  go_enter Tryd.func28, Tryd.ntmps28
  go_wp2_with (first
    | (go_at_call 29; have _t := tok1; refine (node_q (L := w.heap.size + 1) (us := [.mk u0 v0 us0]) 5 (by simp; omega) (rdx_cons hul0 (hR0.alloc _) rfl) (by simp) _ 1 (Blk.new_ _ 25 _ rfl)).mono ?_; rintro e w7 ⟨A7, c7, rfl, hl7, hk7, hb7⟩; have hZ7 := (hZ4.alloc (.cells #[.int .i64 u0, .int .i64 v0, .slice B0 us0.length q0] 25)).keep hb7; obtain ⟨d0, d1, d2⟩ := hZ7.three; have e0 := hZ7.frozen 0; have e1 := hZ7.frozen 1; have e2 := hZ7.frozen 2)
    | (go_at_call 28; refine name_callsN ?_; intro wx hwx; have hbx : Below w.heap.size w wx := (by rw [hwx]; exact ((Below.refl _ _).alloc (Nat.le_refl _) _).alloc (by simp) _); have hZ : Blk wx (w.heap.size + 1) #[.int .i64 0, .int .i64 0, .slice none 0 0] := (by rw [hwx]; exact Blk.new_ _ 25 _ (by simp)); clear hwx; refine (ih k0 n0 ks0 A0 c0 wx (by omega) (by omega) hl0 (hr0.below hbx)).mono ?_; rintro e w4 ⟨u0, v0, us0, B0, q0, rfl, hul0, hus0, hur0, hub0⟩; have sx := hZ.lt; have hR0 := hur0.mono (q := fun b => w.heap.size + 1 < b) (fun b hb => Nat.lt_of_lt_of_le sx hb); have hZ4 := hZ.keep hub0; have s4 := hub0.size; have hb4 : Below w.heap.size w w4 := hbx.trans (hub0.mono hbx.size); have tok1 := trivial))
  refine bodyPost_ret (v := .agg #[.int .i64 5, .int .i64 0, .slice A7 1 c7]) (by simp [results, Tryd.results28, go_sem, d0, d1, d2]) rfl (ext_done (ks := [.mk u0 v0 us0]) (by simp) (by simp only [sizes, Tm.size]; omega) hk7 ((hb4.alloc (by omega) _).trans (hb7.mono (by simp; omega))))
set_option maxHeartbeats 4000000 in
set_option maxRecDepth 100000 in
theorem ext_9 {N : Nat} (ih : ExtO N) (n : Int) (ks : List Tm) (A : Option Addr) (c : Nat) (w : World) (hN : wz (.mk 9 n ks) < N + 1) (hM : wz (.mk 9 n ks) ≤ 1000000) (hr : Rd w A 0 ks) :
    Calls Tryd.prog 28 #[.agg #[.int .i64 9, .int .i64 n, .slice A ks.length c]] w (GotX (wz (.mk 9 n ks)) w) := by
  obtain ⟨⟨k0, n0, ks0⟩, ⟨k1, n1, ks1⟩, ⟨k2, n2, ks2⟩, ⟨k3, n3, ks3⟩, rfl⟩ := four_of (l := ks) (by have := wz_ar hM (by omega); simp [Go.Proofs.YtjpgdfndlmipcaaDoor.arity] at this; omega)
  rw [wz9] at hN hM ⊢
  obtain ⟨b1, o1, k', n', ks', A1, c1, rfl, hk, hc10, hc11, hc12, hl1, hr1⟩ := hr.at_ (j := 1) (by simp)
  injection hk with h1 h2 h3
  subst h1 h2 h3
  try simp only [Nat.zero_mul, Nat.add_zero, Nat.one_mul] at hc10 hc11 hc12
  obtain ⟨b2, o2, k', n', ks', A2, c2, hA, hk, hc20, hc21, hc22, hl2, hr2⟩ := hr.at_ (j := 2) (by simp)
  injection hA with hA
  injection hA with h8 h9
  subst h8 h9
  injection hk with h1 h2 h3
  subst h1 h2 h3
  try simp only [Nat.zero_mul, Nat.add_zero, Nat.one_mul] at hc20 hc21 hc22
  obtain ⟨b3, o3, k', n', ks', A3, c3, hA, hk, hc30, hc31, hc32, hl3, hr3⟩ := hr.at_ (j := 3) (by simp)
  injection hA with hA
  injection hA with h8 h9
  subst h8 h9
  injection hk with h1 h2 h3
  subst h1 h2 h3
  try simp only [Nat.zero_mul, Nat.add_zero, Nat.one_mul] at hc30 hc31 hc32
  have bl : b1 < w.heap.size := World.block_lt_of_cell? w _ hc10
  go_enter Tryd.func28, Tryd.ntmps28
  go_wp2_with fail
  refine name_world ?_
  intro wx hwx
  have hbx : Below w.heap.size w wx := by rw [hwx]; exact ((Below.refl _ _).alloc (Nat.le_refl _) _).alloc (by simp) _
  have hX : Blk wx w.heap.size #[.int .i64 9, .int .i64 n, .slice (some ⟨b1, o1, none⟩) 4 c] := by rw [hwx]; exact (Blk.new_ _ _ _ rfl).alloc _
  have hZ : Blk wx (w.heap.size + 1) #[.int .i64 0, .int .i64 0, .slice none 0 0] := by rw [hwx]; exact Blk.new_ _ 25 _ (by simp)
  have sx := hZ.lt
  have y10 := rule_of ((Keeps.of_below hbx) _ _ hc10)
  have y11 := rule_of ((Keeps.of_below hbx) _ _ hc11)
  have y12 := rule_of ((Keeps.of_below hbx) _ _ hc12)
  have y20 := rule_of ((Keeps.of_below hbx) _ _ hc20)
  have y21 := rule_of ((Keeps.of_below hbx) _ _ hc21)
  have y22 := rule_of ((Keeps.of_below hbx) _ _ hc22)
  have y30 := rule_of ((Keeps.of_below hbx) _ _ hc30)
  have y31 := rule_of ((Keeps.of_below hbx) _ _ hc31)
  have y32 := rule_of ((Keeps.of_below hbx) _ _ hc32)
  have x2 := hX.rule (i := 2) rfl
  clear hwx
  refine wp_region_firstY (fun w' => Below wx.heap.size wx w') [0, 1, 2, 3, 5, 6, 7, 8, 10, 11, 12, 13] [4, 9, 14, 15, 16] [17] [_, _, _, _, _, _, _, _, _, _, _, _] [_, _, _, _, _] [_] (by kernel_rfl) (by kernel_rfl) rfl rfl rfl (fun _ _ d _ _ h => by cases d <;> exact h) (Below.refl _ _).drew ?_
  repeat (first | ((refine takeY_skip (a' := ?_) ?_ ?_ ?_); (rotate_left); (· (simp [Region.wanted, yielded, Go.undef]; done)); (· (simp only [List.getElem_toArray, List.getElem_cons_zero, List.getElem_cons_succ, Act.put, List.setIfInBounds_toArray, List.set_cons_zero, List.set_cons_succ]; exact rfl))) | ((refine takeY_step (v := ?_) (a' := ?_) ?_ ?_ ?_ ?_); (rotate_left 2); (· (simp [Region.wanted, yielded, Go.undef]; done)); (· (intro w' hS'; go_simp; try (with_reducible rfl))); (· (simp only [List.getElem_toArray, List.getElem_cons_zero, List.getElem_cons_succ, Act.put, List.setIfInBounds_toArray, List.set_cons_zero, List.set_cons_succ]; exact rfl))))
  refine takeY_nil (then_cons ?_)
  go_wp2_with (go_at_call 28; refine (ih k1 n1 ks1 A1 c1 _ (by omega) (by omega) hl1 ((hr1.below hbx).drew)).mono ?_; rintro e w4 ⟨u1, v1, us1, B1, q1, rfl, hul1, hus1, hur1, hub1⟩)
  have G1 : Below wx.heap.size wx w4 := (Below.refl _ _).drew.trans hub1
  have hR1 := hur1.mono (q := fun b => w.heap.size + 1 < b) (fun b hb => Nat.lt_of_lt_of_le sx hb)
  refine mid_intro G1 (then_cons ?_)
  go_wp2_with (go_at_call 28; refine (ih k2 n2 ks2 A2 c2 _ (by omega) (by omega) hl2 ((hr2.below hbx).below G1)).mono ?_; rintro e w5 ⟨u2, v2, us2, B2, q2, rfl, hul2, hus2, hur2, hub2⟩)
  have G2 : Below wx.heap.size wx w5 := G1.trans (hub2.mono G1.size)
  have hR2 := hur2.mono (q := fun b => w.heap.size + 1 < b) (fun b hb => Nat.lt_of_lt_of_le (Nat.lt_of_lt_of_le sx G1.size) hb)
  replace hR1 := hR1.below hub2
  refine mid_intro G2 (then_cons ?_)
  go_wp2_with (go_at_call 28; refine (ih k3 n3 ks3 A3 c3 _ (by omega) (by omega) hl3 ((hr3.below hbx).below G2)).mono ?_; rintro e w6 ⟨u3, v3, us3, B3, q3, rfl, hul3, hus3, hur3, hub3⟩)
  have G3 : Below wx.heap.size wx w6 := G2.trans (hub3.mono G2.size)
  have hR3 := hur3.mono (q := fun b => w.heap.size + 1 < b) (fun b hb => Nat.lt_of_lt_of_le (Nat.lt_of_lt_of_le sx G2.size) hb)
  replace hR1 := hR1.below hub3
  replace hR2 := hR2.below hub3
  refine mid_intro G3 (then_cons ?_)
  go_wp2_with fail
  have s9 := G3.size
  refine mid_intro (G3.alloc s9 _) (then_cons ?_)
  go_wp2_with (go_at_call 29; refine (node_q (L := w.heap.size + 1) (us := [.mk u1 v1 us1, .mk u2 v2 us2, .mk u3 v3 us3]) 6 (by simp; omega) (rdx_cons hul1 (hR1.alloc _) (rdx_cons hul2 (hR2.alloc _) (rdx_cons hul3 (hR3.alloc _) rfl))) (by simp) _ 3 (Blk.new_ _ 25 _ rfl)).mono ?_; rintro e w9 ⟨A9, c9, rfl, hl9, hk9, hb9⟩)
  have G9 : Below wx.heap.size wx w9 := (G3.alloc s9 _).trans (hb9.mono (by simp; omega))
  refine mid_intro G9 (then_nil ?_)
  have hZ9 := hZ.keep G9
  obtain ⟨d0, d1, d2⟩ := hZ9.three
  have e0 := hZ9.frozen 0
  have e1 := hZ9.frozen 1
  have e2 := hZ9.frozen 2
  go_wp2_with fail
  refine bodyPost_ret (v := .agg #[.int .i64 6, .int .i64 0, .slice A9 3 c9]) (by simp [results, Tryd.results28, go_sem, d0, d1, d2]) rfl (ext_done (ks := [.mk u1 v1 us1, .mk u2 v2 us2, .mk u3 v3 us3]) (by simp) (by simp only [sizes, Tm.size]; omega) hk9 (hbx.trans (G9.mono hbx.size)))
set_option maxHeartbeats 4000000 in
set_option maxRecDepth 100000 in
theorem ext_12 {N : Nat} (ih : ExtO N) (n : Int) (ks : List Tm) (A : Option Addr) (c : Nat) (w : World) (hN : wz (.mk 12 n ks) < N + 1) (hM : wz (.mk 12 n ks) ≤ 1000000) (hr : Rd w A 0 ks) :
    Calls Tryd.prog 28 #[.agg #[.int .i64 12, .int .i64 n, .slice A ks.length c]] w (GotX (wz (.mk 12 n ks)) w) := by
  obtain ⟨⟨k0, n0, ks0⟩, ⟨k1, n1, ks1⟩, ⟨k2, n2, ks2⟩, rfl⟩ := three_of (l := ks) (by have := wz_ar hM (by omega); simp [Go.Proofs.YtjpgdfndlmipcaaDoor.arity] at this; omega)
  rw [wz12] at hN hM ⊢
  obtain ⟨b2, o2, k', n', ks', A2, c2, rfl, hk, hc20, hc21, hc22, hl2, hr2⟩ := hr.at_ (j := 2) (by simp)
  injection hk with h1 h2 h3
  subst h1 h2 h3
  try simp only [Nat.zero_mul, Nat.add_zero, Nat.one_mul] at hc20 hc21 hc22
  have bl : b2 < w.heap.size := World.block_lt_of_cell? w _ hc20
  go_enter Tryd.func28, Tryd.ntmps28
  go_wp2_with (go_at_call 28; refine name_callsN ?_; intro wx hwx; have hbx : Below w.heap.size w wx := (by rw [hwx]; exact ((Below.refl _ _).alloc (Nat.le_refl _) _).alloc (by simp) _); have hZ : Blk wx (w.heap.size + 1) #[.int .i64 0, .int .i64 0, .slice none 0 0] := (by rw [hwx]; exact Blk.new_ _ 25 _ (by simp)); clear hwx; refine (ih k2 n2 ks2 A2 c2 wx (by omega) (by omega) hl2 (hr2.below hbx)).mono ?_; rintro e w4 ⟨u2, v2, us2, B2, q2, rfl, hul2, hus2, hur2, hub2⟩; have sx := hZ.lt; have hR2 := hur2.mono (q := fun b => w.heap.size + 1 < b) (fun b hb => Nat.lt_of_lt_of_le sx hb); have hZ4 := hZ.keep hub2; have s4 := hub2.size; have hb4 : Below w.heap.size w w4 := hbx.trans (hub2.mono hbx.size); have tok1 := trivial; obtain ⟨d0, d1, d2⟩ := hZ4.three; have e0 := hZ4.frozen 0; have e1 := hZ4.frozen 1; have e2 := hZ4.frozen 2)
  refine bodyPost_ret (v := .agg #[.int .i64 u2, .int .i64 v2, .slice B2 us2.length q2]) (by simp [results, Tryd.results28, go_sem, d0, d1, d2]) rfl (ext_done hul2 (by omega) hR2 hb4)
set_option maxHeartbeats 4000000 in
set_option maxRecDepth 100000 in
theorem ext_14 {N : Nat} (ih : ExtO N) (n : Int) (ks : List Tm) (A : Option Addr) (c : Nat) (w : World) (hN : wz (.mk 14 n ks) < N + 1) (hM : wz (.mk 14 n ks) ≤ 1000000) (hr : Rd w A 0 ks) :
    Calls Tryd.prog 28 #[.agg #[.int .i64 14, .int .i64 n, .slice A ks.length c]] w (GotX (wz (.mk 14 n ks)) w) := by
  obtain ⟨⟨k0, n0, ks0⟩, ⟨k1, n1, ks1⟩, ⟨k2, n2, ks2⟩, rfl⟩ := three_of (l := ks) (by have := wz_ar hM (by omega); simp [Go.Proofs.YtjpgdfndlmipcaaDoor.arity] at this; omega)
  rw [wz14] at hN hM ⊢
  obtain ⟨b1, o1, k', n', ks', A1, c1, rfl, hk, hc10, hc11, hc12, hl1, hr1⟩ := hr.at_ (j := 1) (by simp)
  injection hk with h1 h2 h3
  subst h1 h2 h3
  try simp only [Nat.zero_mul, Nat.add_zero, Nat.one_mul] at hc10 hc11 hc12
  obtain ⟨b2, o2, k', n', ks', A2, c2, hA, hk, hc20, hc21, hc22, hl2, hr2⟩ := hr.at_ (j := 2) (by simp)
  injection hA with hA
  injection hA with h8 h9
  subst h8 h9
  injection hk with h1 h2 h3
  subst h1 h2 h3
  try simp only [Nat.zero_mul, Nat.add_zero, Nat.one_mul] at hc20 hc21 hc22
  have bl : b1 < w.heap.size := World.block_lt_of_cell? w _ hc10
  go_enter Tryd.func28, Tryd.ntmps28
  go_wp2_with fail
  refine name_world ?_
  intro wx hwx
  have hbx : Below w.heap.size w wx := by rw [hwx]; exact ((Below.refl _ _).alloc (Nat.le_refl _) _).alloc (by simp) _
  have hX : Blk wx w.heap.size #[.int .i64 14, .int .i64 n, .slice (some ⟨b1, o1, none⟩) 3 c] := by rw [hwx]; exact (Blk.new_ _ _ _ rfl).alloc _
  have hZ : Blk wx (w.heap.size + 1) #[.int .i64 0, .int .i64 0, .slice none 0 0] := by rw [hwx]; exact Blk.new_ _ 25 _ (by simp)
  have sx := hZ.lt
  have y10 := rule_of ((Keeps.of_below hbx) _ _ hc10)
  have y11 := rule_of ((Keeps.of_below hbx) _ _ hc11)
  have y12 := rule_of ((Keeps.of_below hbx) _ _ hc12)
  have y20 := rule_of ((Keeps.of_below hbx) _ _ hc20)
  have y21 := rule_of ((Keeps.of_below hbx) _ _ hc21)
  have y22 := rule_of ((Keeps.of_below hbx) _ _ hc22)
  have x2 := hX.rule (i := 2) rfl
  clear hwx
  refine wp_region_firstY (fun w' => Below wx.heap.size wx w') [0, 1, 2, 3, 5, 6, 7, 8] [4, 9, 10, 11] [12] [_, _, _, _, _, _, _, _] [_, _, _, _] [_] (by kernel_rfl) (by kernel_rfl) rfl rfl rfl (fun _ _ d _ _ h => by cases d <;> exact h) (Below.refl _ _).drew ?_
  repeat (first | ((refine takeY_skip (a' := ?_) ?_ ?_ ?_); (rotate_left); (· (simp [Region.wanted, yielded, Go.undef]; done)); (· (simp only [List.getElem_toArray, List.getElem_cons_zero, List.getElem_cons_succ, Act.put, List.setIfInBounds_toArray, List.set_cons_zero, List.set_cons_succ]; exact rfl))) | ((refine takeY_step (v := ?_) (a' := ?_) ?_ ?_ ?_ ?_); (rotate_left 2); (· (simp [Region.wanted, yielded, Go.undef]; done)); (· (intro w' hS'; go_simp; try (with_reducible rfl))); (· (simp only [List.getElem_toArray, List.getElem_cons_zero, List.getElem_cons_succ, Act.put, List.setIfInBounds_toArray, List.set_cons_zero, List.set_cons_succ]; exact rfl))))
  refine takeY_nil (then_cons ?_)
  go_wp2_with (go_at_call 28; refine (ih k1 n1 ks1 A1 c1 _ (by omega) (by omega) hl1 ((hr1.below hbx).drew)).mono ?_; rintro e w4 ⟨u1, v1, us1, B1, q1, rfl, hul1, hus1, hur1, hub1⟩)
  have G1 : Below wx.heap.size wx w4 := (Below.refl _ _).drew.trans hub1
  have hR1 := hur1.mono (q := fun b => w.heap.size + 1 < b) (fun b hb => Nat.lt_of_lt_of_le sx hb)
  refine mid_intro G1 (then_cons ?_)
  go_wp2_with (go_at_call 28; refine (ih k2 n2 ks2 A2 c2 _ (by omega) (by omega) hl2 ((hr2.below hbx).below G1)).mono ?_; rintro e w5 ⟨u2, v2, us2, B2, q2, rfl, hul2, hus2, hur2, hub2⟩)
  have G2 : Below wx.heap.size wx w5 := G1.trans (hub2.mono G1.size)
  have hR2 := hur2.mono (q := fun b => w.heap.size + 1 < b) (fun b hb => Nat.lt_of_lt_of_le (Nat.lt_of_lt_of_le sx G1.size) hb)
  replace hR1 := hR1.below hub2
  refine mid_intro G2 (then_cons ?_)
  go_wp2_with fail
  have s9 := G2.size
  refine mid_intro (G2.alloc s9 _) (then_cons ?_)
  go_wp2_with (go_at_call 29; refine (node_q (L := w.heap.size + 1) (us := [.mk u1 v1 us1, .mk u2 v2 us2]) 7 (by simp; omega) (rdx_cons hul1 (hR1.alloc _) (rdx_cons hul2 (hR2.alloc _) rfl)) (by simp) _ 2 (Blk.new_ _ 25 _ rfl)).mono ?_; rintro e w9 ⟨A9, c9, rfl, hl9, hk9, hb9⟩)
  have G9 : Below wx.heap.size wx w9 := (G2.alloc s9 _).trans (hb9.mono (by simp; omega))
  refine mid_intro G9 (then_nil ?_)
  have hZ9 := hZ.keep G9
  obtain ⟨d0, d1, d2⟩ := hZ9.three
  have e0 := hZ9.frozen 0
  have e1 := hZ9.frozen 1
  have e2 := hZ9.frozen 2
  go_wp2_with fail
  refine bodyPost_ret (v := .agg #[.int .i64 7, .int .i64 0, .slice A9 2 c9]) (by simp [results, Tryd.results28, go_sem, d0, d1, d2]) rfl (ext_done (ks := [.mk u1 v1 us1, .mk u2 v2 us2]) (by simp) (by simp only [sizes, Tm.size]; omega) hk9 (hbx.trans (G9.mono hbx.size)))
set_option maxHeartbeats 4000000 in
set_option maxRecDepth 100000 in
theorem ext_15 {N : Nat} (ih : ExtO N) (n : Int) (ks : List Tm) (A : Option Addr) (c : Nat) (w : World) (hN : wz (.mk 15 n ks) < N + 1) (hM : wz (.mk 15 n ks) ≤ 1000000) (hr : Rd w A 0 ks) :
    Calls Tryd.prog 28 #[.agg #[.int .i64 15, .int .i64 n, .slice A ks.length c]] w (GotX (wz (.mk 15 n ks)) w) := by
  obtain ⟨⟨k0, n0, ks0⟩, rfl⟩ := one_of (l := ks) (by have := wz_ar hM (by omega); simp [Go.Proofs.YtjpgdfndlmipcaaDoor.arity] at this; omega)
  rw [wz15] at hN hM ⊢
  obtain ⟨b0, o0, k', n', ks', A0, c0, rfl, hk, hc00, hc01, hc02, hl0, hr0⟩ := hr.at_ (j := 0) (by simp)
  injection hk with h1 h2 h3
  subst h1 h2 h3
  try simp only [Nat.zero_mul, Nat.add_zero, Nat.one_mul] at hc00 hc01 hc02
  have bl : b0 < w.heap.size := World.block_lt_of_cell? w _ hc00
  go_enter Tryd.func28, Tryd.ntmps28
  go_wp2_with (first
    | (go_at_call 29; have _t := tok1; refine (node_q (L := w.heap.size + 1) (us := [.mk u0 v0 us0]) 8 (by simp; omega) (rdx_cons hul0 (hR0.alloc _) rfl) (by simp) _ 1 (Blk.new_ _ 25 _ rfl)).mono ?_; rintro e w7 ⟨A7, c7, rfl, hl7, hk7, hb7⟩; have hZ7 := (hZ4.alloc (.cells #[.int .i64 u0, .int .i64 v0, .slice B0 us0.length q0] 25)).keep hb7; obtain ⟨d0, d1, d2⟩ := hZ7.three; have e0 := hZ7.frozen 0; have e1 := hZ7.frozen 1; have e2 := hZ7.frozen 2)
    | (go_at_call 28; refine name_callsN ?_; intro wx hwx; have hbx : Below w.heap.size w wx := (by rw [hwx]; exact ((Below.refl _ _).alloc (Nat.le_refl _) _).alloc (by simp) _); have hZ : Blk wx (w.heap.size + 1) #[.int .i64 0, .int .i64 0, .slice none 0 0] := (by rw [hwx]; exact Blk.new_ _ 25 _ (by simp)); clear hwx; refine (ih k0 n0 ks0 A0 c0 wx (by omega) (by omega) hl0 (hr0.below hbx)).mono ?_; rintro e w4 ⟨u0, v0, us0, B0, q0, rfl, hul0, hus0, hur0, hub0⟩; have sx := hZ.lt; have hR0 := hur0.mono (q := fun b => w.heap.size + 1 < b) (fun b hb => Nat.lt_of_lt_of_le sx hb); have hZ4 := hZ.keep hub0; have s4 := hub0.size; have hb4 : Below w.heap.size w w4 := hbx.trans (hub0.mono hbx.size); have tok1 := trivial))
  refine bodyPost_ret (v := .agg #[.int .i64 8, .int .i64 0, .slice A7 1 c7]) (by simp [results, Tryd.results28, go_sem, d0, d1, d2]) rfl (ext_done (ks := [.mk u0 v0 us0]) (by simp) (by simp only [sizes, Tm.size]; omega) hk7 ((hb4.alloc (by omega) _).trans (hb7.mono (by simp; omega))))
set_option maxHeartbeats 4000000 in
set_option maxRecDepth 100000 in
theorem ext_16 {N : Nat} (ih : ExtO N) (n : Int) (ks : List Tm) (A : Option Addr) (c : Nat) (w : World) (hN : wz (.mk 16 n ks) < N + 1) (hM : wz (.mk 16 n ks) ≤ 1000000) (hr : Rd w A 0 ks) :
    Calls Tryd.prog 28 #[.agg #[.int .i64 16, .int .i64 n, .slice A ks.length c]] w (GotX (wz (.mk 16 n ks)) w) := by
  obtain ⟨⟨k0, n0, ks0⟩, rfl⟩ := one_of (l := ks) (by have := wz_ar hM (by omega); simp [Go.Proofs.YtjpgdfndlmipcaaDoor.arity] at this; omega)
  rw [wz16] at hN hM ⊢
  obtain ⟨b0, o0, k', n', ks', A0, c0, rfl, hk, hc00, hc01, hc02, hl0, hr0⟩ := hr.at_ (j := 0) (by simp)
  injection hk with h1 h2 h3
  subst h1 h2 h3
  try simp only [Nat.zero_mul, Nat.add_zero, Nat.one_mul] at hc00 hc01 hc02
  have bl : b0 < w.heap.size := World.block_lt_of_cell? w _ hc00
  go_enter Tryd.func28, Tryd.ntmps28
  go_wp2_with (first
    | (go_at_call 29; have _t := tok1; refine (node_q (L := w.heap.size + 1) (us := [.mk u0 v0 us0]) 9 (by simp; omega) (rdx_cons hul0 (hR0.alloc _) rfl) (by simp) _ 1 (Blk.new_ _ 25 _ rfl)).mono ?_; rintro e w7 ⟨A7, c7, rfl, hl7, hk7, hb7⟩; have hZ7 := (hZ4.alloc (.cells #[.int .i64 u0, .int .i64 v0, .slice B0 us0.length q0] 25)).keep hb7; obtain ⟨d0, d1, d2⟩ := hZ7.three; have e0 := hZ7.frozen 0; have e1 := hZ7.frozen 1; have e2 := hZ7.frozen 2)
    | (go_at_call 28; refine name_callsN ?_; intro wx hwx; have hbx : Below w.heap.size w wx := (by rw [hwx]; exact ((Below.refl _ _).alloc (Nat.le_refl _) _).alloc (by simp) _); have hZ : Blk wx (w.heap.size + 1) #[.int .i64 0, .int .i64 0, .slice none 0 0] := (by rw [hwx]; exact Blk.new_ _ 25 _ (by simp)); clear hwx; refine (ih k0 n0 ks0 A0 c0 wx (by omega) (by omega) hl0 (hr0.below hbx)).mono ?_; rintro e w4 ⟨u0, v0, us0, B0, q0, rfl, hul0, hus0, hur0, hub0⟩; have sx := hZ.lt; have hR0 := hur0.mono (q := fun b => w.heap.size + 1 < b) (fun b hb => Nat.lt_of_lt_of_le sx hb); have hZ4 := hZ.keep hub0; have s4 := hub0.size; have hb4 : Below w.heap.size w w4 := hbx.trans (hub0.mono hbx.size); have tok1 := trivial))
  refine bodyPost_ret (v := .agg #[.int .i64 9, .int .i64 0, .slice A7 1 c7]) (by simp [results, Tryd.results28, go_sem, d0, d1, d2]) rfl (ext_done (ks := [.mk u0 v0 us0]) (by simp) (by simp only [sizes, Tm.size]; omega) hk7 ((hb4.alloc (by omega) _).trans (hb7.mono (by simp; omega))))
set_option maxHeartbeats 4000000 in
set_option maxRecDepth 100000 in
theorem ext_1 {N : Nat} (ih : ExtO N) (n : Int) (ks : List Tm) (A : Option Addr) (c : Nat) (w : World) (hN : wz (.mk 1 n ks) < N + 1) (hM : wz (.mk 1 n ks) ≤ 1000000) (hr : Rd w A 0 ks) :
    Calls Tryd.prog 28 #[.agg #[.int .i64 1, .int .i64 n, .slice A ks.length c]] w (GotX (wz (.mk 1 n ks)) w) := by
  have e := List.eq_nil_of_length_eq_zero (show ks.length = 0 by have := wz_ar hM (by omega); simp [Go.Proofs.YtjpgdfndlmipcaaDoor.arity] at this; omega)
  subst e
  go_enter Tryd.func28, Tryd.ntmps28
  go_wp2
  refine bodyPost_ret (v := .agg #[.int .i64 1, .int .i64 n, .slice none 0 0]) (by simp [results, Tryd.results28, go_sem]) rfl ⟨1, n, [], none, 0, rfl, by simp, wz_pos _, RdP.nil, ?_⟩
  exact ((Below.refl _ _).alloc (Nat.le_refl _) _).alloc (by simp) _
set_option maxHeartbeats 4000000 in
set_option maxRecDepth 100000 in
theorem ext_else (k n : Int) (ks : List Tm) (A : Option Addr) (c : Nat) (w : World) (h1 : k ≠ 1) (h4 : k ≠ 4) (h5 : k ≠ 5) (h7 : k ≠ 7) (h8 : k ≠ 8) (h9 : k ≠ 9) (h12 : k ≠ 12) (h14 : k ≠ 14) (h15 : k ≠ 15) (h16 : k ≠ 16) :
    Calls Tryd.prog 28 #[.agg #[.int .i64 k, .int .i64 n, .slice A ks.length c]] w (GotX (wz (.mk k n ks)) w) := by
  have q1 : (k == 1) = false := beq_eq_false_iff_ne.2 h1
  have q4 : (k == 4) = false := beq_eq_false_iff_ne.2 h4
  have q5 : (k == 5) = false := beq_eq_false_iff_ne.2 h5
  have q7 : (k == 7) = false := beq_eq_false_iff_ne.2 h7
  have q8 : (k == 8) = false := beq_eq_false_iff_ne.2 h8
  have q9 : (k == 9) = false := beq_eq_false_iff_ne.2 h9
  have q12 : (k == 12) = false := beq_eq_false_iff_ne.2 h12
  have q14 : (k == 14) = false := beq_eq_false_iff_ne.2 h14
  have q15 : (k == 15) = false := beq_eq_false_iff_ne.2 h15
  have q16 : (k == 16) = false := beq_eq_false_iff_ne.2 h16
  clear h1 h4 h5 h7 h8 h9 h12 h14 h15 h16
  go_enter Tryd.func28, Tryd.ntmps28
  go_wp2_with (go_at_call 29; refine name_callsN ?_; intro wx hwx; have hbx : Below w.heap.size w wx := (by rw [hwx]; exact ((Below.refl _ _).alloc (Nat.le_refl _) _).alloc (by simp) _); have hZ : Blk wx (w.heap.size + 1) #[.int .i64 0, .int .i64 0, .slice none 0 0] := (by rw [hwx]; exact Blk.new_ _ 25 _ (by simp)); clear hwx; refine (node0_any _ _).mono ?_; rintro e w7 ⟨A7, c7, rfl, hb7⟩; have hZ7 := hZ.keep hb7; have lz7 := hZ7.lt; obtain ⟨d0, d1, d2⟩ := hZ7.three; have e0 := hZ7.frozen 0; have e1 := hZ7.frozen 1; have e2 := hZ7.frozen 2)
  refine bodyPost_ret (v := .agg #[.int .i64 10, .int .i64 0, .slice A7 0 c7]) (by simp [results, Tryd.results28, go_sem, d0, d1, d2]) rfl (ext_done (ks := []) (by simp) (wz_pos _) RdP.nil (hbx.trans (hb7.mono hbx.size)))
theorem ext_all (N : Nat) : ExtO N := by
  induction N with
  | zero => intro k n ks A c w hN; exact absurd hN (Nat.not_lt_zero _)
  | succ N ih =>
    intro k n ks A c w hN hM hl hr
    by_cases h1 : k = 1
    · subst h1; exact ext_1 ih n ks A c w hN hM hr
    by_cases h4 : k = 4
    · subst h4; exact ext_4 ih n ks A c w hN hM hr
    by_cases h5 : k = 5
    · subst h5; exact ext_5 ih n ks A c w hN hM hr
    by_cases h7 : k = 7
    · subst h7; exact ext_7 ih n ks A c w hN hM hr
    by_cases h8 : k = 8
    · subst h8; exact ext_8 ih n ks A c w hN hM hr
    by_cases h9 : k = 9
    · subst h9; exact ext_9 ih n ks A c w hN hM hr
    by_cases h12 : k = 12
    · subst h12; exact ext_12 ih n ks A c w hN hM hr
    by_cases h14 : k = 14
    · subst h14; exact ext_14 ih n ks A c w hN hM hr
    by_cases h15 : k = 15
    · subst h15; exact ext_15 ih n ks A c w hN hM hr
    by_cases h16 : k = 16
    · subst h16; exact ext_16 ih n ks A c w hN hM hr
    exact ext_else k n ks A c w h1 h4 h5 h7 h8 h9 h12 h14 h15 h16
theorem ext_any {k n : Int} {ks : List Tm} {A : Option Addr} {c : Nat} {w : World} (hM : wz (.mk k n ks) ≤ 1000000) (hl : ks.length ≤ 9223372036854775807) (hr : Rd w A 0 ks) :
    Calls Tryd.prog 28 #[.agg #[.int .i64 k, .int .i64 n, .slice A ks.length c]] w (GotX (wz (.mk k n ks)) w) := ext_all _ k n ks A c w (Nat.lt_succ_self _) hM hl hr
end Go.Proofs.YtjpgdfndlmipcaaDoor.Cd

namespace Go.Proofs.YtjpgdfndlmipcaaDoor.Cd
open Go.RowKit
set_option linter.unusedSimpArgs false
set_option linter.unusedVariables false

set_option maxRecDepth 100000 in
set_option maxHeartbeats 1000000 in
theorem iTermValid_any (k n : Int) (ks : List Tm) (A : Option Addr) (c : Nat) (w : World) (hM : sizes ks ≤ 1099511627775) (hr : Rd w A 0 ks) :
    Calls Tryd.prog 11 #[.agg #[.int .i64 k, .int .i64 n, .slice A ks.length c]] w fun e w' => e = .returned (.bool (validT (.mk k n ks))) ∧ Below w.heap.size w w' := by
  have hlen := length_le_sizes ks
  have hrp : RdP (· ≠ w.heap.size + 1) w A 0 ks := hr.rdp.mono (fun b hb => by have hb : b < w.heap.size := hb; show b ≠ _; omega)
  go_enter Tryd.func11, Tryd.ntmps11
  go_wp2_with (go_at_call 22; refine (scan_any (sizes ks + 1) k n ks A c 1 30 0 (w.heap.size + 1) _ (by omega) (by omega) (by omega) (by omega) (by omega) (by omega) (by omega) (Blk.new_ _ _ _ (by simp)) ((hrp.alloc _).alloc _)).mono ?_; rintro e w3 ⟨b, cx, rfl, hbe, hcx, hx0, hx1, hG3, hg3⟩; clear hcx hG3)
  go_ret
  refine ⟨ret_bool ?_, (((Below.refl _ _).alloc (Nat.le_refl _) _).alloc (by simp) _).grown hg3 (by simp; omega) (fun k e => by cases e; omega)⟩
  show scanB 30 0 k n ks = _
  unfold scanB validT
  rw [Tm.size]
  by_cases h : sizes ks + 1 ≤ 400
  · rw [decide_eq_true h, decide_eq_true (by omega)]
  · rw [decide_eq_false h, decide_eq_false (by omega)]
theorem scan_valid {k n : Int} {ks : List Tm} : scanB 30 0 k n ks = validT (.mk k n ks) := by
  unfold scanB validT
  rw [Tm.size]
  by_cases h : sizes ks + 1 ≤ 400
  · rw [decide_eq_true h, decide_eq_true (by omega)]
  · rw [decide_eq_false h, decide_eq_false (by omega)]

/-- how many nodes, 0 where it is not valid -/
def countT (t : Tm) : Int := if validT t = true then t.size else 0
theorem count_pos (t : Tm) : decide (0 < countT t) = validT t := by
  unfold countT
  cases h : validT t with
  | false => simp
  | true => have := t.size_pos; simp; omega
set_option maxRecDepth 100000 in
set_option maxHeartbeats 2000000 in
theorem iCount_any (k n : Int) (ks : List Tm) (A : Option Addr) (c : Nat) (w : World) (hM : sizes ks ≤ 1099511627775) (hr : Rd w A 0 ks) :
    Calls Tryd.prog 13 #[.agg #[.int .i64 k, .int .i64 n, .slice A ks.length c]] w fun e w' => e = .returned (.int .i64 (countT (.mk k n ks))) ∧ Below w.heap.size w w' := by
  have hlen := length_le_sizes ks
  have hrp : RdP (· ≠ w.heap.size + 1) w A 0 ks := hr.rdp.mono (fun b hb => by have hb : b < w.heap.size := hb; show b ≠ _; omega)
  have fin : ∀ w3, (((w.alloc (.cells #[.int .i64 k, .int .i64 n, .slice A ks.length c] 25)).alloc (.cells #[.int .i64 0] 3))).grownBy w3 (some (w.heap.size + 1)) → Below w.heap.size w w3 := fun w3 hg3 => (((Below.refl _ _).alloc (Nat.le_refl _) _).alloc (by simp) _).grown hg3 (by simp; omega) (fun k e => by cases e; omega)
  cases hv : validT (.mk k n ks) with
  | false =>
    have hz : countT (.mk k n ks) = 0 := by simp [countT, hv]
    rw [hz]
    have hv' := hide hv
    clear hv hz
    go_enter Tryd.func13, Tryd.ntmps13
    go_wp2_with (go_at_call 22; refine (scan_any (sizes ks + 1) k n ks A c 1 30 0 (w.heap.size + 1) _ (by omega) (by omega) (by omega) (by omega) (by omega) (by omega) (by omega) (Blk.new_ _ _ _ (by simp)) ((hrp.alloc _).alloc _)).mono ?_; rintro e w3 ⟨b, cx, rfl, hbe, hcx, hx0, hx1, hG3, hg3⟩; clear hcx; rw [scan_valid, hv'.out] at hbe; subst hbe)
    go_ret
    exact ⟨rfl, fin _ hg3⟩
  | true =>
    have hz : countT (.mk k n ks) = 0 + 1 + (sizes ks : Int) := by simp [countT, hv, Tm.size]; omega
    rw [hz]
    have hv' := hide hv
    clear hv hz
    go_enter Tryd.func13, Tryd.ntmps13
    go_wp2_with (go_at_call 22; refine (scan_any (sizes ks + 1) k n ks A c 1 30 0 (w.heap.size + 1) _ (by omega) (by omega) (by omega) (by omega) (by omega) (by omega) (by omega) (Blk.new_ _ _ _ (by simp)) ((hrp.alloc _).alloc _)).mono ?_; rintro e w3 ⟨b, cx, rfl, hbe, hcx, hx0, hx1, hG3, hg3⟩; rw [scan_valid, hv'.out] at hbe; subst hbe; have hcx2 := hcx rfl; clear hcx; subst hcx2; have g0 := hG3.at_ (i := 0) rfl)
    go_ret
    exact ⟨rfl, fin _ hg3⟩

/-- what FormatCode answers -/
def Fm (t : Tm) (b : List UInt8) : Prop := validT t = true ∧ Tc 30 t b ∧ b.length ≤ 5000 ∨ validT t = false ∧ b = []
theorem fm_ex (t : Tm) : ∃ b, Fm t b := by
  cases h : validT t with
  | false => exact ⟨[], .inr ⟨h, rfl⟩⟩
  | true =>
    have h' := h
    simp only [validT, Bool.and_eq_true, decide_eq_true_eq] at h
    obtain ⟨x, h1, h2⟩ := shape_text 30 t h.1
    exact ⟨x, .inl ⟨h', h1, by omega⟩⟩
theorem Fm.nil {t : Tm} {b : List UInt8} (h : Fm t b) : decide (b = []) = !validT t := by
  rcases h with ⟨h1, h2, _⟩ | ⟨h1, rfl⟩
  · rw [h1]; exact decide_eq_false h2.ne
  · rw [h1]; simp
theorem Fm.len {t : Tm} {b : List UInt8} (h : Fm t b) : b.length ≤ 5000 := by
  rcases h with ⟨h1, h2, h3⟩ | ⟨h1, rfl⟩
  · exact h3
  · simp
theorem byt_nil : byt [] = ⟨#[]⟩ := rfl
set_option maxRecDepth 100000 in
set_option maxHeartbeats 2000000 in
theorem iFormat_any {k n : Int} {ks : List Tm} {b : List UInt8} (h : Fm (.mk k n ks) b) (A : Option Addr) (c : Nat) (w : World) (hM : sizes ks ≤ 1099511627775) (hm : GM w) (hr : Rd w A 0 ks) :
    Calls Tryd.prog 8 #[.agg #[.int .i64 k, .int .i64 n, .slice A ks.length c]] w fun e w' => e = .returned (.string (byt b)) ∧ Below w.heap.size w w' := by
  rcases h with ⟨h1, h2, h3⟩ | ⟨h1, rfl⟩
  · have htx := hide (fun w (hm : GM w) (hr : Rd w A 0 ks) => codeText_any h2 k n ks rfl A c w h3 hm hr)
    have hva := hide (fun w (hr : Rd w A 0 ks) => by have := iTermValid_any k n ks A c w hM hr; rwa [h1] at this)
    clear h1 h2
    go_enter Tryd.func8, Tryd.ntmps8
    go_wp2_with (first
      | (go_at_call 19; have _t := tok1; refine (htx.out _ (hmg.keep hb1) (hrg.below hb1)).mono ?_; rintro e w2 ⟨rfl, hb2⟩)
      | (go_at_call 11; refine (hva.out _ (hr.alloc _)).mono ?_; rintro e w1 ⟨rfl, hb1⟩; have hmg := hm.alloc (.cells #[.int .i64 k, .int .i64 n, .slice A ks.length c] 25); have hrg := hr.alloc (.cells #[.int .i64 k, .int .i64 n, .slice A ks.length c] 25); have hB := (Blk.new_ w 25 #[.int .i64 k, .int .i64 n, .slice A ks.length c] rfl).keep hb1; obtain ⟨x0, x1, x2⟩ := hB.three; have tok1 := trivial))
    go_ret
    exact ⟨rfl, ((Below.refl _ _).alloc (Nat.le_refl _) _).trans ((hb1.trans (hb2.mono hb1.size)).mono (by simp))⟩
  · have hva := hide (fun w (hr : Rd w A 0 ks) => by have := iTermValid_any k n ks A c w hM hr; rwa [h1] at this)
    clear h1
    go_enter Tryd.func8, Tryd.ntmps8
    go_wp2_with (go_at_call 11; refine (hva.out _ (hr.alloc _)).mono ?_; rintro e w1 ⟨rfl, hb1⟩)
    go_ret
    exact ⟨rfl, ((Below.refl _ _).alloc (Nat.le_refl _) _).trans (hb1.mono (by simp))⟩
set_option maxRecDepth 100000 in
set_option maxHeartbeats 2000000 in
theorem sFormat_any {k n : Int} {ks : List Tm} {b : List UInt8} (h : Fm (.mk k n ks) b) (A : Option Addr) (c : Nat) (w : World) (hM : sizes ks ≤ 1099511627775) (hr : Rd w A 0 ks) :
    Calls Tryd.prog 10 #[.agg #[.int .i64 k, .int .i64 n, .slice A ks.length c]] w fun e w' => e = .returned (.string (byt b)) ∧ Below w.heap.size w w' := by
  rcases h with ⟨h1, h2, h3⟩ | ⟨h1, rfl⟩
  · have htx := hide (fun w (hr : Rd w A 0 ks) => text_any h2 k n ks rfl A c w (by omega) hr)
    have hva := hide (fun w (hr : Rd w A 0 ks) => by have := sTermValid_any k n ks A c w hM hr; rwa [h1] at this)
    clear h1 h2
    go_enter Tryd.func10, Tryd.ntmps10
    go_wp2_with (first
      | (go_at_call 21; have _t := tok1; refine (htx.out _ (hrg.below hb1)).mono ?_; rintro e w2 ⟨rfl, hb2⟩)
      | (go_at_call 12; refine (hva.out _ (hr.alloc _)).mono ?_; rintro e w1 ⟨rfl, hb1⟩; have hrg := hr.alloc (.cells #[.int .i64 k, .int .i64 n, .slice A ks.length c] 25); have hB := (Blk.new_ w 25 #[.int .i64 k, .int .i64 n, .slice A ks.length c] rfl).keep hb1; obtain ⟨x0, x1, x2⟩ := hB.three; have tok1 := trivial))
    go_ret
    exact ⟨rfl, ((Below.refl _ _).alloc (Nat.le_refl _) _).trans ((hb1.trans (hb2.mono hb1.size)).mono (by simp))⟩
  · have hva := hide (fun w (hr : Rd w A 0 ks) => by have := sTermValid_any k n ks A c w hM hr; rwa [h1] at this)
    clear h1
    go_enter Tryd.func10, Tryd.ntmps10
    go_wp2_with (go_at_call 12; refine (hva.out _ (hr.alloc _)).mono ?_; rintro e w1 ⟨rfl, hb1⟩)
    go_ret
    exact ⟨rfl, ((Below.refl _ _).alloc (Nat.le_refl _) _).trans (hb1.mono (by simp))⟩
end Go.Proofs.YtjpgdfndlmipcaaDoor.Cd

namespace Go.Proofs.YtjpgdfndlmipcaaDoor.Nw
open Go.RowKit
set_option linter.unusedSimpArgs false
set_option linter.unusedVariables false

def NatD (B : Nat) (w : World) (r p s : Nat) (e : Ending) (w' : World) : Prop :=
  ∃ (k n : Int) (ks : List Tm) (A : Option Addr) (c p' : Nat), e = .returned (.agg #[.int .i64 k, .int .i64 n, .slice A ks.length c]) ∧ ks.length ≤ 9223372036854775807 ∧ wz (.mk k n ks) ≤ s ∧ p' ≤ p + s ∧ RdP (fun b => w.heap.size ≤ b) w' A 0 ks ∧ Rdr B w' r p' ∧ w.grownBy w' (some r)
def NatO (k : Nat) : Prop := ∀ (B r p : Nat) (n d : Int) (w : World), d ≤ k → -5 ≤ d → 0 ≤ n → n + 2 * k ≤ 20 → p + NB k ≤ 900000000 → B ≤ w.heap.size → Rdr B w r p →
  Calls Tryd.prog 26 #[.pointer (some ⟨r, 0, none⟩), .int .i64 n, .int .i64 d] w (NatD B w r p (NB k))

section
variable {B r p p' g8 : Nat} {w0 w w' : World}
/-- the term that is answered -/
theorem StN_done {k n : Int} {ks : List Tm} {A : Option Addr} {s : Nat} (h : StN B r p' g8 w0 w) (hp : p' ≤ p + s) (hs : wz (.mk k n ks) ≤ s) (hl : ks.length ≤ 9223372036854775807) (hk : RdP (fun b => w0.heap.size < b) w A 0 ks) (x y z : Value) (c : Nat) :
    NatD B w0 r p s (.returned (.agg #[.int .i64 k, .int .i64 n, .slice A ks.length c])) (((w.setCell ⟨w0.heap.size, 0, none⟩ x).setCell ⟨w0.heap.size, 1, none⟩ y).setCell ⟨w0.heap.size, 2, none⟩ z) := by
  have hB := h.hB
  refine ⟨k, n, ks, A, c, p', rfl, hl, hs, hp, ?_, ?_, ?_⟩
  · exact (((hk.setCell (by simp) _).setCell (by simp) _).setCell (by simp) _).mono (fun b hb => by omega)
  · exact ((h.rd.setCell (by simp; omega) _).setCell (by simp; omega) _).setCell (by simp; omega) _
  · exact only_setCell (only_setCell (only_setCell h.gr (.inr (by simp)) _) (.inr (by simp)) _) (.inr (by simp)) _
end
set_option maxHeartbeats 8000000 in
set_option maxRecDepth 100000 in
theorem nat_step (k : Nat) (hk : k ≤ 3) (ih : NatO k) (B r p : Nat) (n d : Int) (w : World) (hd : 1 ≤ d) (hdk : d ≤ k + 1) (hn : 0 ≤ n) (hnk : n + 2 * k ≤ 18) (hp : p + NB (k + 1) ≤ 900000000) (hB : B ≤ w.heap.size) (hr : Rdr B w r p) :
    Calls Tryd.prog 26 #[.pointer (some ⟨r, 0, none⟩), .int .i64 n, .int .i64 d] w (NatD B w r p (NB (k + 1))) := by
  have ihx : ∀ (B r p : Nat) (n d : Int) (w : World), d ≤ k → -5 ≤ d → 0 ≤ n → n + 2 * k ≤ 20 → p + NB k ≤ 900000000 → B ≤ w.heap.size → Rdr B w r p → Calls Tryd.prog 26 #[.pointer (some ⟨r, 0, none⟩), .int .i64 n, .int .i64 d] w (NatD B w r p (NB k)) := ih
  clear ih
  have hrl := hr.lt
  have hnb := nb_ge k
  have hnbe : NB (k + 1) = 4 * NB k := rfl
  have hnb4 := hide hnbe
  rw [hnbe] at hp
  clear hnbe
  have hd1 : ¬ (d < 1) := by omega
  have k1 : IntKind.i64.wrap (d - 1) = d - 1 := IntWalk.i64_in _ (by omega)
  have k2 : IntKind.i64.wrap (d - 2) = d - 2 := IntWalk.i64_in _ (by omega)
  have k3 : wrap64 (d - 1) = d - 1 := IntWalk.wrap64_in _ (by omega)
  have k4 : wrap64 (d - 2) = d - 2 := IntWalk.wrap64_in _ (by omega)
  have k5 : IntKind.i64.wrap (n + 1) = n + 1 := IntWalk.i64_in _ (by omega)
  have k6 : IntKind.i64.wrap (n + 2) = n + 2 := IntWalk.i64_in _ (by omega)
  have k7 : wrap64 (n + 1) = n + 1 := IntWalk.wrap64_in _ (by omega)
  have k8 : wrap64 (n + 2) = n + 2 := IntWalk.wrap64_in _ (by omega)
  go_enter Tryd.func26, Tryd.ntmps26
  go_wp2_with (first
    | (go_at_call 43; have _t := tokA; refine (sLeaf_any _ _ _).mono ?_; rintro e w2 ⟨rfl, hb2⟩; have hr2 := (hr1.alloc (by omega) (.cells #[.int .i64 7, .int .i64 0, .slice none 0 0] 48)).below hb2 (by simp; omega); have hZ2 := (hZ1.alloc (.cells #[.int .i64 7, .int .i64 0, .slice none 0 0] 48)).keep hb2; have g2 := only_below (only_alloc g1 (.cells #[.int .i64 7, .int .i64 0, .slice none 0 0] 48)) hb2; have s2 : w1.heap.size + 1 ≤ w2.heap.size := (by have := hb2.size; simpa using this))
    | (go_at_call 43; refine (sLeaf_any _ _ _).mono ?_; rintro e w1 ⟨rfl, hb1⟩; have hr1 := (hr.alloc (by omega) (.cells #[.int .i64 0, .int .i64 0, .slice none 0 0] 48)).below hb1 (by simp; omega); have hZ1 := (Blk.new_ w 48 #[.int .i64 0, .int .i64 0, .slice none 0 0] rfl).keep hb1; have g1 : w.grownBy w1 (some r) := only_below (only_alloc (World.grownBy.refl _ _) _) hb1; have s1 : w.heap.size + 1 ≤ w1.heap.size := (by have := hb1.size; simpa using this); have tokA := trivial))
  refine (pick_any B r p 7 _ (by omega) (by omega) (by simp; omega) (hr2.alloc (by omega) _)).mono ?_
  rintro e w3 ⟨m, rfl, hm, hm0, hr3, hg3⟩
  have hS := (StN.mk (g8 := w2.heap.size) (hr2.alloc (by omega) _) (only_alloc g2 _) (hZ2.alloc _) (Blk.new_ w2 48 #[.int .i64 6, .int .i64 0, .slice none 0 0] rfl) hB (by omega)).grown hr3 hg3
  have hm' : m < 7 := by have := hm (by omega); omega
  obtain ⟨g8, hg8⟩ : ∃ g8, g8 = w2.heap.size := ⟨_, rfl⟩
  rw [← hg8] at hS ⊢
  clear hm hm0 hg3 hr3 hg8 hr2 hZ2 g2 s2 hb2 hb1 hr1 hZ1 g1 s1
  obtain ⟨d0, d1, d2⟩ := hS.hZ.three
  have e0 := hS.hZ.frozen 0
  have e1 := hS.hZ.frozen 1
  have e2 := hS.hZ.frozen 2
  obtain ⟨x0, x1, x2⟩ := hS.h8.three
  by_cases m0 : m = 0
  · subst m0
    have r0 := hS.h8.ruleG (g := r) (by have := hS.size; have := hS.hg; omega) (i := 0) rfl
    have r1 := hS.h8.ruleG (g := r) (by have := hS.size; have := hS.hg; omega) (i := 1) rfl
    have r2 := hS.h8.ruleG (g := r) (by have := hS.size; have := hS.hg; omega) (i := 2) rfl
    go_wp2_with fail
    refine wp_region_firstY (fun w' => w3.grownBy w' (some r)) [0, 1, 2, 3, 4, 5, 9, 10, 11, 12] [6, 7, 8, 13, 14, 15] [16] [_, _, _, _, _, _, _, _, _, _] [_, _, _, _, _, _] [_] (by kernel_rfl) (by kernel_rfl) rfl rfl rfl (fun _ _ d _ _ h => by cases d <;> exact h) (only_drew (World.grownBy.refl _ _)) ?_
    repeat (first | ((refine takeY_skip (a' := ?_) ?_ ?_ ?_); (rotate_left); (· (simp [Region.wanted, yielded]; done)); (· (simp only [List.getElem_toArray, List.getElem_cons_zero, List.getElem_cons_succ, Act.put, List.setIfInBounds_toArray, List.set_cons_zero, List.set_cons_succ]; exact rfl))) | ((refine takeY_step (v := ?_) (a' := ?_) ?_ ?_ ?_ ?_); (rotate_left 2); (· (simp [Region.wanted, yielded]; done)); (· (intro w' hS'; go_simp; try (with_reducible rfl))); (· (simp only [List.getElem_toArray, List.getElem_cons_zero, List.getElem_cons_succ, Act.put, List.setIfInBounds_toArray, List.set_cons_zero, List.set_cons_succ]; exact rfl))))
    refine takeY_nil (then_cons ?_)
    go_wp2_with (go_at_call 26; refine (ihx B r (p + 1) (n + 1) (d - 1) _ (by omega) (by omega) (by omega) (by omega) (by omega) hS.drew.size.2.2.1 hS.drew.rd).mono ?_; rintro e w4 ⟨k4', n4', ks4, A4, c4, p4, rfl, hl4, hs4, hp4, hk4, hr4, hg4⟩; have hS4 := hS.drew.grown hr4 hg4; replace hk4 := hk4.mono (q := fun b => w.heap.size < b) (fun b hb => Nat.lt_of_lt_of_le hS.drew.size.1 hb); clear hr4)
    have G4 : w3.grownBy w4 (some r) := grown_trans (only_drew (World.grownBy.refl _ _)) hg4
    refine mid_intro G4 (then_cons ?_)
    go_wp2_with fail
    refine mid_intro (only_alloc G4 _) (then_cons ?_)
    go_wp2_with (go_at_call 44; refine (node_q (L := w.heap.size) (us := [.mk 6 0 [], .mk k4' n4' ks4]) 4 (hS4.alloc _).size.1 (rdx_cons (by simp) RdP.nil (rdx_cons hl4 (hk4.alloc _) rfl)) (by simp) _ 2 (Blk.new_ _ 48 _ rfl)).mono ?_; rintro e w5 ⟨A5, c5, rfl, hl5, hk5, hb5⟩; have hS5 := (hS4.alloc _).below hb5; have lk5 := hl5)
    have G5 : w3.grownBy w5 (some r) := only_below (only_alloc G4 _) hb5
    refine mid_intro G5 (then_cons ?_)
    go_wp2_with (go_at_call 26; refine (ihx B r p4 n (d - 1) _ (by omega) (by omega) (by omega) (by omega) (by omega) hS5.size.2.2.1 hS5.rd).mono ?_; rintro e w6 ⟨k6', n6', ks6, A6, c6, p6, rfl, hl6, hs6, hp6, hk6, hr6, hg6⟩; have hS6 := hS5.grown hr6 hg6; replace hk6 := hk6.mono (q := fun b => w.heap.size < b) (fun b hb => Nat.lt_of_lt_of_le hS5.size.1 hb); replace hk5 := hk5.grownL hg6 (Nat.le_of_lt hS5.size.2.2.2); clear hr6)
    have G6 : w3.grownBy w6 (some r) := grown_trans G5 hg6
    refine mid_intro G6 (then_cons ?_)
    go_wp2_with fail
    refine mid_intro (only_alloc G6 _) (then_cons ?_)
    go_wp2_with (go_at_call 44; refine (node_q (L := w.heap.size) (us := [.mk 4 0 [.mk 6 0 [], .mk k4' n4' ks4], .mk k6' n6' ks6]) 5 (hS6.alloc _).size.1 (rdx_cons (by simp) (hk5.alloc _) (rdx_cons hl6 (hk6.alloc _) rfl)) (by simp) _ 2 (Blk.new_ _ 48 _ rfl)).mono ?_; rintro e w7 ⟨A7, c7, rfl, hl7, hk7, hb7⟩; have hS7 := (hS6.alloc _).below hb7; have lk7 := hl7)
    have G7 : w3.grownBy w7 (some r) := only_below (only_alloc G6 _) hb7
    refine mid_intro G7 (then_nil ?_)
    clear d0 d1 d2 e0 e1 e2
    obtain ⟨d0, d1, d2⟩ := hS7.hZ.three
    have e0 := hS7.hZ.frozen 0
    have e1 := hS7.hZ.frozen 1
    have e2 := hS7.hZ.frozen 2
    go_wp2_with fail
    refine bodyPost_ret (v := .agg #[.int .i64 5, .int .i64 0, .slice A7 2 c7]) (by simp [results, Tryd.results26, go_sem, d0, d1, d2]) rfl (StN_done hS7 (ks := [.mk 4 0 [.mk 6 0 [], .mk k4' n4' ks4], .mk k6' n6' ks6]) (by rw [hnb4.out]; omega) (by rw [hnb4.out]; simp only [wz1, wz4, wz5, wz6, wz7, wz8, wz9, wz11, wz12, wz13, wz14, wz15, wz16]; omega) (by simp) hk7 _ _ _ c7)
  have q0 : ((m : Int) == 0) = false := beq_eq_false_iff_ne.2 (by omega)
  by_cases m1 : m = 1
  · subst m1
    go_wp2_with fail
    go_cut [9] (fun s9 wx => ∃ (g9 : Nat) (A6 : Option Addr) (c6 p4 : Nat) (tt : Tm), s9 = .pointer (some ⟨g9, 0, none⟩) ∧ Blk wx g9 #[.int .i64 4, .int .i64 0, .slice A6 2 c6] ∧ RdP (fun b => w.heap.size < b) wx A6 0 [.mk 6 0 [], .mk 4 0 [.mk 6 0 [], tt]] ∧ wz tt ≤ NB k ∧ StN B r p4 g8 w wx ∧ p4 ≤ p + 1 + NB k ∧ g9 ≠ r)
    case first =>
      have lS := hS.size
      have lWd : w3.drew.heap.size = w3.heap.size := rfl
      have lS' := hS.hg
      go_region_held3 (fun w' => w'.cell? ⟨g8, 0, none⟩ = some (.int .i64 6) ∧ w'.cell? ⟨g8, 1, none⟩ = some (.int .i64 0) ∧ w'.cell? ⟨g8, 2, none⟩ = some (.slice none 0 0)) (((try dsimp only); (first | with_reducible exact ⟨x0, x1, x2⟩ | with_reducible exact ⟨u0, u1, u2⟩ | with_reducible exact ⟨v0, v1, v2⟩ | with_reducible exact ⟨t0, t1, t2⟩ | ((with_reducible refine ⟨far3n t0 ?_, far3n t1 ?_, far3n t2 ?_⟩) <;> omega) | ((with_reducible refine ⟨far3n (Keeps.alloc _ _ _ _ t0) ?_, far3n (Keeps.alloc _ _ _ _ t1) ?_, far3n (Keeps.alloc _ _ _ _ t2) ?_⟩) <;> omega) | with_reducible exact ⟨Keeps.alloc _ _ _ _ x0, Keeps.alloc _ _ _ _ x1, Keeps.alloc _ _ _ _ x2⟩ | with_reducible exact ⟨Keeps.alloc _ _ _ _ u0, Keeps.alloc _ _ _ _ u1, Keeps.alloc _ _ _ _ u2⟩ | with_reducible exact ⟨Keeps.alloc _ _ _ _ v0, Keeps.alloc _ _ _ _ v1, Keeps.alloc _ _ _ _ v2⟩ | with_reducible exact ⟨Keeps.alloc _ _ _ _ t0, Keeps.alloc _ _ _ _ t1, Keeps.alloc _ _ _ _ t2⟩ | with_reducible exact ⟨Keeps.alloc _ _ _ _ (Keeps.alloc _ _ _ _ x0), Keeps.alloc _ _ _ _ (Keeps.alloc _ _ _ _ x1), Keeps.alloc _ _ _ _ (Keeps.alloc _ _ _ _ x2)⟩ | with_reducible exact ⟨Keeps.alloc _ _ _ _ (Keeps.alloc _ _ _ _ u0), Keeps.alloc _ _ _ _ (Keeps.alloc _ _ _ _ u1), Keeps.alloc _ _ _ _ (Keeps.alloc _ _ _ _ u2)⟩ | with_reducible exact ⟨Keeps.alloc _ _ _ _ (Keeps.alloc _ _ _ _ v0), Keeps.alloc _ _ _ _ (Keeps.alloc _ _ _ _ v1), Keeps.alloc _ _ _ _ (Keeps.alloc _ _ _ _ v2)⟩ | with_reducible exact ⟨Keeps.alloc _ _ _ _ (Keeps.alloc _ _ _ _ t0), Keeps.alloc _ _ _ _ (Keeps.alloc _ _ _ _ t1), Keeps.alloc _ _ _ _ (Keeps.alloc _ _ _ _ t2)⟩ | go_keep))) (first
        | (go_at_call 44; have _t := tk2; refine name_callsN ?_; intro wx6 hwx; have hSx : StN B r p4 g8 w wx6 := (by rw [hwx]; with_reducible (repeat (first | exact hS5 | refine StN.alloc ?_ _ | refine StN.drew ?_))); have hkx : RdP (fun b => ((wx4.heap.size ≤ b ∧ b < w4.heap.size) ∨ wx5.heap.size ≤ b) ∧ b < w5.heap.size) wx6 A5 0 [.mk 6 0 [], .mk k4' n4' ks4] := (by rw [hwx]; with_reducible (repeat (first | exact hk5 | refine RdP.alloc ?_ _ | refine RdP.drew ?_))); have sx6 := congrArg (fun w : World => w.heap.size) hwx; (try simp [lWd] at sx6); (first | (refine (fun (hQx : Blk wx6 (w3.heap.size) #[.int .i64 0, .int .i64 0, .slice none 0 0]) => ?_) ?_; rotate_left; (rw [hwx]; ((repeat (first | with_reducible exact hQ | ((with_reducible refine Blk.new_ _ 48 _ ?_); (first | rfl | (simp [lWd] <;> fail))) | (with_reducible refine Blk.drew ?_) | (with_reducible refine Blk.alloc ?_ _))) <;> fail))) | (refine (fun (hQx : Blk wx6 (w4.heap.size) #[.int .i64 0, .int .i64 0, .slice none 0 0]) => ?_) ?_; rotate_left; (rw [hwx]; ((repeat (first | with_reducible exact hQ | ((with_reducible refine Blk.new_ _ 48 _ ?_); (first | rfl | (simp [lWd] <;> fail))) | (with_reducible refine Blk.drew ?_) | (with_reducible refine Blk.alloc ?_ _))) <;> fail))) | (refine (fun (hQx : Blk wx6 (w4.heap.size + 1) #[.int .i64 0, .int .i64 0, .slice none 0 0]) => ?_) ?_; rotate_left; (rw [hwx]; ((repeat (first | with_reducible exact hQ | ((with_reducible refine Blk.new_ _ 48 _ ?_); (first | rfl | (simp [lWd] <;> fail))) | (with_reducible refine Blk.drew ?_) | (with_reducible refine Blk.alloc ?_ _))) <;> fail))) | (refine (fun (hQx : Blk wx6 (w5.heap.size) #[.int .i64 0, .int .i64 0, .slice none 0 0]) => ?_) ?_; rotate_left; (rw [hwx]; ((repeat (first | with_reducible exact hQ | ((with_reducible refine Blk.new_ _ 48 _ ?_); (first | rfl | (simp [lWd] <;> fail))) | (with_reducible refine Blk.drew ?_) | (with_reducible refine Blk.alloc ?_ _))) <;> fail))) | (refine (fun (hQx : Blk wx6 (w5.heap.size + 1) #[.int .i64 0, .int .i64 0, .slice none 0 0]) => ?_) ?_; rotate_left; (rw [hwx]; ((repeat (first | with_reducible exact hQ | ((with_reducible refine Blk.new_ _ 48 _ ?_); (first | rfl | (simp [lWd] <;> fail))) | (with_reducible refine Blk.drew ?_) | (with_reducible refine Blk.alloc ?_ _))) <;> fail))) | skip); refine (l1NodeR_any (p := (fun b => ((wx4.heap.size ≤ b ∧ b < w4.heap.size) ∨ wx5.heap.size ≤ b) ∧ b < w5.heap.size)) (us := [.mk 6 0 [], .mk 4 0 [.mk 6 0 [], .mk k4' n4' ks4]]) 4 (rdx_cons (by simp) RdP.nil (rdx_cons (by first | exact hl5 | simp) hkx rfl)) (fun b hb => by omega) (by simp) _ 2 (by rw [hwx]; first | exact Blk.new_ _ 48 _ rfl | exact Blk.new_ _ 48 _ (by simp) | exact (Blk.new_ _ 48 _ rfl).alloc _)).mono ?_; clear hwx; rintro e w6 ⟨A6, c6, rfl, hl6, hk6, hb6⟩; replace hk6 : RdP (fun b => ((((wx4.heap.size ≤ b ∧ b < w4.heap.size) ∨ wx5.heap.size ≤ b) ∧ b < w5.heap.size) ∨ wx6.heap.size ≤ b) ∧ b < w6.heap.size) w6 A6 0 [.mk 6 0 [], .mk 4 0 [.mk 6 0 [], .mk k4' n4' ks4]] := rdp_lt2.2 _ _ _ hk6; have hS6 := hSx.below hb6; (try clear hQ); (try (have hQ := hQx.keep hb6)); (try clear hQx); (try (obtain ⟨q0, q1, q2⟩ := hQ.three)); (try (have z0 := hQ.frozen 0)); (try (have z1 := hQ.frozen 1)); (try (have z2 := hQ.frozen 2)); (try (have lq := hQ.lt)); clear hSx hkx; obtain ⟨t0, t1, t2⟩ := hS6.h8.three; have l6 := hS6.size; have y6 := hb6.size; have tk3 := trivial)
        | (go_at_call 44; have _t := tk1; refine name_callsN ?_; intro wx5 hwx; have hSx : StN B r p4 g8 w wx5 := (by rw [hwx]; with_reducible (repeat (first | exact hS4 | refine StN.alloc ?_ _ | refine StN.drew ?_))); have hkx : RdP (fun b => wx4.heap.size ≤ b ∧ b < w4.heap.size) wx5 A4 0 ks4 := (by rw [hwx]; with_reducible (repeat (first | exact hk4 | refine RdP.alloc ?_ _ | refine RdP.drew ?_))); have sx5 := congrArg (fun w : World => w.heap.size) hwx; (try simp [lWd] at sx5); (first | (refine (fun (hQx : Blk wx5 (w3.heap.size) #[.int .i64 0, .int .i64 0, .slice none 0 0]) => ?_) ?_; rotate_left; (rw [hwx]; ((repeat (first | with_reducible exact hQ | ((with_reducible refine Blk.new_ _ 48 _ ?_); (first | rfl | (simp [lWd] <;> fail))) | (with_reducible refine Blk.drew ?_) | (with_reducible refine Blk.alloc ?_ _))) <;> fail))) | (refine (fun (hQx : Blk wx5 (w4.heap.size) #[.int .i64 0, .int .i64 0, .slice none 0 0]) => ?_) ?_; rotate_left; (rw [hwx]; ((repeat (first | with_reducible exact hQ | ((with_reducible refine Blk.new_ _ 48 _ ?_); (first | rfl | (simp [lWd] <;> fail))) | (with_reducible refine Blk.drew ?_) | (with_reducible refine Blk.alloc ?_ _))) <;> fail))) | (refine (fun (hQx : Blk wx5 (w4.heap.size + 1) #[.int .i64 0, .int .i64 0, .slice none 0 0]) => ?_) ?_; rotate_left; (rw [hwx]; ((repeat (first | with_reducible exact hQ | ((with_reducible refine Blk.new_ _ 48 _ ?_); (first | rfl | (simp [lWd] <;> fail))) | (with_reducible refine Blk.drew ?_) | (with_reducible refine Blk.alloc ?_ _))) <;> fail))) | skip); refine (l1NodeR_any (p := (fun b => wx4.heap.size ≤ b ∧ b < w4.heap.size)) (us := [.mk 6 0 [], .mk k4' n4' ks4]) 4 (rdx_cons (by simp) RdP.nil (rdx_cons (by first | exact hl4 | simp) hkx rfl)) (fun b hb => by omega) (by simp) _ 2 (by rw [hwx]; first | exact Blk.new_ _ 48 _ rfl | exact Blk.new_ _ 48 _ (by simp) | exact (Blk.new_ _ 48 _ rfl).alloc _)).mono ?_; clear hwx; rintro e w5 ⟨A5, c5, rfl, hl5, hk5, hb5⟩; replace hk5 : RdP (fun b => ((wx4.heap.size ≤ b ∧ b < w4.heap.size) ∨ wx5.heap.size ≤ b) ∧ b < w5.heap.size) w5 A5 0 [.mk 6 0 [], .mk k4' n4' ks4] := rdp_lt2.2 _ _ _ hk5; have hS5 := hSx.below hb5; (try clear hQ); (try (have hQ := hQx.keep hb5)); (try clear hQx); (try (obtain ⟨q0, q1, q2⟩ := hQ.three)); (try (have z0 := hQ.frozen 0)); (try (have z1 := hQ.frozen 1)); (try (have z2 := hQ.frozen 2)); (try (have lq := hQ.lt)); clear hSx hkx; obtain ⟨v0, v1, v2⟩ := hS5.h8.three; have l5 := hS5.size; have y5 := hb5.size; have tk2 := trivial)
        | (go_at_call 26; refine name_callsN ?_; intro wx4 hwx; have hSx : StN B r (p + 1) g8 w wx4 := (by rw [hwx]; with_reducible (repeat (first | exact hS | refine StN.alloc ?_ _ | refine StN.drew ?_))); have sx4 := congrArg (fun w : World => w.heap.size) hwx; (try simp [lWd] at sx4); (first | (refine (fun (hQx : Blk wx4 (w3.heap.size) #[.int .i64 0, .int .i64 0, .slice none 0 0]) => ?_) ?_; rotate_left; (rw [hwx]; ((repeat (first | ((with_reducible refine Blk.new_ _ 48 _ ?_); (first | rfl | (simp [lWd] <;> fail))) | (with_reducible refine Blk.drew ?_) | (with_reducible refine Blk.alloc ?_ _))) <;> fail))) | skip); refine (ihx B r (p + 1) (n + 2) (d - 2) _ (by omega) (by omega) (by omega) (by omega) (by omega) hSx.size.2.2.1 hSx.rd).mono ?_; clear hwx; rintro e w4 ⟨k4', n4', ks4, A4, c4, p4, rfl, hl4, hs4, hp4, hk4, hr4, hg4⟩; have hS4 := hSx.grown hr4 hg4; replace hk4 : RdP (fun b => wx4.heap.size ≤ b ∧ b < w4.heap.size) w4 A4 0 ks4 := rdp_lt2.2 _ _ _ hk4; (try (have hQ := hQx.grown hg4 (by simp; omega))); (try clear hQx); (try (obtain ⟨q0, q1, q2⟩ := hQ.three)); (try (have z0 := hQ.frozen 0)); (try (have z1 := hQ.frozen 1)); (try (have z2 := hQ.frozen 2)); (try (have lq := hQ.lt)); clear hr4 hSx; obtain ⟨u0, u1, u2⟩ := hS4.h8.three; have l4 := hS4.size; have y4 := hg4.size; have tk1 := trivial))
      all_goals
        go_wp2_with fail
        go_meet
        exact ⟨_, A6, c6, p4, .mk k4' n4' ks4, rfl, (by first | exact ((hQ.set_ 0 _).set_ 1 _).set_ 2 _ | exact Blk.new_ _ 48 _ rfl), (by first | exact (hk6.alloc _).mono (fun b hb => by omega) | exact (((hk6.setCell (by simp; omega) _).setCell (by simp; omega) _).setCell (by simp; omega) _).mono (fun b hb => by omega)), by omega, (by first | exact hS6.alloc _ | exact ((hS6.set (by omega) (by omega) _).set (by omega) (by omega) _).set (by omega) (by omega) _), by omega, by omega⟩
    case rest =>
      obtain ⟨g9, A6, c6, p4, tt, rfl, hT, hk6, htt, hSc, hp4, hne9⟩ := hcut
      clear x0 x1 x2 d0 d1 d2 e0 e1 e2
      have lS := hSc.size
      have lS' := hSc.hg
      have lg9 : g9 ≠ r := hne9
      have r0 := hSc.h8.ruleG (g := r) (by omega) (i := 0) rfl
      have r1 := hSc.h8.ruleG (g := r) (by omega) (i := 1) rfl
      have r2 := hSc.h8.ruleG (g := r) (by omega) (i := 2) rfl
      have y0 := hT.ruleG (g := r) lg9 (i := 0) rfl
      have y1 := hT.ruleG (g := r) lg9 (i := 1) rfl
      have y2 := hT.ruleG (g := r) lg9 (i := 2) rfl
      go_wp2_with fail
      refine wp_region_firstY (fun w' => wc.grownBy w' (some r)) [0, 1, 4, 5, 6, 7, 9, 10, 11, 12, 13] [2, 3, 8, 14, 15, 16] [17] [_, _, _, _, _, _, _, _, _, _, _] [_, _, _, _, _, _] [_] (by kernel_rfl) (by kernel_rfl) rfl rfl rfl (fun _ _ d _ _ h => by cases d <;> exact h) (only_drew (World.grownBy.refl _ _)) ?_
      repeat (first | ((refine takeY_skip (a' := ?_) ?_ ?_ ?_); (rotate_left); (· (simp [Region.wanted, yielded]; done)); (· (simp only [List.getElem_toArray, List.getElem_cons_zero, List.getElem_cons_succ, Act.put, List.setIfInBounds_toArray, List.set_cons_zero, List.set_cons_succ]; exact rfl))) | ((refine takeY_step (v := ?_) (a' := ?_) ?_ ?_ ?_ ?_); (rotate_left 2); (· (simp [Region.wanted, yielded]; done)); (· (intro w' hS'; go_simp; try (with_reducible rfl))); (· (simp only [List.getElem_toArray, List.getElem_cons_zero, List.getElem_cons_succ, Act.put, List.setIfInBounds_toArray, List.set_cons_zero, List.set_cons_succ]; exact rfl))))
      refine takeY_nil (then_cons ?_)
      go_wp2_with fail
      refine mid_intro (only_alloc (only_drew (World.grownBy.refl _ _)) _) (then_cons ?_)
      go_wp2_with (go_at_call 44; refine (node_q (L := w.heap.size) (us := [.mk 6 0 [], .mk 6 0 []]) 4 (hSc.drew.alloc _).size.1 (rdx_cons (by simp) RdP.nil (rdx_cons (by simp) RdP.nil rfl)) (by simp) _ 2 (Blk.new_ _ 48 _ rfl)).mono ?_; rintro e w7 ⟨A7, c7, rfl, hl7, hk7, hb7⟩; have hS7 := (hSc.drew.alloc _).below hb7; have lk7 := hl7; replace hk6 := (hk6.drew.alloc _).below hb7)
      have G7 : wc.grownBy w7 (some r) := only_below (only_alloc (only_drew (World.grownBy.refl _ _)) _) hb7
      refine mid_intro G7 (then_cons ?_)
      go_wp2_with (go_at_call 26; refine (ihx B r p4 n (d - 2) _ (by omega) (by omega) (by omega) (by omega) (by omega) hS7.size.2.2.1 hS7.rd).mono ?_; rintro e w8 ⟨k8', n8', ks8, A8, c8, p8, rfl, hl8, hs8, hp8, hk8, hr8, hg8⟩; have hS8 := hS7.grown hr8 hg8; replace hk8 := hk8.mono (q := fun b => w.heap.size < b) (fun b hb => Nat.lt_of_lt_of_le hS7.size.1 hb); replace hk6 := hk6.grownL hg8 (Nat.le_of_lt hS7.size.2.2.2); replace hk7 := hk7.grownL hg8 (Nat.le_of_lt hS7.size.2.2.2); clear hr8)
      have G8 : wc.grownBy w8 (some r) := grown_trans G7 hg8
      refine mid_intro G8 (then_cons ?_)
      go_wp2_with (go_at_call 26; refine (ihx B r p8 n (d - 1) _ (by omega) (by omega) (by omega) (by omega) (by omega) hS8.size.2.2.1 hS8.rd).mono ?_; rintro e w9 ⟨k9', n9', ks9, A9, c9, p9, rfl, hl9, hs9, hp9, hk9, hr9, hg9⟩; have hS9 := hS8.grown hr9 hg9; replace hk9 := hk9.mono (q := fun b => w.heap.size < b) (fun b hb => Nat.lt_of_lt_of_le hS8.size.1 hb); replace hk6 := hk6.grownL hg9 (Nat.le_of_lt hS8.size.2.2.2); replace hk7 := hk7.grownL hg9 (Nat.le_of_lt hS8.size.2.2.2); replace hk8 := hk8.grownL hg9 (Nat.le_of_lt hS8.size.2.2.2); clear hr9)
      have G9 : wc.grownBy w9 (some r) := grown_trans G8 hg9
      refine mid_intro G9 (then_cons ?_)
      go_wp2_with fail
      refine mid_intro (only_alloc G9 _) (then_cons ?_)
      go_wp2_with (go_at_call 44; refine (node_q (L := w.heap.size) (us := [.mk 4 0 [.mk 6 0 [], .mk 6 0 []], .mk k8' n8' ks8, .mk 4 0 [.mk 6 0 [], .mk 4 0 [.mk 6 0 [], tt]], .mk k9' n9' ks9]) 9 (hS9.alloc _).size.1 (rdx_cons (by simp) (hk7.alloc _) (rdx_cons hl8 (hk8.alloc _) (rdx_cons (by simp) (hk6.alloc _) (rdx_cons hl9 (hk9.alloc _) rfl)))) (by simp) _ 4 (Blk.new_ _ 48 _ rfl)).mono ?_; rintro e w10 ⟨A10, c10, rfl, hl10, hk10, hb10⟩; have hS10 := (hS9.alloc _).below hb10; have lk10 := hl10)
      have G10 : wc.grownBy w10 (some r) := only_below (only_alloc G9 _) hb10
      refine mid_intro G10 (then_nil ?_)
      obtain ⟨d0, d1, d2⟩ := hS10.hZ.three
      have e0 := hS10.hZ.frozen 0
      have e1 := hS10.hZ.frozen 1
      have e2 := hS10.hZ.frozen 2
      go_wp2_with fail
      refine bodyPost_ret (v := .agg #[.int .i64 9, .int .i64 0, .slice A10 4 c10]) (by simp [results, Tryd.results26, go_sem, d0, d1, d2]) rfl (StN_done hS10 (ks := [.mk 4 0 [.mk 6 0 [], .mk 6 0 []], .mk k8' n8' ks8, .mk 4 0 [.mk 6 0 [], .mk 4 0 [.mk 6 0 [], tt]], .mk k9' n9' ks9]) (by rw [hnb4.out]; omega) (by rw [hnb4.out]; simp only [wz1, wz4, wz5, wz6, wz7, wz8, wz9, wz11, wz12, wz13, wz14, wz15, wz16]; omega) (by simp) hk10 _ _ _ c10)
  have q1 : ((m : Int) == 1) = false := beq_eq_false_iff_ne.2 (by omega)
  by_cases m2 : m = 2
  · subst m2
    go_wp2_with (first
      | (go_at_call 44; have _t := tk3; refine (node_q (L := w.heap.size) (us := [.mk 13 0 [.mk 6 0 [], .mk 6 0 []], .mk k5' n5' ks5, .mk k6' n6' ks6]) 14 (hS6.alloc _).size.1 (rdx_cons (by simp) (hk4.alloc _) (rdx_cons hl5 (hk5.alloc _) (rdx_cons hl6 (hk6.alloc _) rfl))) (by simp) _ 3 (Blk.new_ _ 48 _ rfl)).mono ?_; rintro e w7 ⟨A7, c7, rfl, hl7, hk7, hb7⟩; have hS7 := (hS6.alloc _).below hb7; have lk7 := hl7; have tk4 := trivial)
      | (go_at_call 26; have _t := tk2; refine (ihx B r p5 n (d - 2) _ (by omega) (by omega) (by omega) (by omega) (by omega) hS5.size.2.2.1 hS5.rd).mono ?_; rintro e w6 ⟨k6', n6', ks6, A6, c6, p6, rfl, hl6, hs6, hp6, hk6, hr6, hg6⟩; have hS6 := hS5.grown hr6 hg6; replace hk6 := hk6.mono (q := fun b => w.heap.size < b) (fun b hb => Nat.lt_of_lt_of_le hS5.size.1 hb); replace hk4 := hk4.grownL hg6 (Nat.le_of_lt hS5.size.2.2.2); replace hk5 := hk5.grownL hg6 (Nat.le_of_lt hS5.size.2.2.2); clear hr6; have tk3 := trivial)
      | (go_at_call 26; have _t := tk1; refine (ihx B r (p + 1) n (d - 1) _ (by omega) (by omega) (by omega) (by omega) (by omega) hS4.size.2.2.1 hS4.rd).mono ?_; rintro e w5 ⟨k5', n5', ks5, A5, c5, p5, rfl, hl5, hs5, hp5, hk5, hr5, hg5⟩; have hS5 := hS4.grown hr5 hg5; replace hk5 := hk5.mono (q := fun b => w.heap.size < b) (fun b hb => Nat.lt_of_lt_of_le hS4.size.1 hb); replace hk4 := hk4.grownL hg5 (Nat.le_of_lt hS4.size.2.2.2); clear hr5; have tk2 := trivial)
      | (go_at_call 44; refine (node_q (L := w.heap.size) (us := [.mk 6 0 [], .mk 6 0 []]) 13 (hS.alloc _).size.1 (rdx_cons (by simp) RdP.nil (rdx_cons (by simp) RdP.nil rfl)) (by simp) _ 2 (Blk.new_ _ 48 _ rfl)).mono ?_; rintro e w4 ⟨A4, c4, rfl, hl4, hk4, hb4⟩; have hS4 := (hS.alloc _).below hb4; have lk4 := hl4; have tk1 := trivial))
    refine name_world ?_
    intro W hW
    have hSW : StN B r p6 g8 w W := by rw [hW]; exact hS7.alloc _
    have hT : Blk W w7.heap.size #[.int .i64 14, .int .i64 0, .slice A7 3 c7] := by rw [hW]; exact Blk.new_ _ 48 _ rfl
    have hkW : RdP (fun b => w.heap.size < b) W A7 0 [.mk 13 0 [.mk 6 0 [], .mk 6 0 []], .mk k5' n5' ks5, .mk k6' n6' ks6] := by rw [hW]; exact hk7.alloc _
    have l7 : w.heap.size < w7.heap.size := hS7.size.1
    have l7r : r < w.heap.size := hS7.size.2.2.2
    have lW := hSW.size
    have lWr : r < W.heap.size := by omega
    have lWd : W.drew.heap.size = W.heap.size := rfl
    clear hW x0 x1 x2 hS7 hS6 hS5 hS4 hS hk7 hk6 hk5 hk4
    obtain ⟨y0, y1, y2⟩ := hT.three
    go_region_held3 (fun w' => w'.cell? ⟨w7.heap.size, 0, none⟩ = some (.int .i64 14) ∧ w'.cell? ⟨w7.heap.size, 1, none⟩ = some (.int .i64 0) ∧ w'.cell? ⟨w7.heap.size, 2, none⟩ = some (.slice A7 3 c7)) (((try dsimp only); (first | with_reducible exact ⟨y0, y1, y2⟩ | with_reducible exact ⟨z0, z1, z2⟩ | with_reducible exact ⟨v0, v1, v2⟩ | ((with_reducible refine ⟨far3n v0 ?_, far3n v1 ?_, far3n v2 ?_⟩) <;> omega) | ((with_reducible refine ⟨far3n (Keeps.alloc _ _ _ _ v0) ?_, far3n (Keeps.alloc _ _ _ _ v1) ?_, far3n (Keeps.alloc _ _ _ _ v2) ?_⟩) <;> omega) | with_reducible exact ⟨Keeps.alloc _ _ _ _ y0, Keeps.alloc _ _ _ _ y1, Keeps.alloc _ _ _ _ y2⟩ | with_reducible exact ⟨Keeps.alloc _ _ _ _ z0, Keeps.alloc _ _ _ _ z1, Keeps.alloc _ _ _ _ z2⟩ | with_reducible exact ⟨Keeps.alloc _ _ _ _ v0, Keeps.alloc _ _ _ _ v1, Keeps.alloc _ _ _ _ v2⟩ | with_reducible exact ⟨Keeps.alloc _ _ _ _ (Keeps.alloc _ _ _ _ y0), Keeps.alloc _ _ _ _ (Keeps.alloc _ _ _ _ y1), Keeps.alloc _ _ _ _ (Keeps.alloc _ _ _ _ y2)⟩ | with_reducible exact ⟨Keeps.alloc _ _ _ _ (Keeps.alloc _ _ _ _ z0), Keeps.alloc _ _ _ _ (Keeps.alloc _ _ _ _ z1), Keeps.alloc _ _ _ _ (Keeps.alloc _ _ _ _ z2)⟩ | with_reducible exact ⟨Keeps.alloc _ _ _ _ (Keeps.alloc _ _ _ _ v0), Keeps.alloc _ _ _ _ (Keeps.alloc _ _ _ _ v1), Keeps.alloc _ _ _ _ (Keeps.alloc _ _ _ _ v2)⟩ | go_keep))) (first
      | (go_at_call 44; have _t := tk8; refine name_callsN ?_; intro wy hwy; have hSy : StN B r (p6 + 1) g8 w wy := (by rw [hwy]; with_reducible (repeat (first | exact hS8 | refine StN.alloc ?_ _ | refine StN.drew ?_))); have hky : RdP (fun b => w.heap.size < b) wy A7 0 [.mk 13 0 [.mk 6 0 [], .mk 6 0 []], .mk k5' n5' ks5, .mk k6' n6' ks6] := (by rw [hwy]; with_reducible (repeat (first | exact hk8 | refine RdP.alloc ?_ _ | refine RdP.drew ?_))); have hTy : Blk wy w7.heap.size #[.int .i64 14, .int .i64 0, .slice A7 3 c7] := (by rw [hwy]; with_reducible (repeat (first | exact hT8 | refine Blk.alloc ?_ _ | refine Blk.drew ?_))); refine (node_q (L := w.heap.size) (us := [.mk 14 0 [.mk 13 0 [.mk 6 0 [], .mk 6 0 []], .mk k5' n5' ks5, .mk k6' n6' ks6]]) x hSy.size.1 (rdx_cons (by simp) hky rfl) (by simp) _ 1 (by rw [hwy]; first | exact hR | exact Blk.new_ _ 48 _ rfl)).mono ?_; clear hwy; rintro e w9 ⟨A9, c9, rfl, hl9, hk9, hb9⟩; have hS9 := hSy.below hb9; have hT9 := hTy.keep hb9; clear d0 d1 d2 e0 e1 e2; obtain ⟨d0, d1, d2⟩ := hS9.hZ.three; have e0 := hS9.hZ.frozen 0; have e1 := hS9.hZ.frozen 1; have e2 := hS9.hZ.frozen 2; obtain ⟨v0, v1, v2⟩ := hT9.three)
      | (go_at_call 27; refine name_callsN ?_; intro wx hwx; have hSx : StN B r p6 g8 w wx := (by rw [hwx]; with_reducible (repeat (first | exact hSW | refine StN.alloc ?_ _ | refine StN.drew ?_))); have hkx : RdP (fun b => w.heap.size < b) wx A7 0 [.mk 13 0 [.mk 6 0 [], .mk 6 0 []], .mk k5' n5' ks5, .mk k6' n6' ks6] := (by rw [hwx]; with_reducible (repeat (first | exact hkW | refine RdP.alloc ?_ _ | refine RdP.drew ?_))); have hTx : Blk wx w7.heap.size #[.int .i64 14, .int .i64 0, .slice A7 3 c7] := (by rw [hwx]; with_reducible (repeat (first | exact hT | refine Blk.alloc ?_ _ | refine Blk.drew ?_))); have lx := hSx.size; (first | (refine (fun (hRx : Blk wx (W.heap.size) #[.int .i64 14, .int .i64 0, .slice A7 3 c7]) => ?_) ?_; rotate_left; (rw [hwx]; ((repeat (first | ((with_reducible refine Blk.new_ _ 48 _ ?_); (first | rfl | (simp [lWd] <;> fail))) | (with_reducible refine Blk.drew ?_) | (with_reducible refine Blk.alloc ?_ _))) <;> fail))) | (refine (fun (hRx : Blk wx (W.heap.size + 1) #[.int .i64 14, .int .i64 0, .slice A7 3 c7]) => ?_) ?_; rotate_left; (rw [hwx]; ((repeat (first | ((with_reducible refine Blk.new_ _ 48 _ ?_); (first | rfl | (simp [lWd] <;> fail))) | (with_reducible refine Blk.drew ?_) | (with_reducible refine Blk.alloc ?_ _))) <;> fail))) | skip); refine (num_any [15, 16] B r p6 _ _ (by decide) (by decide) (by omega) lx.2.2.1 hSx.rd (by rw [hwx]; show Blk _ _ #[.int .i64 15, .int .i64 16]; ((repeat (first | ((with_reducible refine Blk.new_ _ 3 _ ?_); (first | rfl | (simp [lWd] <;> fail))) | (with_reducible refine Blk.drew ?_) | (with_reducible refine Blk.alloc ?_ _))) <;> fail)) (by omega)).mono ?_; clear hwx; rintro e w8 ⟨x, hx, rfl, hr8, hg8⟩; have hS8 := hSx.grown hr8 hg8; have hk8 := hkx.grownL hg8 (by omega); have hT8 := hTx.grown hg8 (by simp; omega); (try (have hR := hRx.grown hg8 (by simp; omega))); clear hr8 hkx hTx hSx; obtain ⟨z0, z1, z2⟩ := hT8.three; have tk8 := trivial))
    all_goals
      go_wp2_with fail
      refine bodyPost_ret (v := .agg #[.int .i64 x, .int .i64 0, .slice A9 1 c9]) (by simp [results, Tryd.results26, go_sem, d0, d1, d2]) rfl (StN_done hS9 (ks := [.mk 14 0 [.mk 13 0 [.mk 6 0 [], .mk 6 0 []], .mk k5' n5' ks5, .mk k6' n6' ks6]]) (by rw [hnb4.out]; omega) (by rw [hnb4.out]; rw [wzx hx]; simp only [wz1, wz4, wz5, wz6, wz7, wz8, wz9, wz11, wz12, wz13, wz14, wz15, wz16]; omega) (by simp) hk9 _ _ _ c9)
  have q2 : ((m : Int) == 2) = false := beq_eq_false_iff_ne.2 (by omega)
  by_cases m3 : m = 3
  · subst m3
    go_wp2_with (first
      | (go_at_call 44; have _t := tk4; refine (node_q (L := w.heap.size) (us := [.mk 4 0 [.mk 6 0 [], .mk 6 0 []], .mk 11 0 [.mk k5' n5' ks5], .mk k7' n7' ks7]) 12 (hS7.alloc _).size.1 (rdx_cons (by simp) (hk4.alloc _) (rdx_cons (by simp) (hk6.alloc _) (rdx_cons hl7 (hk7.alloc _) rfl))) (by simp) _ 3 (Blk.new_ _ 48 _ rfl)).mono ?_; rintro e w8 ⟨A8, c8, rfl, hl8, hk8, hb8⟩; have hS8 := (hS7.alloc _).below hb8; have lk8 := hl8; clear d0 d1 d2 e0 e1 e2; obtain ⟨d0, d1, d2⟩ := hS8.hZ.three; have e0 := hS8.hZ.frozen 0; have e1 := hS8.hZ.frozen 1; have e2 := hS8.hZ.frozen 2)
      | (go_at_call 26; have _t := tk3; refine (ihx B r p5 n (d - 1) _ (by omega) (by omega) (by omega) (by omega) (by omega) hS6.size.2.2.1 hS6.rd).mono ?_; rintro e w7 ⟨k7', n7', ks7, A7, c7, p7, rfl, hl7, hs7, hp7, hk7, hr7, hg7⟩; have hS7 := hS6.grown hr7 hg7; replace hk7 := hk7.mono (q := fun b => w.heap.size < b) (fun b hb => Nat.lt_of_lt_of_le hS6.size.1 hb); replace hk4 := hk4.grownL hg7 (Nat.le_of_lt hS6.size.2.2.2); replace hk6 := hk6.grownL hg7 (Nat.le_of_lt hS6.size.2.2.2); clear hr7; have tk4 := trivial)
      | (go_at_call 44; have _t := tk2; refine (node_q (L := w.heap.size) (us := [.mk k5' n5' ks5]) 11 (hS5.alloc _).size.1 (rdx_cons hl5 (hk5.alloc _) rfl) (by simp) _ 1 (Blk.new_ _ 48 _ rfl)).mono ?_; rintro e w6 ⟨A6, c6, rfl, hl6, hk6, hb6⟩; have hS6 := (hS5.alloc _).below hb6; replace hk4 := (hk4.alloc _).below hb6; have lk6 := hl6; have tk3 := trivial)
      | (go_at_call 26; have _t := tk1; refine (ihx B r (p + 1) n (d - 2) _ (by omega) (by omega) (by omega) (by omega) (by omega) hS4.size.2.2.1 hS4.rd).mono ?_; rintro e w5 ⟨k5', n5', ks5, A5, c5, p5, rfl, hl5, hs5, hp5, hk5, hr5, hg5⟩; have hS5 := hS4.grown hr5 hg5; replace hk5 := hk5.mono (q := fun b => w.heap.size < b) (fun b hb => Nat.lt_of_lt_of_le hS4.size.1 hb); replace hk4 := hk4.grownL hg5 (Nat.le_of_lt hS4.size.2.2.2); clear hr5; have tk2 := trivial)
      | (go_at_call 44; refine (node_q (L := w.heap.size) (us := [.mk 6 0 [], .mk 6 0 []]) 4 (hS.alloc _).size.1 (rdx_cons (by simp) RdP.nil (rdx_cons (by simp) RdP.nil rfl)) (by simp) _ 2 (Blk.new_ _ 48 _ rfl)).mono ?_; rintro e w4 ⟨A4, c4, rfl, hl4, hk4, hb4⟩; have hS4 := (hS.alloc _).below hb4; have lk4 := hl4; have tk1 := trivial))
    refine bodyPost_ret (v := .agg #[.int .i64 12, .int .i64 0, .slice A8 3 c8]) (by simp [results, Tryd.results26, go_sem, d0, d1, d2]) rfl (StN_done hS8 (ks := [.mk 4 0 [.mk 6 0 [], .mk 6 0 []], .mk 11 0 [.mk k5' n5' ks5], .mk k7' n7' ks7]) (by rw [hnb4.out]; omega) (by rw [hnb4.out]; simp only [wz1, wz4, wz5, wz6, wz7, wz8, wz9, wz11, wz12, wz13, wz14, wz15, wz16]; omega) (by simp) hk8 _ _ _ c8)
  have q3 : ((m : Int) == 3) = false := beq_eq_false_iff_ne.2 (by omega)
  by_cases m4 : m = 4
  · subst m4
    go_wp2_with (first
      | (go_at_call 26; refine (ihx B r (p + 1) n 0 _ (by omega) (by omega) (by omega) (by omega) (by omega) hS.size.2.2.1 hS.rd).mono ?_; rintro e w4 ⟨k4', n4', ks4, A4, c4, p4, rfl, hl4, hs4, hp4, hk4, hr4, hg4⟩; have hS4 := hS.grown hr4 hg4; replace hk4 := hk4.mono (q := fun b => w.heap.size < b) (fun b hb => Nat.lt_of_lt_of_le hS.size.1 hb); clear hr4; clear d0 d1 d2 e0 e1 e2; obtain ⟨d0, d1, d2⟩ := hS4.hZ.three; have e0 := hS4.hZ.frozen 0; have e1 := hS4.hZ.frozen 1; have e2 := hS4.hZ.frozen 2))
    refine bodyPost_ret (v := .agg #[.int .i64 k4', .int .i64 n4', .slice A4 ks4.length c4]) (by simp [results, Tryd.results26, go_sem, d0, d1, d2]) rfl (StN_done hS4 (by rw [hnb4.out]; omega) (by rw [hnb4.out]; omega) hl4 hk4 _ _ _ c4)
  have q4 : ((m : Int) == 4) = false := beq_eq_false_iff_ne.2 (by omega)
  go_wp2_with (first
    | (go_at_call 44; have _t := tk1; refine (node_q (L := w.heap.size) (us := [.mk k4' n4' ks4]) 8 (hS4.alloc _).size.1 (rdx_cons hl4 (hk4.alloc _) rfl) (by simp) _ 1 (Blk.new_ _ 48 _ rfl)).mono ?_; rintro e w5 ⟨A5, c5, rfl, hl5, hk5, hb5⟩; have hS5 := (hS4.alloc _).below hb5; have lk5 := hl5; clear d0 d1 d2 e0 e1 e2; obtain ⟨d0, d1, d2⟩ := hS5.hZ.three; have e0 := hS5.hZ.frozen 0; have e1 := hS5.hZ.frozen 1; have e2 := hS5.hZ.frozen 2)
    | (go_at_call 26; refine (ihx B r (p + 1) n (d - 1) _ (by omega) (by omega) (by omega) (by omega) (by omega) hS.size.2.2.1 hS.rd).mono ?_; rintro e w4 ⟨k4', n4', ks4, A4, c4, p4, rfl, hl4, hs4, hp4, hk4, hr4, hg4⟩; have hS4 := hS.grown hr4 hg4; replace hk4 := hk4.mono (q := fun b => w.heap.size < b) (fun b hb => Nat.lt_of_lt_of_le hS.size.1 hb); clear hr4; have tk1 := trivial))
  refine bodyPost_ret (v := .agg #[.int .i64 8, .int .i64 0, .slice A5 1 c5]) (by simp [results, Tryd.results26, go_sem, d0, d1, d2]) rfl (StN_done hS5 (ks := [.mk k4' n4' ks4]) (by rw [hnb4.out]; omega) (by rw [hnb4.out]; simp only [wz1, wz4, wz5, wz6, wz7, wz8, wz9, wz11, wz12, wz13, wz14, wz15, wz16]; omega) (by simp) hk5 _ _ _ c5)
set_option maxHeartbeats 4000000 in
set_option maxRecDepth 100000 in
theorem nat_leaf (B r p : Nat) (n d : Int) (w : World) (hd : d < 1) (hn : 0 ≤ n) (hnk : n ≤ 20) (hp : p ≤ 900000000) (hB : B ≤ w.heap.size) (hr : Rdr B w r p) :
    Calls Tryd.prog 26 #[.pointer (some ⟨r, 0, none⟩), .int .i64 n, .int .i64 d] w (NatD B w r p 10) := by
  have hrl := hr.lt
  by_cases h0 : 0 < n
  · go_enter Tryd.func26, Tryd.ntmps26
    go_wp2_with (first
      | (go_at_call 43; have _t := tokA; refine (sLeaf_any _ _ _).mono ?_; rintro e w2 ⟨rfl, hb2⟩; have hr2 := (hr1.alloc (by omega) (.cells #[.int .i64 7, .int .i64 0, .slice none 0 0] 48)).below hb2 (by simp; omega); have hZ2 := (hZ1.alloc (.cells #[.int .i64 7, .int .i64 0, .slice none 0 0] 48)).keep hb2; have g2 := only_below (only_alloc g1 (.cells #[.int .i64 7, .int .i64 0, .slice none 0 0] 48)) hb2; have s2 : w1.heap.size + 1 ≤ w2.heap.size := (by have := hb2.size; simpa using this))
      | (go_at_call 43; refine (sLeaf_any _ _ _).mono ?_; rintro e w1 ⟨rfl, hb1⟩; have hr1 := (hr.alloc (by omega) (.cells #[.int .i64 0, .int .i64 0, .slice none 0 0] 48)).below hb1 (by simp; omega); have hZ1 := (Blk.new_ w 48 #[.int .i64 0, .int .i64 0, .slice none 0 0] rfl).keep hb1; have g1 : w.grownBy w1 (some r) := only_below (only_alloc (World.grownBy.refl _ _) _) hb1; have s1 : w.heap.size + 1 ≤ w1.heap.size := (by have := hb1.size; simpa using this); have tokA := trivial))
    refine (pick_any B r p 2 _ (by omega) (by omega) (by simp; omega) (hr2.alloc (by omega) _)).mono ?_
    rintro e w3 ⟨m, rfl, hm, hm0, hr3, hg3⟩
    have hS := (StN.mk (g8 := w2.heap.size) (hr2.alloc (by omega) _) (only_alloc g2 _) (hZ2.alloc _) (Blk.new_ w2 48 #[.int .i64 6, .int .i64 0, .slice none 0 0] rfl) hB (by omega)).grown hr3 hg3
    have hN3 : Blk w3 w1.heap.size #[.int .i64 7, .int .i64 0, .slice none 0 0] := (((Blk.new_ w1 48 #[.int .i64 7, .int .i64 0, .slice none 0 0] rfl).keep hb2).alloc _).grown hg3 (by simp; omega)
    obtain ⟨g8, hg8⟩ : ∃ g8, g8 = w2.heap.size := ⟨_, rfl⟩
    rw [← hg8] at hS ⊢
    clear hm hm0 hg3 hr3 hg8 hr2 hZ2 g2 s2 hb2 hb1 hr1 hZ1 g1 s1
    obtain ⟨d0, d1, d2⟩ := hS.hZ.three
    have e0 := hS.hZ.frozen 0
    have e1 := hS.hZ.frozen 1
    have e2 := hS.hZ.frozen 2
    obtain ⟨x0, x1, x2⟩ := hN3.three
    by_cases m0 : m = 0
    · subst m0
      go_wp2_with (first
        | (go_at_call 43; have _t := tk1; refine (sLeaf_any _ _ _).mono ?_; rintro e w5 ⟨rfl, hb5⟩; have hS5 := hS4.below hb5; clear d0 d1 d2 e0 e1 e2; obtain ⟨d0, d1, d2⟩ := hS5.hZ.three; have e0 := hS5.hZ.frozen 0; have e1 := hS5.hZ.frozen 1; have e2 := hS5.hZ.frozen 2)
        | (go_at_call 16; refine (pick_any B r (p + 1) n _ (by omega) (by omega) hS.size.2.2.1 hS.rd).mono ?_; rintro e w4 ⟨m4, rfl, hm4, hm40, hr4, hg4⟩; clear hm4 hm40; have hS4 := hS.grown hr4 hg4; clear hr4; have tk1 := trivial))
      refine bodyPost_ret (v := .agg #[.int .i64 1, .int .i64 m4, .slice none 0 0]) (by simp [results, Tryd.results26, go_sem, d0, d1, d2]) rfl (StN_done hS5 (ks := []) (by omega) (by simp [wz1, wz7]) (by simp) RdP.nil _ _ _ 0)
    · have q0 : ((m : Int) == 0) = false := beq_eq_false_iff_ne.2 (by omega)
      go_wp2_with fail
      refine bodyPost_ret (v := .agg #[.int .i64 7, .int .i64 0, .slice none 0 0]) ?_ rfl ?_
      · simp [results, Tryd.results26, go_sem, d0, d1, d2]
      · exact (StN_done hS (p := p) (s := 10) (ks := []) (by omega) (by simp [wz1, wz7]) (by simp) RdP.nil _ _ _ 0)
  · go_enter Tryd.func26, Tryd.ntmps26
    go_wp2_with (first
      | (go_at_call 43; have _t := tokA; refine (sLeaf_any _ _ _).mono ?_; rintro e w2 ⟨rfl, hb2⟩; have hr2 := (hr1.alloc (by omega) (.cells #[.int .i64 7, .int .i64 0, .slice none 0 0] 48)).below hb2 (by simp; omega); have hZ2 := (hZ1.alloc (.cells #[.int .i64 7, .int .i64 0, .slice none 0 0] 48)).keep hb2; have hN2 := (Blk.new_ w1 48 #[.int .i64 7, .int .i64 0, .slice none 0 0] rfl).keep hb2; have g2 := only_below (only_alloc g1 (.cells #[.int .i64 7, .int .i64 0, .slice none 0 0] 48)) hb2; have s2 : w1.heap.size + 1 ≤ w2.heap.size := (by have := hb2.size; simpa using this); have hS := (StN.mk (g8 := w2.heap.size) (hr2.alloc (by omega) (.cells #[.int .i64 6, .int .i64 0, .slice none 0 0] 48)) (only_alloc g2 _) (hZ2.alloc _) (Blk.new_ w2 48 #[.int .i64 6, .int .i64 0, .slice none 0 0] rfl) hB (by omega)); have lz2 := hZ2.lt; have ln2 := hN2.lt; obtain ⟨d0, d1, d2⟩ := hZ2.three; have e0 := hZ2.frozen 0; have e1 := hZ2.frozen 1; have e2 := hZ2.frozen 2; obtain ⟨x0, x1, x2⟩ := hN2.three)
      | (go_at_call 43; refine (sLeaf_any _ _ _).mono ?_; rintro e w1 ⟨rfl, hb1⟩; have hr1 := (hr.alloc (by omega) (.cells #[.int .i64 0, .int .i64 0, .slice none 0 0] 48)).below hb1 (by simp; omega); have hZ1 := (Blk.new_ w 48 #[.int .i64 0, .int .i64 0, .slice none 0 0] rfl).keep hb1; have g1 : w.grownBy w1 (some r) := only_below (only_alloc (World.grownBy.refl _ _) _) hb1; have s1 : w.heap.size + 1 ≤ w1.heap.size := (by have := hb1.size; simpa using this); have tokA := trivial))
    refine bodyPost_ret (v := .agg #[.int .i64 7, .int .i64 0, .slice none 0 0]) ?_ rfl ?_
    · simp [results, Tryd.results26, go_sem, d0, d1, d2, lz2]
    · refine ⟨7, 0, [], none, 0, p, rfl, by simp, by simp [wz1, wz7], by omega, RdP.nil, ?_, ?_⟩
      · exact (((hr2.setCell (by simp; omega) _).setCell (by simp; omega) _).setCell (by simp; omega) _).alloc (by simp; omega) _
      · exact only_alloc (only_setCell (only_setCell (only_setCell g2 (.inr (by simp)) _) (.inr (by simp)) _) (.inr (by simp)) _) _

theorem nat_any (k : Nat) (hk : k ≤ 4) : NatO k := by
  induction k with
  | zero =>
    intro B r p n d w hd hd5 hn hnk hp hB hr
    exact nat_leaf B r p n d w (by omega) hn (by omega) (by simp [NB] at hp; omega) hB hr
  | succ k ih =>
    intro B r p n d w hd hd5 hn hnk hp hB hr
    by_cases h1 : 1 ≤ d
    · exact nat_step k (by omega) (ih (by omega)) B r p n d w h1 (by omega) hn (by omega) hp hB hr
    · refine (nat_leaf B r p n d w (by omega) hn (by omega) (by omega) hB hr).mono ?_
      rintro e w' ⟨k', n', ks, A, c, p', he, hl, hs, hp', h⟩
      have := nb_ge (k + 1)
      exact ⟨k', n', ks, A, c, p', he, hl, by omega, by omega, h⟩
end Go.Proofs.YtjpgdfndlmipcaaDoor.Nw
