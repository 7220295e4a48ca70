/-
  walked of the implementation. No condition.
-/
import Derived.Test.YtefifcmieicnlaaTermAt
namespace Go.Proofs.Ytefifcmieicnlaa
open Go.RowKit
set_option linter.unusedSimpArgs false
set_option linter.unusedVariables false

/-- a slice of terms that grows; what its terms lead to is not said -/
def RowT (B : Nat) (w : World) (v : Value) (m : Nat) : Prop := ∃ xs, w.ownsRow B 29 3 v m xs
theorem RowT.nil {B : Nat} {w : World} : RowT B w (.slice none 0 0) 0 := ⟨[], World.ownsRow_nil _ _ _ _⟩
theorem RowT.keep {B : Nat} {w w' : World} {v : Value} {m : Nat} (h : RowT B w v m) (hk : ∀ b, B ≤ b → b < w.heap.size → w'.heap[b]? = w.heap[b]?) : RowT B w' v m := by
  obtain ⟨xs, h1⟩ := h
  refine ⟨xs, h1.1, ?_⟩
  rcases h1.2 with hn | ⟨g, cap, cur, rfl, hb, hg, r⟩
  · exact .inl hn
  · exact .inr ⟨g, cap, cur, rfl, hb, (hk g hb (Array.getElem?_eq_some_iff.1 hg).1).trans hg, r⟩
theorem RowT.below {B : Nat} {w w' : World} {v : Value} {m : Nat} (h : RowT B w v m) (hb : Below w.heap.size w w') : RowT B w' v m := h.keep fun b _ hl => hb.block b hl
theorem RowT.setCell {B : Nat} {w : World} {v : Value} {m : Nat} (h : RowT B w v m) {a : Addr} (ha : a.block < B) (u : Value) : RowT B (w.setCell a u) v m :=
  h.keep fun b hb _ => Below.heap_setCell w a u b (by omega)
theorem wpList_append_row {B : Nat} {w : World} {v : Value} {m : Nat} {k n : Int} {s0 : Value} (h0 : s0.oneCell' = true) (hp : RowT B w v m) (hB : B ≤ w.heap.size) (hm : m ≤ 1099511627776)
    {ops : Array Oper} {rest : List Oper} {o : Oper} {a : Act} {Q : Exit → Act → World → Prop} (hgd : o.guard = none) (s x : Operand)
    (ho : o.op = .call { callee := .builtin .append, args := #[s, x], argTypes := #[27, 27] }) (hs : a.eval s = v) (hx : a.eval x = .slice (some ⟨w.heap.size, 0, none⟩) 1 1)
    (h : ∀ v' w', RowT B w' v' (m + 1) → Below B w w' → wpList Try.prog ops Q rest (a.put o.dst v') w') :
    wpList Try.prog ops Q (o :: rest) a (w.alloc (.cells #[.int .i64 k, .int .i64 n, s0] 29)) := by
  refine wpList_plain hgd fun K hK => ?_
  obtain ⟨i, hi, hz, hz1, hz2⟩ := info_parts tm_info
  obtain ⟨xs, h1⟩ := hp
  have hge : ∀ g, v.ownBlock = some g → B ≤ g := fun g hg => (h1.lt g hg).1
  obtain ⟨v', w', hrun, hown, hg, _, hat⟩ := run_append_own_at (P := Try.prog) (w.alloc (.cells #[.int .i64 k, .int .i64 n, s0] 29)) B 27 o.type 29 i _ 3 40 Try.underlying27 hi hz hz1 hz2 rfl (by omega) v m xs (h1.alloc _) ⟨w.heap.size, 0, none⟩ 1 1 [.int .i64 k, .int .i64 n, s0] rfl (by
    intro j u hj
    match j, hj with
    | 0, hj => simp only [List.getElem?_cons_zero, Option.some.injEq] at hj; subst hj; simp [Addr.add]
    | 1, hj => simp only [List.getElem?_cons_succ, List.getElem?_cons_zero, Option.some.injEq] at hj; subst hj; simp [Addr.add]
    | 2, hj => simp only [List.getElem?_cons_succ, List.getElem?_cons_zero, Option.some.injEq] at hj; subst hj; simp [Addr.add]) (by
    intro u hu
    simp only [List.mem_cons, List.not_mem_nil, or_false] at hu
    rcases hu with rfl | rfl | rfl
    · rfl
    · rfl
    · exact h0) (by simp only [maxLen]; omega) (by omega) (by simp; omega)
  unfold Oper.wp execOp
  simp only [ho, resolve, invoke, builtin, Sem.run_bind, Sem.run_pure, Result.andThen_ok, List.map_toArray, List.map_cons, List.map_nil, hs, hx, hrun]
  refine hK _ _ (h v' w' ⟨_, hown⟩ ?_)
  exact ((Below.refl _ _).alloc hB _).trans ⟨hg.os, hg.tape, hg.output, hg.size, fun k hk => hg.block k (by simp; omega) (fun e => by have := hge k e.symm; omega)⟩

def WalkedO (w : World) (o : Option Tm) (e : Ending) (w' : World) : Prop :=
  Below w.heap.size w w' ∧ match o with
  | none => e = .returned (.tuple #[.agg #[.int .i64 0, .int .i64 0, .slice none 0 0], .slice none 0 0, .bool false])
  | some (.mk k n ks) => ∃ A c v, e = .returned (.tuple #[.agg #[.int .i64 k, .int .i64 n, .slice A ks.length c], v, .bool true]) ∧ ks.length ≤ 9223372036854775807 ∧ Rd w A 0 ks

set_option maxHeartbeats 2000000 in
set_option maxRecDepth 100000 in
theorem iWalked_any (k n : Int) (ks : List Tm) (A : Option Addr) (c : Nat) (xs : List Int) (P : Option Addr) (cp : Nat) (w : World) (hM : sizes ks ≤ 1000000000) (hx : xs.length ≤ 1000000000) (hr : Rd w A 0 ks) (hi : RdI w P xs) :
    Calls Try.prog 68 #[.agg #[.int .i64 k, .int .i64 n, .slice A ks.length c], .slice P xs.length cp] w (WalkedO w (atT (.mk k n ks) xs)) := by
  have hlen := length_le_sizes ks
  go_enter Try.func68, Try.ntmps68
  go_wp2_with fail
  go_loopw [7, 12] (fun v i wr => ∃ (j m : Nat) (k1 n1 : Int) (ks1 : List Tm) (A1 : Option Addr) (c1 : Nat), j ≤ xs.length ∧ m ≤ j ∧ i = .int .i64 j ∧ RowT (w.heap.size + 2) wr v m ∧ Hid (atT (.mk k n ks) (xs.take j) = some (.mk k1 n1 ks1)) ∧ ks1.length ≤ 9223372036854775807 ∧ Rd w A1 0 ks1 ∧ Blk wr w.heap.size #[.int .i64 k1, .int .i64 n1, .slice A1 ks1.length c1] ∧ Blk wr (w.heap.size + 1) #[.int .i64 0, .int .i64 0, .slice none 0 0] ∧ Below w.heap.size w wr)
    (fun _ i _ => xs.length - (intOf i).toNat)
  case atStart => exact ⟨0, 0, k, n, ks, A, c, Nat.zero_le _, Nat.le_refl _, rfl, RowT.nil, hide rfl, by omega, hr, (Blk.new_ _ _ _ rfl).alloc _, Blk.new_ _ _ _ (by simp), ((Below.refl _ _).alloc (by simp) _).alloc (by simp) _⟩
  case round =>
    obtain ⟨j, m, k1, n1, ks1, A1, c1, hj, hmj, rfl, hR, hat, hl1, hr1, hB1, hB2, hb⟩ := hrel
    by_cases hlt : j < xs.length
    · obtain ⟨b, off, rfl, hc⟩ := hi.below hb j hlt
      have hnx := hide (atT_take hlt hat.out)
      generalize hxj : xs[j] = x at hc hnx
      have hxj' := hide hxj
      have lB1 := hB1.lt
      have lB2 := hB2.lt
      have p0 := hB1.at_ (i := 0) rfl
      have p2 := hB1.at_ (i := 2) rfl
      clear hxj
      by_cases hin : 0 ≤ x ∧ x < ks1.length
      · obtain ⟨i, rfl⟩ : ∃ i : Nat, x = (i : Int) := ⟨x.toNat, by omega⟩
        have hik : i < ks1.length := by omega
        obtain ⟨b3, off3, k3, n3, ks3, A3, c3, rfl, hkj3, hd1, hd2, hd3, hl3, hr3⟩ := hr1.at_ hik
        have hst : atT (.mk k n ks) (xs.take (j + 1)) = some (.mk k3 n3 ks3) := by
          rw [hnx.out, if_pos (show 0 ≤ (i : Int) ∧ (i : Int) < (Tm.mk k1 n1 ks1).kids.length from hin), Int.toNat_natCast, show (Tm.mk k1 n1 ks1).kids = ks1 from rfl, List.getD_eq_getElem?_getD, List.getElem?_eq_getElem hik, Option.getD_some, hkj3]
        have hst' := hide hst
        have hw1 : (decide ((0 : Int) ≤ (i : Int)) && decide ((i : Int) ≤ (ks1.length : Int) - 1)) = true := by simp; omega
        clear hkj3 hst hnx
        by_cases hun : under k1 i = 1
        · obtain ⟨b4, off4, k4, n4, ks4, A4, c4, hA4, hkj4, g1, g2, g3, hl4, hr4⟩ := hr1.at_ (j := 0) (by omega)
          cases hA4
          simp only [Nat.zero_mul, Nat.add_zero] at g1 g2 g3
          have hkw := Keeps.of_below hb
          have e1 := hkw _ _ g1
          have e2 := hkw _ _ g2
          have e3 := hkw _ _ g3
          clear hkj4 g1 g2 g3
          go_wp2_with (first | (go_at_call 106; refine (within_any _ _ _ _).mono ?_; rw [hw1]; rintro e w3 ⟨rfl, rfl⟩) | (go_at_call 113; refine (iUnder_any _ _ _).mono ?_; rw [hun]; rintro e w4 ⟨rfl, rfl⟩) | (at_builtin; refine wpList_append_row (B := w.heap.size + 2) (m := m) rfl hR (by omega) (by omega) rfl (.tmp 29) (.tmp 34) rfl rfl rfl ?_; intro v2 w2 hRq hgq; have hBq : Blk w2 w.heap.size #[.int .i64 k1, .int .i64 n1, .slice (some ⟨b3, off3, none⟩) ks1.length c1] := hB1.below hgq (by omega); have hTq : Blk w2 (w.heap.size + 1) #[.int .i64 0, .int .i64 0, .slice none 0 0] := hB2.below hgq (by omega); have hbq : Below w.heap.size w w2 := hb.trans (hgq.mono (by omega)); clear p0 p2 e1 e2 e3 hc; have cc0 := hBq.at_ (i := 0) rfl; have cc1 := hBq.at_ (i := 1) rfl; have cc2 := hBq.at_ (i := 2) rfl; have f0 := hBq.frozen 0; have f1 := hBq.frozen 1; have f2 := hBq.frozen 2; have hkq := Keeps.of_below hbq; have z2 := hkq _ _ hd1; have z3 := hkq _ _ hd2; have z4 := hkq _ _ hd3))
          go_roundw
          case rel => exact ⟨j + 1, m + 1, k3, n3, ks3, A3, c3, by omega, by omega, by go_num, ((hRq.setCell (by simp) _).setCell (by simp) _).setCell (by simp) _, hst', hl3, hr3, ((hBq.set_ 0 _).set_ 1 _).set_ 2 _, ((hTq.far (by simp) _).far (by simp) _).far (by simp) _, ((hbq.setCell (by simp) _).setCell (by simp) _).setCell (by simp) _⟩
          case measure => simp [intOf]; omega
        · have hun0 : under k1 i = 0 := by have := under_le k1 i; omega
          have hkw := Keeps.of_below hb
          have z2 := hkw _ _ hd1
          have z3 := hkw _ _ hd2
          have z4 := hkw _ _ hd3
          have p1 := hB1.at_ (i := 1) rfl
          have f0 := hB1.frozen 0
          have f1 := hB1.frozen 1
          have f2 := hB1.frozen 2
          clear hun
          go_wp2_with (first | (go_at_call 106; refine (within_any _ _ _ _).mono ?_; rw [hw1]; rintro e w3 ⟨rfl, rfl⟩) | (go_at_call 113; refine (iUnder_any _ _ _).mono ?_; rw [hun0]; rintro e w4 ⟨rfl, rfl⟩))
          go_roundw
          case rel => exact ⟨j + 1, m, k3, n3, ks3, A3, c3, by omega, by omega, by go_num, ((hR.setCell (by simp) _).setCell (by simp) _).setCell (by simp) _, hst', hl3, hr3, ((hB1.set_ 0 _).set_ 1 _).set_ 2 _, ((hB2.far (by simp) _).far (by simp) _).far (by simp) _, ((hb.setCell (by simp) _).setCell (by simp) _).setCell (by simp) _⟩
          case measure => simp [intOf]; omega
      · have hst : atT (.mk k n ks) (xs.take (j + 1)) = none := by rw [hnx.out, if_neg (show ¬ (0 ≤ x ∧ x < (Tm.mk k1 n1 ks1).kids.length) from hin)]
        have hno := hide (atT_none hst)
        have hw0 : (decide (0 ≤ x) && decide (x ≤ (ks1.length : Int) - 1)) = false := by
          cases h : (decide (0 ≤ x) && decide (x ≤ (ks1.length : Int) - 1)) with
          | false => rfl
          | true =>
            simp only [Bool.and_eq_true, decide_eq_true_eq] at h
            exact absurd ⟨h.1, by omega⟩ hin
        have d0 := hB2.at_ (i := 0) rfl
        have d1 := hB2.at_ (i := 1) rfl
        have d2 := hB2.at_ (i := 2) rfl
        have e0 := hB2.frozen 0
        have e1 := hB2.frozen 1
        have e2 := hB2.frozen 2
        clear hst hnx hin
        go_wp2_with (go_at_call 106; refine (within_any _ _ _ _).mono ?_; rw [hw0]; rintro e w3 ⟨rfl, rfl⟩)
        refine bodyPost_ret (v := .tuple #[.agg #[.int .i64 0, .int .i64 0, .slice none 0 0], .slice none 0 0, .bool false]) (by simp [results, Try.results68, go_sem, d0, d1, d2]) rfl ?_
        rw [hno.out]
        exact ⟨((hb.setCell (by simp) _).setCell (by simp) _).setCell (by simp) _, rfl⟩
    · have hjl : j = xs.length := by omega
      subst hjl
      have h5 := hat.out
      rw [List.take_length] at h5
      have h5' := hide h5
      clear h5
      have cc0 := hB1.at_ (i := 0) rfl
      have cc1 := hB1.at_ (i := 1) rfl
      have cc2 := hB1.at_ (i := 2) rfl
      have d0 := hB2.at_ (i := 0) rfl
      have d1 := hB2.at_ (i := 1) rfl
      have d2 := hB2.at_ (i := 2) rfl
      have e0 := hB2.frozen 0
      have e1 := hB2.frozen 1
      have e2 := hB2.frozen 2
      go_wp2_with fail
      refine bodyPost_ret (v := .tuple #[.agg #[.int .i64 k1, .int .i64 n1, .slice A1 ks1.length c1], _, .bool true]) (by simp [results, Try.results68, go_sem, d0, d1, d2]; rfl) rfl ?_
      rw [h5'.out]
      exact ⟨((hb.setCell (by simp) _).setCell (by simp) _).setCell (by simp) _, A1, c1, _, rfl, hl1, hr1⟩
end Go.Proofs.Ytefifcmieicnlaa
