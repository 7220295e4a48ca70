/-
  FillTerm of the reference. No condition.
-/
import Derived.Test.YtefifcmieicnlaaSFill
import Derived.Test.YtefifcmieicnlaaCont
namespace Go.Proofs.Ytefifcmieicnlaa
open Go.RowKit
set_option linter.unusedSimpArgs false
set_option linter.unusedVariables false

set_option maxHeartbeats 2000000 in
set_option maxRecDepth 100000 in
theorem made_yes (k n : Int) (ks : List Tm) (A : Option Addr) (c : Nat) (w : World) (hM : sizes ks ≤ 1099511627775) (hr : Rd w A 0 ks) (hv : validT (.mk k n ks) = true) :
    Calls Try.prog 58 #[(.agg #[.int .i64 k, .int .i64 n, .slice A ks.length c])] w fun e w' => e = .returned (.tuple #[(.agg #[.int .i64 k, .int .i64 n, .slice A ks.length c]), .bool true]) ∧ Below w.heap.size w w' := by
  go_enter Try.func58, Try.ntmps58
  go_wp2_with (go_at_call 50; refine (sTermValid_any k n ks A c _ hM ((hr.alloc _).alloc _)).mono ?_; rw [hv]; rintro e w1 ⟨rfl, hb1⟩; have hB : Blk w1 w.heap.size #[.int .i64 k, .int .i64 n, .slice A ks.length c] := ((Blk.new_ w 29 #[.int .i64 k, .int .i64 n, .slice A ks.length c] rfl).alloc _).keep hb1; have hT : Blk w1 (w.heap.size + 1) #[.int .i64 0, .int .i64 0, .slice none 0 0] := (Blk.new_ _ 29 _ (by simp)).keep hb1; obtain ⟨p0, p1, p2⟩ := hB.three; obtain ⟨d0, d1, d2⟩ := hT.three; have e0 := hT.frozen 0; have e1 := hT.frozen 1; have e2 := hT.frozen 2; replace hb1 : Below w.heap.size w w1 := (((Below.refl _ _).alloc (Nat.le_refl _) _).alloc (by simp) _).trans (hb1.mono (by simp; omega)))
  refine bodyPost_ret (v := .tuple #[(.agg #[.int .i64 k, .int .i64 n, .slice A ks.length c]), .bool true]) (by simp [results, Try.results58, go_sem, d0, d1, d2]) rfl ⟨rfl, ?_⟩
  exact ((hb1.setCell (by simp) _).setCell (by simp) _).setCell (by simp) _
set_option maxHeartbeats 2000000 in
set_option maxRecDepth 100000 in
theorem made_no (k n : Int) (ks : List Tm) (A : Option Addr) (c : Nat) (w : World) (hM : sizes ks ≤ 1099511627775) (hr : Rd w A 0 ks) (hv : validT (.mk k n ks) = false) :
    Calls Try.prog 58 #[(.agg #[.int .i64 k, .int .i64 n, .slice A ks.length c])] w fun e w' => e = .returned (.tuple #[.agg #[.int .i64 0, .int .i64 0, .slice none 0 0], .bool false]) ∧ Below w.heap.size w w' := by
  go_enter Try.func58, Try.ntmps58
  go_wp2_with (go_at_call 50; refine (sTermValid_any k n ks A c _ hM ((hr.alloc _).alloc _)).mono ?_; rw [hv]; rintro e w1 ⟨rfl, hb1⟩; have hT : Blk w1 (w.heap.size + 1) #[.int .i64 0, .int .i64 0, .slice none 0 0] := (Blk.new_ _ 29 _ (by simp)).keep hb1; obtain ⟨d0, d1, d2⟩ := hT.three; have e0 := hT.frozen 0; have e1 := hT.frozen 1; have e2 := hT.frozen 2; replace hb1 : Below w.heap.size w w1 := (((Below.refl _ _).alloc (Nat.le_refl _) _).alloc (by simp) _).trans (hb1.mono (by simp; omega)))
  refine bodyPost_ret (v := .tuple #[.agg #[.int .i64 0, .int .i64 0, .slice none 0 0], .bool false]) (by simp [results, Try.results58, go_sem, d0, d1, d2]) rfl ⟨rfl, ?_⟩
  exact ((hb1.setCell (by simp) _).setCell (by simp) _).setCell (by simp) _

set_option maxHeartbeats 2000000 in
set_option maxRecDepth 100000 in
theorem sFits5_any (args : List Tm) (B : Option Addr) (cb : Nat) (w : World) (hM : sizes args ≤ 1099511627775) (hr : Rd w B 0 args) :
    Calls Try.prog 102 #[.slice B args.length cb] w fun e w' => e = .returned (.bool (!(args.any fun a => !validT a) && decide ((args.length : Int) ≤ 8))) ∧ Below w.heap.size w w' := by
  have hlen := length_le_sizes args
  go_enter Try.func102, Try.ntmps102
  go_wp2_with fail
  go_loopw [3] (fun i wr => ∃ j : Nat, j ≤ args.length ∧ i = .int .i64 j ∧ Hid (∀ t, t ∈ args.take j → validT t = true) ∧ Below w.heap.size w wr) (fun i _ => args.length - (intOf i).toNat)
  case atStart => exact ⟨0, Nat.zero_le _, rfl, hide (by simp), Below.refl _ _⟩
  case round =>
    obtain ⟨j, hj, rfl, hall, hb⟩ := hrel
    by_cases hlt : j < args.length
    · obtain ⟨b, off, k1, n1, ks1, A1, c1, rfl, hkj, hc1, hc2, hc3, hl1, hr1⟩ := (hr.below hb).at_ hlt
      have hsz := sizes_le (List.getElem_mem hlt)
      rw [hkj] at hsz
      simp only [Tm.size] at hsz
      have H3 := hide hkj
      clear hkj
      cases hv1 : validT (.mk k1 n1 ks1) with
      | false =>
        go_wp2_with (go_at_call 50; refine (sTermValid_any k1 n1 ks1 A1 c1 _ (by omega) hr1).mono ?_; rw [hv1]; rintro e w3 ⟨rfl, hb3⟩)
        go_ret
        refine ⟨?_, hb.trans (hb3.mono hb.size)⟩
        rw [show (args.any fun a => !validT a) = true from List.any_eq_true.2 ⟨args[j], List.getElem_mem hlt, by rw [H3.out, hv1]; rfl⟩]; rfl
      | true =>
        go_wp2_with (go_at_call 50; refine (sTermValid_any k1 n1 ks1 A1 c1 _ (by omega) hr1).mono ?_; rw [hv1]; rintro e w3 ⟨rfl, hb3⟩)
        go_roundw
        case rel => exact ⟨j + 1, hlt, by go_num, hide (all_take hlt hall.out (by rw [H3.out]; exact hv1)), hb.trans (hb3.mono hb.size)⟩
        case measure => simp [intOf]; omega
    · have hje : j = args.length := by omega
      go_wp2_with fail
      go_ret
      refine ⟨?_, hb⟩
      have ha := hall.out
      rw [hje, List.take_length] at ha
      rw [show (args.any fun a => !validT a) = false from List.any_eq_false.2 fun t ht => by rw [ha t ht]; exact Bool.false_ne_true]; simp

set_option maxHeartbeats 2000000 in
set_option maxRecDepth 100000 in
theorem sFits13_any (args : List Tm) (B : Option Addr) (cb : Nat) (w : World) (hM : sizes args ≤ 1099511627775) (hr : Rd w B 0 args) :
    Calls Try.prog 57 #[.slice B args.length cb] w fun e w' => e = .returned (.bool (decide ((args.length : Int) ≤ 6) && !(args.any fun a => !validT a))) ∧ Below w.heap.size w w' := by
  have hlen := length_le_sizes args
  by_cases h6 : args.length ≤ 6
  · have q1 : decide ((args.length : Int) ≤ 6) = true := decide_eq_true (by omega)
    have q2 : decide ((args.length : Int) ≤ 8) = true := decide_eq_true (by omega)
    generalize hg : (args.any fun a => !validT a) = b
    have hg' := hide hg
    clear hg
    go_enter Try.func57, Try.ntmps57
    go_wp2_with (go_at_call 102; refine (sFits5_any args B cb _ hM hr).mono ?_; rw [hg'.out, q2]; rintro e w1 ⟨rfl, hb1⟩)
    go_ret
    exact ⟨by simp; intro _; omega, hb1⟩
  · have q1 : decide ((args.length : Int) ≤ 6) = false := decide_eq_false (by omega)
    rw [q1, Bool.false_and]
    go_enter Try.func57, Try.ntmps57
    go_wp2_with fail
    go_ret
    exact ⟨rfl, Below.refl _ _⟩

theorem shS_size (by_ : Int) (t : Tm) : ∀ d, (shS by_ d t).size = t.size := by
  refine Tm.rec (motive_1 := fun t => ∀ d, (shS by_ d t).size = t.size) (motive_2 := fun ts => ∀ k d i, sizes (shSL by_ k d i ts) = sizes ts) ?_ ?_ ?_ t
  · intro k n ks ih d; rw [shS, Tm.size, Tm.size, ih]
  · intro k d i; rfl
  · intro t ts h1 h2 k d i; rw [shSL, sizes, sizes, h1, h2]
theorem flS_size (args : List Tm) (hs : ∀ t, t ∈ args → t.size ≤ 400) (t : Tm) : ∀ d, (flS args d t).size ≤ t.size * 400 := by
  refine Tm.rec (motive_1 := fun t => ∀ d, (flS args d t).size ≤ t.size * 400) (motive_2 := fun ts => ∀ k d i, sizes (flSL args k d i ts) ≤ sizes ts * 400) ?_ ?_ ?_ t
  · intro k n ks ih d
    rw [flS]
    have h3 := ih k d 0
    split
    · split
      · rename_i h1 h2
        rw [shS_size, List.getD_eq_getElem?_getD]
        have hlt : (n - d).toNat < args.length := by omega
        rw [List.getElem?_eq_getElem hlt, Option.getD_some]
        have := hs _ (List.getElem_mem hlt)
        simp only [Tm.size]; omega
      · simp only [Tm.size, sizes]; omega
    · simp only [Tm.size]; omega
  · intro k d i; simp [flSL, sizes]
  · intro t ts h1 h2 k d i; have a := h1 (d + under k i); have b := h2 k d (i + 1); rw [flSL, sizes, sizes]; omega

/-- what the reference's FillTerm answers -/
def fillTS (t : Tm) (args : List Tm) : Option Tm := if validT t = true ∧ args.length ≤ 6 ∧ (args.any fun a => !validT a) = false ∧ validT (flS args 0 t) = true then some (flS args 0 t) else none

set_option maxHeartbeats 2000000 in
set_option maxRecDepth 100000 in
theorem sFillTerm_any (k n : Int) (ks : List Tm) (A : Option Addr) (c : Nat) (args : List Tm) (B : Option Addr) (cb : Nat) (w : World) (hM : sizes ks ≤ 1048576) (hMa : sizes args ≤ 1048576) (hr : Rd w A 0 ks) (hRa : Rd w B 0 args) :
    Calls Try.prog 26 #[(.agg #[.int .i64 k, .int .i64 n, .slice A ks.length c]), .slice B args.length cb] w (GotO w (fillTS (.mk k n ks) args)) := by
  have hlen := length_le_sizes ks
  have hlena := length_le_sizes args
  cases hv : validT (.mk k n ks) with
  | false =>
    have hz : fillTS (.mk k n ks) args = none := by rw [fillTS, if_neg]; rintro ⟨h, -⟩; rw [hv] at h; cases h
    rw [hz]
    go_enter Try.func26, Try.ntmps26
    go_wp2_with (go_at_call 50; refine (sTermValid_any k n ks A c _ (by omega) ((hr.alloc _).alloc _)).mono ?_; rw [hv]; rintro e w1 ⟨rfl, hb1⟩; have hB1 : Blk w1 w.heap.size #[.int .i64 k, .int .i64 n, .slice A ks.length c] := ((Blk.new_ w 29 #[.int .i64 k, .int .i64 n, .slice A ks.length c] rfl).alloc _).keep hb1; obtain ⟨p0, p1, p2⟩ := hB1.three; have hT1 : Blk w1 (w.heap.size + 1) #[.int .i64 0, .int .i64 0, .slice none 0 0] := (Blk.new_ _ 29 _ (by simp)).keep hb1; obtain ⟨d0, d1, d2⟩ := hT1.three; have e0 := hT1.frozen 0; have e1 := hT1.frozen 1; have e2 := hT1.frozen 2; have hr1 := ((hr.alloc (.cells #[.int .i64 k, .int .i64 n, .slice A ks.length c] 29)).alloc (.cells #[.int .i64 0, .int .i64 0, .slice none 0 0] 29)).below hb1; have ha1 := ((hRa.alloc (.cells #[.int .i64 k, .int .i64 n, .slice A ks.length c] 29)).alloc (.cells #[.int .i64 0, .int .i64 0, .slice none 0 0] 29)).below hb1; replace hb1 : Below w.heap.size w w1 := (((Below.refl _ _).alloc (Nat.le_refl _) _).alloc (by simp) _).trans (hb1.mono (by simp; omega)))
    refine bodyPost_ret (v := .tuple #[zeroV, .bool false]) (by simp [results, Try.results26, go_sem, d0, d1, d2, zeroV]) rfl ⟨rfl, ?_⟩
    exact ((hb1.setCell (by simp) _).setCell (by simp) _).setCell (by simp) _
  | true =>
    cases hf : (decide ((args.length : Int) ≤ 6) && !(args.any fun a => !validT a)) with
    | false =>
      have hz : fillTS (.mk k n ks) args = none := by
        rw [fillTS, if_neg]; rintro ⟨-, h1, h2, -⟩
        rw [h2, decide_eq_true (show (args.length : Int) ≤ 6 by omega)] at hf; cases hf
      rw [hz]
      go_enter Try.func26, Try.ntmps26
      go_wp2_with (first | (go_at_call 50; refine (sTermValid_any k n ks A c _ (by omega) ((hr.alloc _).alloc _)).mono ?_; rw [hv]; rintro e w1 ⟨rfl, hb1⟩; have hB1 : Blk w1 w.heap.size #[.int .i64 k, .int .i64 n, .slice A ks.length c] := ((Blk.new_ w 29 #[.int .i64 k, .int .i64 n, .slice A ks.length c] rfl).alloc _).keep hb1; obtain ⟨p0, p1, p2⟩ := hB1.three; have hT1 : Blk w1 (w.heap.size + 1) #[.int .i64 0, .int .i64 0, .slice none 0 0] := (Blk.new_ _ 29 _ (by simp)).keep hb1; obtain ⟨d0, d1, d2⟩ := hT1.three; have e0 := hT1.frozen 0; have e1 := hT1.frozen 1; have e2 := hT1.frozen 2; have hr1 := ((hr.alloc (.cells #[.int .i64 k, .int .i64 n, .slice A ks.length c] 29)).alloc (.cells #[.int .i64 0, .int .i64 0, .slice none 0 0] 29)).below hb1; have ha1 := ((hRa.alloc (.cells #[.int .i64 k, .int .i64 n, .slice A ks.length c] 29)).alloc (.cells #[.int .i64 0, .int .i64 0, .slice none 0 0] 29)).below hb1; replace hb1 : Below w.heap.size w w1 := (((Below.refl _ _).alloc (Nat.le_refl _) _).alloc (by simp) _).trans (hb1.mono (by simp; omega))) | (go_at_call 57; refine (sFits13_any args B cb _ (by omega) ha1).mono ?_; rw [hf]; rintro e w2 ⟨rfl, hb2⟩; have hB2 := hB1.keep hb2; obtain ⟨s0, s1, s2⟩ := hB2.three; have hT2 := hT1.keep hb2; obtain ⟨t0, t1, t2⟩ := hT2.three; have u0 := hT2.frozen 0; have u1 := hT2.frozen 1; have u2 := hT2.frozen 2; have hr2 := hr1.below hb2; have ha2 := ha1.below hb2; replace hb2 : Below w.heap.size w w2 := hb1.trans (hb2.mono hb1.size)))
      refine bodyPost_ret (v := .tuple #[zeroV, .bool false]) (by simp [results, Try.results26, go_sem, t0, t1, t2, zeroV]) rfl ⟨rfl, ?_⟩
      exact ((hb2.setCell (by simp) _).setCell (by simp) _).setCell (by simp) _
    | true =>
      have hf0 := hf
      rw [Bool.and_eq_true, decide_eq_true_eq, Bool.not_eq_true'] at hf0
      obtain ⟨hla, hany⟩ := hf0
      have hs : shape 30 (.mk k n ks) = true := by simp only [validT, Bool.and_eq_true] at hv; exact hv.1
      have hsz := validT_size hv
      rw [Tm.size] at hsz
      have hval : ∀ t, t ∈ args → validT t = true := fun t ht => by simpa using List.any_eq_false.1 hany t ht
      have hsa : ∀ t, t ∈ args → shape 30 t = true := fun t ht => by
        have := hval t ht
        simp only [validT, Bool.and_eq_true] at this
        exact this.1
      have hsa' := hide hsa
      obtain ⟨k2, n2, ks2, hfl⟩ : ∃ k2 n2 ks2, flS args 0 (.mk k n ks) = .mk k2 n2 ks2 := tm_eta _
      have hz2 := flS_size args (fun t ht => validT_size (hval t ht)) (.mk k n ks) 0
      rw [hfl] at hz2
      simp only [Tm.size] at hz2
      have hfl' := hide hfl
      clear hsa hval
      cases hv2 : validT (.mk k2 n2 ks2) with
      | false =>
        have hz : fillTS (.mk k n ks) args = none := by rw [fillTS, if_neg]; rintro ⟨-, -, -, h⟩; rw [hfl, hv2] at h; cases h
        rw [hz]
        clear hz hfl hany
        go_enter Try.func26, Try.ntmps26
        go_wp2_with (first | (go_at_call 50; refine (sTermValid_any k n ks A c _ (by omega) ((hr.alloc _).alloc _)).mono ?_; rw [hv]; rintro e w1 ⟨rfl, hb1⟩; have hB1 : Blk w1 w.heap.size #[.int .i64 k, .int .i64 n, .slice A ks.length c] := ((Blk.new_ w 29 #[.int .i64 k, .int .i64 n, .slice A ks.length c] rfl).alloc _).keep hb1; obtain ⟨p0, p1, p2⟩ := hB1.three; have hT1 : Blk w1 (w.heap.size + 1) #[.int .i64 0, .int .i64 0, .slice none 0 0] := (Blk.new_ _ 29 _ (by simp)).keep hb1; obtain ⟨d0, d1, d2⟩ := hT1.three; have e0 := hT1.frozen 0; have e1 := hT1.frozen 1; have e2 := hT1.frozen 2; have hr1 := ((hr.alloc (.cells #[.int .i64 k, .int .i64 n, .slice A ks.length c] 29)).alloc (.cells #[.int .i64 0, .int .i64 0, .slice none 0 0] 29)).below hb1; have ha1 := ((hRa.alloc (.cells #[.int .i64 k, .int .i64 n, .slice A ks.length c] 29)).alloc (.cells #[.int .i64 0, .int .i64 0, .slice none 0 0] 29)).below hb1; replace hb1 : Below w.heap.size w w1 := (((Below.refl _ _).alloc (Nat.le_refl _) _).alloc (by simp) _).trans (hb1.mono (by simp; omega))) | (go_at_call 57; refine (sFits13_any args B cb _ (by omega) ha1).mono ?_; rw [hf]; rintro e w2 ⟨rfl, hb2⟩; have hB2 := hB1.keep hb2; obtain ⟨s0, s1, s2⟩ := hB2.three; have hT2 := hT1.keep hb2; obtain ⟨t0, t1, t2⟩ := hT2.three; have u0 := hT2.frozen 0; have u1 := hT2.frozen 1; have u2 := hT2.frozen 2; have hr2 := hr1.below hb2; have ha2 := ha1.below hb2; replace hb2 : Below w.heap.size w w2 := hb1.trans (hb2.mono hb1.size)) | (go_at_call 59; refine (sFill_any args (by omega) hsa'.out (by omega) _ k n ks A c B cb 0 30 _ (Nat.lt_succ_self _) (by omega) hs (by omega) (by omega) hr2 ha2 k2 n2 ks2 hfl'.out).mono ?_; rintro e w3 ⟨A3, c3, rfl, hl3, hf3, hb3⟩; have hT3 := hT2.keep hb3; replace hb3 : Below w.heap.size w w3 := hb2.trans (hb3.mono hb2.size); replace hf3 : Fresh (w.heap.size + 2) w3 A3 ks2 := hf3.mono (by have := hT2.lt; omega)) | (go_at_call 58; refine (made_no k2 n2 ks2 A3 c3 _ (by omega) hf3.rd hv2).mono ?_; rintro e w4 ⟨rfl, hb4⟩; replace hT3 := hT3.keep hb4; obtain ⟨v0, v1, v2⟩ := hT3.three; have x0 := hT3.frozen 0; have x1 := hT3.frozen 1; have x2 := hT3.frozen 2; replace hf3 := hf3.below hb4; replace hb4 : Below w.heap.size w w4 := hb3.trans (hb4.mono hb3.size)))
        refine bodyPost_ret (v := .tuple #[zeroV, .bool false]) (by simp [results, Try.results26, go_sem, v0, v1, v2, zeroV]) rfl ⟨rfl, ?_⟩
        exact ((hb4.setCell (by simp) _).setCell (by simp) _).setCell (by simp) _
      | true =>
        have hz : fillTS (.mk k n ks) args = some (.mk k2 n2 ks2) := by rw [fillTS, if_pos ⟨hv, by omega, hany, by rw [hfl]; exact hv2⟩, hfl]
        rw [hz]
        clear hz hfl hany
        go_enter Try.func26, Try.ntmps26
        go_wp2_with (first | (go_at_call 50; refine (sTermValid_any k n ks A c _ (by omega) ((hr.alloc _).alloc _)).mono ?_; rw [hv]; rintro e w1 ⟨rfl, hb1⟩; have hB1 : Blk w1 w.heap.size #[.int .i64 k, .int .i64 n, .slice A ks.length c] := ((Blk.new_ w 29 #[.int .i64 k, .int .i64 n, .slice A ks.length c] rfl).alloc _).keep hb1; obtain ⟨p0, p1, p2⟩ := hB1.three; have hT1 : Blk w1 (w.heap.size + 1) #[.int .i64 0, .int .i64 0, .slice none 0 0] := (Blk.new_ _ 29 _ (by simp)).keep hb1; obtain ⟨d0, d1, d2⟩ := hT1.three; have e0 := hT1.frozen 0; have e1 := hT1.frozen 1; have e2 := hT1.frozen 2; have hr1 := ((hr.alloc (.cells #[.int .i64 k, .int .i64 n, .slice A ks.length c] 29)).alloc (.cells #[.int .i64 0, .int .i64 0, .slice none 0 0] 29)).below hb1; have ha1 := ((hRa.alloc (.cells #[.int .i64 k, .int .i64 n, .slice A ks.length c] 29)).alloc (.cells #[.int .i64 0, .int .i64 0, .slice none 0 0] 29)).below hb1; replace hb1 : Below w.heap.size w w1 := (((Below.refl _ _).alloc (Nat.le_refl _) _).alloc (by simp) _).trans (hb1.mono (by simp; omega))) | (go_at_call 57; refine (sFits13_any args B cb _ (by omega) ha1).mono ?_; rw [hf]; rintro e w2 ⟨rfl, hb2⟩; have hB2 := hB1.keep hb2; obtain ⟨s0, s1, s2⟩ := hB2.three; have hT2 := hT1.keep hb2; obtain ⟨t0, t1, t2⟩ := hT2.three; have u0 := hT2.frozen 0; have u1 := hT2.frozen 1; have u2 := hT2.frozen 2; have hr2 := hr1.below hb2; have ha2 := ha1.below hb2; replace hb2 : Below w.heap.size w w2 := hb1.trans (hb2.mono hb1.size)) | (go_at_call 59; refine (sFill_any args (by omega) hsa'.out (by omega) _ k n ks A c B cb 0 30 _ (Nat.lt_succ_self _) (by omega) hs (by omega) (by omega) hr2 ha2 k2 n2 ks2 hfl'.out).mono ?_; rintro e w3 ⟨A3, c3, rfl, hl3, hf3, hb3⟩; have hT3 := hT2.keep hb3; replace hb3 : Below w.heap.size w w3 := hb2.trans (hb3.mono hb2.size); replace hf3 : Fresh (w.heap.size + 2) w3 A3 ks2 := hf3.mono (by have := hT2.lt; omega)) | (go_at_call 58; refine (made_yes k2 n2 ks2 A3 c3 _ (by omega) hf3.rd hv2).mono ?_; rintro e w4 ⟨rfl, hb4⟩; replace hT3 := hT3.keep hb4; obtain ⟨v0, v1, v2⟩ := hT3.three; have x0 := hT3.frozen 0; have x1 := hT3.frozen 1; have x2 := hT3.frozen 2; replace hf3 := hf3.below hb4; replace hb4 : Below w.heap.size w w4 := hb3.trans (hb4.mono hb3.size)))
        refine bodyPost_ret (v := .tuple #[.agg #[.int .i64 k2, .int .i64 n2, .slice A3 ks2.length c3], .bool true]) (by simp [results, Try.results26, go_sem, v0, v1, v2]) rfl ⟨A3, c3, rfl, hl3, ?_, ?_⟩
        · exact (((hf3.setCell (by simp) _).setCell (by simp) _).setCell (by simp) _).mono (by omega)
        · exact ((hb4.setCell (by simp) _).setCell (by simp) _).setCell (by simp) _
end Go.Proofs.Ytefifcmieicnlaa
