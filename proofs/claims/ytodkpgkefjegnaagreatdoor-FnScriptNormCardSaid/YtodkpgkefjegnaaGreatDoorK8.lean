/-
  Contracts of the functions that the law reaches, and plain lemmas. No condition.
-/
import Derived.Test.YtodkpgkefjegnaaGreatDoorK2
import Derived.Test.YtodkpgkefjegnaaGreatDoorK3
import Derived.Test.YtodkpgkefjegnaaGreatDoorK4
import Derived.Test.YtodkpgkefjegnaaGreatDoorK6
import Derived.Test.YtodkpgkefjegnaaGreatDoorK7
namespace Go.Proofs.YtodkpgkefjegnaaGreatDoor
set_option linter.unusedSimpArgs false
set_option linter.unusedVariables false
open Go.RowKit
/-- a term that can be read, where p says or in new blocks -/
def GotR (p : Nat → Prop) (w : World) (k n : Int) (ks : List Tm) (e : Ending) (w' : World) : Prop :=
  ∃ A c, e = .returned (.agg #[.int .i64 k, .int .i64 n, .slice A ks.length c]) ∧ ks.length ≤ 9223372036854775807 ∧ RdP (fun b => p b ∨ w.heap.size ≤ b) w' A 0 ks ∧ Below w.heap.size w w'
set_option maxHeartbeats 2000000 in
set_option maxRecDepth 100000 in
theorem sWith_any {p : Nat → Prop} (k n : Int) (ks : List Tm) (A : Option Addr) (c : Nat) (i : Nat) (ku nu : Int) (us : List Tm) (U : Option Addr) (cu : Nat) (L : List Tm) (hL : L.length = ks.length) (hi : ∀ (j : Nat) (t : Tm), ks[j]? = some t → L[j]? = some (if j = i then .mk ku nu us else t)) (w : World) (hM : sizes ks ≤ 1000000) (hlu : us.length ≤ 9223372036854775807) (hr : Rd w A 0 ks) (hru : RdP p w U 0 us) (hpw : ∀ b, p b → b < w.heap.size) :
    Calls Tryz.prog 105 #[.agg #[.int .i64 k, .int .i64 n, .slice A ks.length c], .int .i64 i, .agg #[.int .i64 ku, .int .i64 nu, .slice U us.length cu]] w (GotR p w k n L) := by
  have hlen := length_le_sizes ks
  have hL' := hide hL
  have hi' := hide hi
  clear hi hL
  go_enter Tryz.func105, Tryz.ntmps105
  go_wp2_with fail
  go_loopw [8] (fun jv wr => ∃ (j : Nat) (v : Value), j ≤ ks.length ∧ jv = .int .i64 j ∧ PartR p (w.heap.size + 4) wr v (L.take j) ∧ Blk wr (w.heap.size + 1 + 1 + 1) #[.int .i64 k, .int .i64 n, v] ∧ Blk wr (w.heap.size + 1 + 1) #[.int .i64 0, .int .i64 0, .slice none 0 0] ∧ Blk wr (w.heap.size + 1) #[.int .i64 ku, .int .i64 nu, .slice U us.length cu] ∧ Blk wr w.heap.size #[.int .i64 k, .int .i64 n, .slice A ks.length c] ∧ Below w.heap.size w wr)
    (fun jv _ => ks.length - (intOf jv).toNat)
  case atStart => exact ⟨0, _, Nat.zero_le _, rfl, PartR.nil, Blk.new_ _ _ _ (by simp), (Blk.new_ _ _ _ (by simp)).alloc _, ((Blk.new_ _ _ _ (by simp)).alloc _).alloc _, (((Blk.new_ _ _ _ rfl).alloc _).alloc _).alloc _, ((((Below.refl _ _).alloc (by simp) _).alloc (by simp) _).alloc (by simp; omega) _).alloc (by simp; omega) _⟩
  case round =>
    obtain ⟨j, v, hj, rfl, hp, hB3, hB2, hBu, hB1, hb⟩ := hrel
    have c12 := hB1.at_ (i := 2) rfl
    have hz := hB3.lt
    have sr := hb.size
    by_cases hlt : j < ks.length
    · have hlL : j < L.length := by have := hL'.out; omega
      have htk := hide (List.take_succ_eq_append_getElem hlL)
      have hte := hide (show L[j] = if j = i then .mk ku nu us else ks[j] from by have := hi'.out j ks[j] (List.getElem?_eq_getElem hlt); rw [List.getElem?_eq_getElem hlL] at this; injection this)
      have htl : (L.take j).length = j := by rw [List.length_take]; omega
      by_cases hji : j = i
      · have q0 : ((j : Int) == (i : Int)) = true := by rw [hji]; simp
        have hte2 := hide (hte.out.trans (if_pos hji))
        clear hji
        obtain ⟨u0, u1, u2⟩ := hBu.three
        have c32 := hB3.at_ (i := 2) rfl
        have z3 := hB3.frozen 2
        go_wp2_with (at_builtin; refine wpList_append_rd (lo := p) (B := w.heap.size + 4) (m := j) (k := ku) (n := nu) (ks := us) (A := U) (c := cu) (q := p) hp (by omega) (hru.below hb) (fun b hb => ⟨.inl hb, by have := hpw b hb; omega, fun e => by obtain ⟨xs, h1, _⟩ := hp; have := (h1.lt b e).1; have := hpw b hb; omega⟩) hlu htl (by omega) rfl _ _ rfl rfl (by show Value.slice (some ⟨wr.heap.size, 0, none⟩) 1 1 = _; simp) ?_; intro A2 c2 w2 hp2 hb2 hg2; have q3 : Blk w2 (w.heap.size + 1 + 1 + 1) #[.int .i64 k, .int .i64 n, v] := hB3.below hb2 (by omega); have q2 : Blk w2 (w.heap.size + 1 + 1) #[.int .i64 0, .int .i64 0, .slice none 0 0] := hB2.below hb2 (by omega); have qu : Blk w2 (w.heap.size + 1) #[.int .i64 ku, .int .i64 nu, .slice U us.length cu] := hBu.below hb2 (by omega); have q1' : Blk w2 w.heap.size #[.int .i64 k, .int .i64 n, .slice A ks.length c] := hB1.below hb2 (by omega); have c3 : w2.cell? ⟨w.heap.size + 1 + 1 + 1, 2, none⟩ = some v := q3.at_ rfl; clear z3; have z3 := q3.frozen 2; have hbf : Below w.heap.size w w2 := hb.trans (hb2.mono (by omega)))
        go_roundw
        case rel => exact ⟨j + 1, _, by omega, by go_num, by rw [htk.out, hte2.out]; exact hp2.setCell ⟨fun h => by have h1 := hpw _ h; simp at h1; omega, by simp⟩ _, q3.set_ 2 _, q2.far (by simp) _, qu.far (by simp) _, q1'.far (by simp; omega) _, hbf.setCell (by simp; omega) _⟩
        case measure => simp [intOf]; omega
      · have q0 : ((j : Int) == (i : Int)) = false := beq_eq_false_iff_ne.2 (by omega)
        have hte2 := hide (hte.out.trans (if_neg hji))
        clear hji
        obtain ⟨b, off, k', n', ks', A', c', rfl, hkj, hc1, hc2, hc3, hl', hr'⟩ := (hr.below hb).at_ hlt
        have hsz := sizes_le (List.getElem_mem hlt)
        rw [hkj] at hsz
        simp only [Tm.size] at hsz
        have H3 := hide hkj
        clear hkj
        go_wp2_with fail
        have x2 := hB3.rule (i := 2) rfl
        have b2 := hB1.rule (i := 2) rfl
        have y0 := rule_of hc1
        have y1 := rule_of hc2
        have y2 := rule_of hc3
        refine wp_region_firstY (fun w' => Below wr.heap.size wr w') [0, 1, 2, 3, 4, 5, 6] [7, 8] [9, 10, 11] [_, _, _, _, _, _, _] [_, _] [_, _, _] (by kernel_rfl) (by kernel_rfl) rfl rfl rfl (fun _ _ d _ _ h => by cases d <;> exact h) (Below.refl _ _).drew ?_
        repeat (first | ((refine takeY_skip (a' := ?_) ?_ ?_ ?_); (rotate_left); (· (simp [Region.wanted, yielded]; done)); (· (simp only [List.getElem_toArray, List.getElem_cons_zero, List.getElem_cons_succ, Act.put, List.setIfInBounds_toArray, List.set_cons_zero, List.set_cons_succ]; exact rfl))) | ((refine takeY_step (v := ?_) (a' := ?_) ?_ ?_ ?_ ?_); (rotate_left 2); (· (simp [Region.wanted, yielded]; done)); (· (intro w' hS'; go_simp; try (with_reducible rfl))); (· (simp only [List.getElem_toArray, List.getElem_cons_zero, List.getElem_cons_succ, Act.put, List.setIfInBounds_toArray, List.set_cons_zero, List.set_cons_succ]; exact rfl))))
        refine takeY_nil (then_cons ?_)
        go_wp2_with (go_at_call 29; refine (sCopy_any _ k' n' ks' A' c' _ (Nat.lt_succ_self _) (by omega) hr'.drew).mono ?_; rintro e w1 ⟨A1, c1, rfl, hl1, hf1, hb1⟩)
        have hx1 : Below wr.heap.size wr w1 := (Below.refl _ _).drew.trans hb1
        have hpx := hp.below hx1
        refine mid_intro hx1 (then_cons ?_)
        go_wp2_with fail
        refine mid_intro (hx1.alloc hx1.size _) (then_nil ?_)
        have hf1 : Fresh wr.heap.size w1 A1 ks' := hf1
        refine wpList_append_rd (lo := p) (B := w.heap.size + 4) (m := j) (q := fun b => wr.heap.size ≤ b ∧ b < w1.heap.size) hpx (by have := hx1.size; omega) (Fresh.rdp hf1) (fun b hb => ⟨.inr (by omega), hb.2, fun e => by obtain ⟨xs, h1, _⟩ := hp; have := (h1.lt b e).2; omega⟩) hl1 htl (by omega) rfl (.tmp 31) (.tmp 38) rfl rfl rfl ?_
        intro A2 c2 w2 hp2 hb2 hg2
        have q3 : Blk w2 (w.heap.size + 1 + 1 + 1) #[.int .i64 k, .int .i64 n, v] := (hB3.below hx1 (by omega)).below hb2 (by omega)
        have q2 : Blk w2 (w.heap.size + 1 + 1) #[.int .i64 0, .int .i64 0, .slice none 0 0] := (hB2.below hx1 (by omega)).below hb2 (by omega)
        have qu : Blk w2 (w.heap.size + 1) #[.int .i64 ku, .int .i64 nu, .slice U us.length cu] := (hBu.below hx1 (by omega)).below hb2 (by omega)
        have q1' : Blk w2 w.heap.size #[.int .i64 k, .int .i64 n, .slice (some ⟨b, off, none⟩) ks.length c] := (hB1.below hx1 (by omega)).below hb2 (by omega)
        have c3 : w2.cell? ⟨w.heap.size + 1 + 1 + 1, 2, none⟩ = some v := q3.at_ rfl
        have z3 := q3.frozen 2
        have hbf : Below w.heap.size w w2 := (hb.trans (hx1.mono (by omega))).trans (hb2.mono (by omega))
        clear x2 y0 y1 y2 b2
        go_wp2_with fail
        go_roundw
        case rel => exact ⟨j + 1, _, by omega, by go_num, by rw [htk.out, hte2.out, H3.out]; exact hp2.setCell ⟨fun h => by have h1 := hpw _ h; simp at h1; omega, by simp⟩ _, q3.set_ 2 _, q2.far (by simp) _, qu.far (by simp) _, q1'.far (by simp; omega) _, hbf.setCell (by simp; omega) _⟩
        case measure => simp [intOf]; omega
    · have hjl : j = L.length := by have := hL'.out; omega
      have hjk : j = ks.length := by omega
      rw [hjl, List.take_length] at hp
      subst hjk
      obtain ⟨Ar, cr, rfl, hfr⟩ := hp.rd
      obtain ⟨c0, c1, c2⟩ := hB3.three
      obtain ⟨d0, d1, d2⟩ := hB2.three
      have e0 := hB2.frozen 0
      have e1 := hB2.frozen 1
      have e2 := hB2.frozen 2
      clear hjl
      have hzz : ¬ (p (w.heap.size + 1 + 1) ∨ w.heap.size + 4 ≤ w.heap.size + 1 + 1) := fun h => h.elim (fun h => by have := hpw _ h; omega) (fun h => by omega)
      go_wp2_with fail
      refine bodyPost_ret (v := .agg #[.int .i64 k, .int .i64 n, .slice Ar L.length cr]) (by simp [results, Tryz.results105, go_sem, d0, d1, d2]) rfl ⟨Ar, cr, rfl, by have := hL'.out; omega, ?_, ?_⟩
      · exact (((hfr.setCell hzz _).setCell hzz _).setCell hzz _).mono (fun b hb => hb.imp id (fun h => by omega))
      · exact ((hb.setCell (by simp; omega) _).setCell (by simp; omega) _).setCell (by simp; omega) _
open Go.RowKit
open Go.RowKit
mutual
def sbS (u : Tm) : Int → Int → Tm → Tm
  | x, d, .mk k n ks => if k = 1 ∧ n = x then shS d 0 u else .mk k (if k = 1 ∧ x < n then n - 1 else n) (sbSL u k x d 0 ks)
def sbSL (u : Tm) : Int → Int → Int → Nat → List Tm → List Tm | _, _, _, _, [] => [] | k, x, d, i, t :: ts => sbS u (x + under k i) (d + under k i) t :: sbSL u k x d (i + 1) ts
end
theorem sbSL_append (u : Tm) (k x d : Int) (us : List Tm) : ∀ (ts : List Tm) (i : Nat), sbSL u k x d i (ts ++ us) = sbSL u k x d i ts ++ sbSL u k x d (i + ts.length) us
  | [], i => by simp [sbSL]
  | t :: ts, i => by rw [List.cons_append, sbSL, sbSL, sbSL_append u k x d us ts (i + 1), List.cons_append, List.length_cons, show i + 1 + ts.length = i + (ts.length + 1) from by omega]
theorem sbSL_length (u : Tm) (k x d : Int) : ∀ (ts : List Tm) (i : Nat), (sbSL u k x d i ts).length = ts.length
  | [], i => by simp [sbSL]
  | t :: ts, i => by rw [sbSL, List.length_cons, List.length_cons, sbSL_length u k x d ts (i + 1)]
theorem sbSL_take (u : Tm) (k x d : Int) {ks : List Tm} {j : Nat} (hj : j < ks.length) : sbSL u k x d 0 (ks.take (j + 1)) = sbSL u k x d 0 (ks.take j) ++ [sbS u (x + under k j) (d + under k j) ks[j]] := by
  rw [List.take_succ_eq_append_getElem hj, sbSL_append, List.length_take, Nat.min_eq_left (Nat.le_of_lt hj), Nat.zero_add, sbSL, sbSL]
/-- its size -/
theorem sbS_size (u : Tm) {m : Nat} (hm : u.size ≤ m) (h1 : 1 ≤ m) (t : Tm) : ∀ x d, (sbS u x d t).size ≤ t.size * m := by
  refine (Tm.ind2 (p := fun t => ∀ x d, (sbS u x d t).size ≤ t.size * m) (q := fun ts => ∀ k x d i, sizes (sbSL u k x d i ts) ≤ sizes ts * m) ?_ ?_ ?_).1 t
  · intro k n ks ih x d
    rw [sbS]
    split
    · rw [shS_size, Tm.size, Nat.add_mul]
      omega
    · have := ih k x d 0
      rw [Tm.size, Tm.size, Nat.add_mul]
      omega
  · intro k x d i; simp [sbSL, sizes]
  · intro t ts h1 h2 k x d i
    have a := h1 (x + under k i) (d + under k i)
    have b := h2 k x d (i + 1)
    rw [sbSL, sizes, sizes, Nat.add_mul]
    omega
set_option maxHeartbeats 2000000 in
set_option maxRecDepth 100000 in
theorem sSubst_any (ku nu : Int) (us : List Tm) (hus : shape 30 (.mk ku nu us) = true) (huz : sizes us ≤ 1000000) (N : Nat) : ∀ (k n : Int) (ks : List Tm) (A : Option Addr) (c : Nat) (U : Option Addr) (cu : Nat) (x d : Int) (q : Nat) (w : World), sizes ks < N → sizes ks ≤ 1000000 → shape q (.mk k n ks) = true → 0 ≤ x → x + q ≤ 900 → 0 ≤ d → d + q ≤ 900 → Rd w A 0 ks → Rd w U 0 us →
    ∀ (k2 n2 : Int) (ks2 : List Tm), sbS (.mk ku nu us) x d (.mk k n ks) = .mk k2 n2 ks2 →
    Calls Tryz.prog 141 #[.agg #[.int .i64 k, .int .i64 n, .slice A ks.length c], .int .i64 x, .agg #[.int .i64 ku, .int .i64 nu, .slice U us.length cu], .int .i64 d] w (GotT w k2 n2 ks2) := by
  induction N with
  | zero => intro k n ks A c U cu x d q w hN; exact absurd hN (Nat.not_lt_zero _)
  | succ N ih =>
  intro k n ks A c U cu x d q w hN hM hsh hx0 hxq hd0 hdq hr hru kr nr ksr hfl
  have hlen := length_le_sizes ks
  obtain ⟨q, rfl⟩ : ∃ q', q = q' + 1 := by cases q with | zero => simp [shape] at hsh | succ q => exact ⟨q, rfl⟩
  obtain ⟨ha, hm1, hm2, hkids⟩ := (shape_split q k n ks).1 hsh
  rw [sbS] at hfl
  have hus' := hide hus
  by_cases hk : k = 1
  · subst hk
    have hks : ks = [] := by
      have h0 : arity 1 = 0 := rfl
      rw [h0] at ha
      exact List.eq_nil_of_length_eq_zero (by omega)
    subst hks
    have h20 : mostN 1 = 20 := rfl
    rw [h20] at hm2
    clear hkids hsh ha h20
    by_cases hnx : n = x
    · rw [if_pos ⟨rfl, hnx⟩, shS] at hfl
      injection hfl with h1 h2 h3
      subst h1 h2 h3
      obtain ⟨n2, hn2⟩ : ∃ n2, (if ku = 1 ∧ 0 ≤ nu then nu + d else nu) = n2 := ⟨_, rfl⟩
      have hn2' := hide hn2
      rw [hn2]
      clear hn2
      subst hnx
      go_enter Tryz.func141, Tryz.ntmps141
      go_wp2_with (go_at_call 178; refine (sShift_any _ ku nu us U cu d 0 30 _ (Nat.lt_succ_self _) (by omega) hus'.out (by omega) (by omega) (by omega) (((hru.alloc _).alloc _).alloc _)).mono ?_; rw [hn2'.out]; rintro e w1 ⟨A1, c1, rfl, hl1, hf1, hb1⟩; have hT : Blk w1 (w.heap.size + 1 + 1) #[.int .i64 0, .int .i64 0, .slice none 0 0] := (Blk.new_ _ 25 _ (by simp)).keep hb1; obtain ⟨d0, d1, d2⟩ := hT.three; have e0 := hT.frozen 0; have e1 := hT.frozen 1; have e2 := hT.frozen 2; replace hf1 : Fresh (w.heap.size + 3) w1 A1 (shSL d ku 0 0 us) := hf1.mono (by simp); replace hb1 : Below w.heap.size w w1 := ((((Below.refl _ _).alloc (Nat.le_refl _) _).alloc (by simp) _).alloc (by simp; omega) _).trans (hb1.mono (by simp; omega)))
      refine bodyPost_ret (v := .agg #[.int .i64 ku, .int .i64 n2, .slice A1 (shSL d ku 0 0 us).length c1]) (by simp [results, Tryz.results141, go_sem, d0, d1, d2]) rfl ⟨A1, c1, by simp, hl1, ?_, ?_⟩
      · exact (((hf1.setCell (by simp) _).setCell (by simp) _).setCell (by simp) _).mono (by omega)
      · exact ((hb1.setCell (by simp; omega) _).setCell (by simp; omega) _).setCell (by simp; omega) _
    · rw [if_neg (by rintro ⟨-, h⟩; exact hnx h)] at hfl
      have q0 : (n == x) = false := by simpa using hnx
      by_cases hxn : x < n
      · rw [if_pos ⟨rfl, hxn⟩] at hfl
        injection hfl with h1 h2 h3
        subst h1 h2 h3
        have q2 : decide (x < n) = true := by simpa using hxn
        clear hnx
        go_enter Tryz.func141, Tryz.ntmps141
        go_wp2_with fail
        go_loopw [10] (fun i wr => i = .int .i64 0 ∧ Blk wr (w.heap.size + 1 + 1 + 1) #[.int .i64 1, .int .i64 (n - 1), .slice none 0 0] ∧ Blk wr (w.heap.size + 1 + 1) #[.int .i64 0, .int .i64 0, .slice none 0 0] ∧ Blk wr w.heap.size #[.int .i64 1, .int .i64 n, .slice A 0 c] ∧ Below w.heap.size w wr)
          (fun _ _ => 0)
        case atStart => exact ⟨rfl, Blk.new_ _ _ _ (by simp), (Blk.new_ _ _ _ (by simp)).alloc _, (((Blk.new_ _ _ _ rfl).alloc _).alloc _).alloc _, ((((Below.refl _ _).alloc (by simp) _).alloc (by simp) _).alloc (by simp; omega) _).alloc (by simp; omega) _⟩
        case round =>
          obtain ⟨rfl, hB3, hB2, hB1, hb⟩ := hrel
          have b2 := hB1.at_ (i := 2) rfl
          obtain ⟨c0, c1, c2⟩ := hB3.three
          obtain ⟨d0, d1, d2⟩ := hB2.three
          have e0 := hB2.frozen 0
          have e1 := hB2.frozen 1
          have e2 := hB2.frozen 2
          go_wp2_with fail
          refine bodyPost_ret (v := .agg #[.int .i64 1, .int .i64 (n - 1), .slice none 0 0]) (by simp [results, Tryz.results141, go_sem, d0, d1, d2]) rfl ⟨none, 0, by simp [sbSL], by simp [sbSL], ?_, ?_⟩
          · simpa [sbSL] using (Fresh.nil : Fresh w.heap.size _ none [])
          · exact ((hb.setCell (by simp; omega) _).setCell (by simp; omega) _).setCell (by simp; omega) _
      · rw [if_neg (by rintro ⟨-, h⟩; exact hxn h)] at hfl
        injection hfl with h1 h2 h3
        subst h1 h2 h3
        have q2 : decide (x < n) = false := by simpa using hxn
        clear hnx
        go_enter Tryz.func141, Tryz.ntmps141
        go_wp2_with fail
        go_loopw [10] (fun i wr => i = .int .i64 0 ∧ Blk wr (w.heap.size + 1 + 1 + 1) #[.int .i64 1, .int .i64 (n), .slice none 0 0] ∧ Blk wr (w.heap.size + 1 + 1) #[.int .i64 0, .int .i64 0, .slice none 0 0] ∧ Blk wr w.heap.size #[.int .i64 1, .int .i64 n, .slice A 0 c] ∧ Below w.heap.size w wr)
          (fun _ _ => 0)
        case atStart => exact ⟨rfl, Blk.new_ _ _ _ (by simp), (Blk.new_ _ _ _ (by simp)).alloc _, (((Blk.new_ _ _ _ rfl).alloc _).alloc _).alloc _, ((((Below.refl _ _).alloc (by simp) _).alloc (by simp) _).alloc (by simp; omega) _).alloc (by simp; omega) _⟩
        case round =>
          obtain ⟨rfl, hB3, hB2, hB1, hb⟩ := hrel
          have b2 := hB1.at_ (i := 2) rfl
          obtain ⟨c0, c1, c2⟩ := hB3.three
          obtain ⟨d0, d1, d2⟩ := hB2.three
          have e0 := hB2.frozen 0
          have e1 := hB2.frozen 1
          have e2 := hB2.frozen 2
          go_wp2_with fail
          refine bodyPost_ret (v := .agg #[.int .i64 1, .int .i64 (n), .slice none 0 0]) (by simp [results, Tryz.results141, go_sem, d0, d1, d2]) rfl ⟨none, 0, by simp [sbSL], by simp [sbSL], ?_, ?_⟩
          · simpa [sbSL] using (Fresh.nil : Fresh w.heap.size _ none [])
          · exact ((hb.setCell (by simp; omega) _).setCell (by simp; omega) _).setCell (by simp; omega) _
  · have hn : ¬ (k = 1 ∧ n = x) := by rintro ⟨h, -⟩; exact hk h
    rw [if_neg hn, if_neg (by rintro ⟨h, -⟩; exact hk h)] at hfl
    injection hfl with h1 h2 h3
    subst h1 h2 h3
    have hkids' := hide hkids
    have hm2' := hide hm2
    clear hkids ha hsh hm2
    have q1 : (k == 1) = false := by simpa using hk
    clear hn hk
    go_enter Tryz.func141, Tryz.ntmps141
    go_wp2_with fail
    go_loopw [10, 11] (fun i _ wr => ∃ (j : Nat) (v : Value), j ≤ ks.length ∧ i = .int .i64 j ∧ Part (w.heap.size + 4) wr v (sbSL (.mk ku nu us) k x d 0 (ks.take j)) ∧ Blk wr (w.heap.size + 1 + 1 + 1) #[.int .i64 k, .int .i64 (n), v] ∧ Blk wr (w.heap.size + 1 + 1) #[.int .i64 0, .int .i64 0, .slice none 0 0] ∧ Blk wr (w.heap.size + 1) #[.int .i64 ku, .int .i64 nu, .slice U us.length cu] ∧ Blk wr w.heap.size #[.int .i64 k, .int .i64 n, .slice A ks.length c] ∧ Below w.heap.size w wr)
      (fun i _ _ => ks.length - (intOf i).toNat)
    case atStart => exact ⟨0, _, Nat.zero_le _, rfl, Part.nil, Blk.new_ _ _ _ (by simp), (Blk.new_ _ _ _ (by simp)).alloc _, ((Blk.new_ _ _ _ (by simp)).alloc _).alloc _, (((Blk.new_ _ _ _ rfl).alloc _).alloc _).alloc _, ((((Below.refl _ _).alloc (by simp) _).alloc (by simp) _).alloc (by simp; omega) _).alloc (by simp; omega) _⟩
    case round =>
      obtain ⟨j, v, hj, rfl, hp, hB3, hB2, hBu, hB1, hb⟩ := hrel
      have c12 := hB1.at_ (i := 2) rfl
      have c10 := hB1.at_ (i := 0) rfl
      by_cases hlt : j < ks.length
      · obtain ⟨b, off, k', n', ks', A', c', rfl, hkj, hc1, hc2, hc3, hl', hr'⟩ := (hr.below hb).at_ hlt
        have hsz := sizes_le (List.getElem_mem hlt)
        have hsk := hkids'.out _ (List.getElem_mem hlt)
        rw [hkj] at hsz hsk
        simp only [Tm.size] at hsz
        have H3 := hide hkj
        have H4 := hide hsk
        clear hkj hsk
        have hz := hB3.lt
        obtain ⟨k2, n2, ks2, hct⟩ : ∃ k2 n2 ks2, sbS (.mk ku nu us) (x + under k j) (d + under k j) (.mk k' n' ks') = .mk k2 n2 ks2 := tm_eta _
        have hct' := hide hct
        clear hct
        have hun := under_le k j
        go_wp2_with (go_at_call 179; refine (sUnder_any _ _ _).mono ?_; rintro e w9 ⟨rfl, rfl⟩)
        have x2 := hB3.rule (i := 2) rfl
        have a0 := hBu.rule (i := 0) rfl
        have a1 := hBu.rule (i := 1) rfl
        have a2 := hBu.rule (i := 2) rfl
        have b2 := hB1.rule (i := 2) rfl
        have y0 := rule_of hc1
        have y1 := rule_of hc2
        have y2 := rule_of hc3
        refine wp_region_firstY (fun w' => Below wr.heap.size wr w') [0, 1, 2, 3, 4, 5, 6, 7, 8, 9, 10, 11, 12, 13] [14, 15] [16, 17, 18] [_, _, _, _, _, _, _, _, _, _, _, _, _, _] [_, _] [_, _, _] (by kernel_rfl) (by kernel_rfl) rfl rfl rfl (fun _ _ d _ _ h => by cases d <;> exact h) (Below.refl _ _).drew ?_
        repeat (first | ((refine takeY_skip (a' := ?_) ?_ ?_ ?_); (rotate_left); (· (simp [Region.wanted, yielded]; done)); (· (simp only [List.getElem_toArray, List.getElem_cons_zero, List.getElem_cons_succ, Act.put, List.setIfInBounds_toArray, List.set_cons_zero, List.set_cons_succ]; exact rfl))) | ((refine takeY_step (v := ?_) (a' := ?_) ?_ ?_ ?_ ?_); (rotate_left 2); (· (simp [Region.wanted, yielded]; done)); (· (intro w' hS'; go_simp; try (with_reducible rfl))); (· (simp only [List.getElem_toArray, List.getElem_cons_zero, List.getElem_cons_succ, Act.put, List.setIfInBounds_toArray, List.set_cons_zero, List.set_cons_succ]; exact rfl))))
        refine takeY_nil (then_cons ?_)
        go_wp2_with (go_at_call 141; refine (ih k' n' ks' A' c' U cu (x + under k j) (d + under k j) q _ (by omega) (by omega) H4.out (by omega) (by omega) (by omega) (by omega) hr'.drew (hru.below hb).drew k2 n2 ks2 hct'.out).mono ?_; rintro e w1 ⟨A1, c1, rfl, hl1, hf1, hb1⟩)
        have hx1 : Below wr.heap.size wr w1 := (Below.refl _ _).drew.trans hb1
        refine mid_intro hx1 (then_cons ?_)
        go_wp2_with fail
        refine mid_intro (hx1.alloc hx1.size _) (then_nil ?_)
        refine wpList_append_built (B := w.heap.size + 4) (m := j) hp.drew hb1 (by simp; omega) hf1 hl1 (by rw [sbSL_length]; simp; omega) (by omega) rfl (.tmp 54) (.tmp 68) rfl rfl rfl ?_
        intro A2 c2 w2 hp2 hb2 hg2
        have q3 : Blk w2 (w.heap.size + 1 + 1 + 1) #[.int .i64 k, .int .i64 (n), v] := (hB3.below hx1 (by omega)).below hb2 (by omega)
        have q2 : Blk w2 (w.heap.size + 1 + 1) #[.int .i64 0, .int .i64 0, .slice none 0 0] := (hB2.below hx1 (by omega)).below hb2 (by omega)
        have qu : Blk w2 (w.heap.size + 1) #[.int .i64 ku, .int .i64 nu, .slice U us.length cu] := (hBu.below hx1 (by omega)).below hb2 (by omega)
        have q1' : Blk w2 w.heap.size #[.int .i64 k, .int .i64 n, .slice (some ⟨b, off, none⟩) ks.length c] := (hB1.below hx1 (by omega)).below hb2 (by omega)
        have c3 : w2.cell? ⟨w.heap.size + 1 + 1 + 1, 2, none⟩ = some v := q3.at_ rfl
        have z3 := q3.frozen 2
        have hbf : Below w.heap.size w w2 := (hb.trans (hx1.mono (by omega))).trans (hb2.mono (by omega))
        clear x2 y0 y1 y2 b2 a0 a1 a2
        go_wp2_with fail
        go_roundw
        case rel => exact ⟨j + 1, _, by omega, by go_num, by rw [sbSL_take _ k x d hlt, H3.out, hct'.out]; exact hp2.setCell (by simp) _, q3.set_ 2 _, q2.far (by simp) _, qu.far (by simp) _, q1'.far (by simp; omega) _, hbf.setCell (by simp; omega) _⟩
        case measure => simp [intOf]; omega
      · have hjl : j = ks.length := by omega
        subst hjl
        rw [List.take_length] at hp
        obtain ⟨Ar, cr, rfl, hfr⟩ := hp.fresh
        obtain ⟨c0, c1, c2⟩ := hB3.three
        obtain ⟨d0, d1, d2⟩ := hB2.three
        have e0 := hB2.frozen 0
        have e1 := hB2.frozen 1
        have e2 := hB2.frozen 2
        go_wp2_with fail
        refine bodyPost_ret (v := .agg #[.int .i64 k, .int .i64 (n), .slice Ar (sbSL (.mk ku nu us) k x d 0 ks).length cr]) (by simp [results, Tryz.results141, go_sem, d0, d1, d2]) rfl ⟨Ar, cr, rfl, by rw [sbSL_length]; omega, ?_, ?_⟩
        · exact (((hfr.setCell (by simp) _).setCell (by simp) _).setCell (by simp) _).mono (by omega)
        · exact ((hb.setCell (by simp; omega) _).setCell (by simp; omega) _).setCell (by simp; omega) _
end Go.Proofs.YtodkpgkefjegnaaGreatDoor
