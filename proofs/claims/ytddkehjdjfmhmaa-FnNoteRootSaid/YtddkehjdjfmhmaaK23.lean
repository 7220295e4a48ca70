/-
 Contracts of the functions that the law reaches, and plain lemmas. No condition.
-/
import Derived.Test.YtddkehjdjfmhmaaK9
import Derived.Test.YtddkehjdjfmhmaaK18
import Derived.Test.YtddkehjdjfmhmaaK22
namespace Go.Proofs.Ytddkehjdjfmhmaa
set_option linter.unusedSimpArgs false
set_option linter.unusedVariables false
open Go.RowKit
set_option maxRecDepth 100000 in
set_option maxHeartbeats 8000000 in
theorem sSubst31_any (ku nu : Int) (us : List Tm) (hus : shape 31 (.mk ku nu us) = true) (huz : sizes us ≤ 1000000) (N : Nat) : ∀ (k n : Int) (ks : List Tm) (A : Option Addr) (c : Nat) (U : Option Addr) (cu : Nat) (x d : Int) (q : Nat) (w : World), sizes ks < N → sizes ks ≤ 1000000 → shape q (.mk k n ks) = true → 0 ≤ x → x + q ≤ 900 → 0 ≤ d → d + q ≤ 900 → Rd w A 0 ks → Rd w U 0 us →
  ∀ (k2 n2 : Int) (ks2 : List Tm), sbS (.mk ku nu us) x d (.mk k n ks) = .mk k2 n2 ks2 →
  Calls Try.prog 87 #[.agg #[.int .i64 k, .int .i64 n, .slice A ks.length c], .int .i64 x, .agg #[.int .i64 ku, .int .i64 nu, .slice U us.length cu], .int .i64 d] w (GotT w k2 n2 ks2) := by
 induction N with
 | zero => intro k n ks A c U cu x d q w hN; exact absurd hN (Nat.not_lt_zero _)
 | succ N ih =>
 intro k n ks A c U cu x d q w hN hM hsh hx0 hxq hd0 hdq hr hru kr nr ksr hfl
 have hlen := length_le_sizes ks
 obtain ⟨q, rfl⟩ : ∃ q', q = q' + 1 := by cases q with | zero => simp [shape] at hsh | succ q => exact ⟨q, rfl⟩
 obtain ⟨ha, hm1, hm2, hkids⟩ := (shape_split q k n ks).1 hsh
 rw [sbS] at hfl
 have hus' := hide hus
 by_cases hk : k = 1
 ·subst hk
  have hks : ks = [] := by
   have h0 : arity 1 = 0 := rfl
   rw [h0] at ha
   exact List.eq_nil_of_length_eq_zero (by omega)
  subst hks
  have h20 : mostN 1 = 20 := rfl
  rw [h20] at hm2
  clear hkids hsh ha h20
  by_cases hnx : n = x
  ·rw [if_pos ⟨rfl, hnx⟩, shS] at hfl
   injection hfl with h1 h2 h3
   subst h1 h2 h3
   obtain ⟨n2, hn2⟩ : ∃ n2, (if ku = 1 ∧ 0 ≤ nu then nu + d else nu) = n2 := ⟨_, rfl⟩
   have hn2' := hide hn2
   rw [hn2]
   clear hn2
   subst hnx
   go_enter Try.func87, Try.ntmps87
   go_wp2_with (go_at_call 90; refine (sShift_any _ ku nu us U cu d 0 31 _ (Nat.lt_succ_self _) (by omega) hus'.out (by omega) (by omega) (by omega) (((hru.alloc _).alloc _).alloc _)).mono ?_; rw [hn2'.out]; rintro e w1 ⟨A1, c1, rfl, hl1, hf1, hb1⟩; have hT : Blk w1 (w.heap.size + 1 + 1) #[.int .i64 0, .int .i64 0, .slice none 0 0] := (Blk.new_ _ 25 _ (by simp)).keep hb1; obtain ⟨d0, d1, d2⟩ := hT.three; have e0 := hT.frozen 0; have e1 := hT.frozen 1; have e2 := hT.frozen 2; replace hf1 : Fresh (w.heap.size + 3) w1 A1 (shSL d ku 0 0 us) := hf1.mono (by simp); replace hb1 : Below w.heap.size w w1 := ((((Below.refl _ _).alloc (Nat.le_refl _) _).alloc (by simp) _).alloc (by simp; omega) _).trans (hb1.mono (by simp; omega)))
   refine bodyPost_ret (v := .agg #[.int .i64 ku, .int .i64 n2, .slice A1 (shSL d ku 0 0 us).length c1]) (by simp [results, Try.results87, go_sem, d0, d1, d2]) rfl ⟨A1, c1, by simp, hl1, ?_, ?_⟩
   ·exact (((hf1.setCell (by simp) _).setCell (by simp) _).setCell (by simp) _).mono (by omega)
   ·exact ((hb1.setCell (by simp; omega) _).setCell (by simp; omega) _).setCell (by simp; omega) _
  ·rw [if_neg (by rintro ⟨-, h⟩; exact hnx h)] at hfl
   have q0 : (n == x) = false := by simpa using hnx
   by_cases hxn : x < n
   ·rw [if_pos ⟨rfl, hxn⟩] at hfl
    injection hfl with h1 h2 h3
    subst h1 h2 h3
    have q2 : decide (x < n) = true := by simpa using hxn
    clear hnx
    go_enter Try.func87, Try.ntmps87
    go_wp2_with fail
    go_loopw [10] (fun i wr => i = .int .i64 0 ∧ Blk wr (w.heap.size + 1 + 1 + 1) #[.int .i64 1, .int .i64 (n - 1), .slice none 0 0] ∧ Blk wr (w.heap.size + 1 + 1) #[.int .i64 0, .int .i64 0, .slice none 0 0] ∧ Blk wr w.heap.size #[.int .i64 1, .int .i64 n, .slice A 0 c] ∧ Below w.heap.size w wr)
     (fun _ _ => 0)
    case atStart => exact ⟨rfl, Blk.new_ _ _ _ (by simp), (Blk.new_ _ _ _ (by simp)).alloc _, (((Blk.new_ _ _ _ rfl).alloc _).alloc _).alloc _, ((((Below.refl _ _).alloc (by simp) _).alloc (by simp) _).alloc (by simp; omega) _).alloc (by simp; omega) _⟩
    case round =>
     obtain ⟨rfl, hB3, hB2, hB1, hb⟩ := hrel
     have b2 := hB1.at_ (i := 2) rfl
     obtain ⟨c0, c1, c2⟩ := hB3.three
     obtain ⟨d0, d1, d2⟩ := hB2.three
     have e0 := hB2.frozen 0
     have e1 := hB2.frozen 1
     have e2 := hB2.frozen 2
     go_wp2_with fail
     refine bodyPost_ret (v := .agg #[.int .i64 1, .int .i64 (n - 1), .slice none 0 0]) (by simp [results, Try.results87, go_sem, d0, d1, d2]) rfl ⟨none, 0, by simp [sbSL], by simp [sbSL], ?_, ?_⟩
     ·simpa [sbSL] using (Fresh.nil : Fresh w.heap.size _ none [])
     ·exact ((hb.setCell (by simp; omega) _).setCell (by simp; omega) _).setCell (by simp; omega) _
   ·rw [if_neg (by rintro ⟨-, h⟩; exact hxn h)] at hfl
    injection hfl with h1 h2 h3
    subst h1 h2 h3
    have q2 : decide (x < n) = false := by simpa using hxn
    clear hnx
    go_enter Try.func87, Try.ntmps87
    go_wp2_with fail
    go_loopw [10] (fun i wr => i = .int .i64 0 ∧ Blk wr (w.heap.size + 1 + 1 + 1) #[.int .i64 1, .int .i64 (n), .slice none 0 0] ∧ Blk wr (w.heap.size + 1 + 1) #[.int .i64 0, .int .i64 0, .slice none 0 0] ∧ Blk wr w.heap.size #[.int .i64 1, .int .i64 n, .slice A 0 c] ∧ Below w.heap.size w wr)
     (fun _ _ => 0)
    case atStart => exact ⟨rfl, Blk.new_ _ _ _ (by simp), (Blk.new_ _ _ _ (by simp)).alloc _, (((Blk.new_ _ _ _ rfl).alloc _).alloc _).alloc _, ((((Below.refl _ _).alloc (by simp) _).alloc (by simp) _).alloc (by simp; omega) _).alloc (by simp; omega) _⟩
    case round =>
     obtain ⟨rfl, hB3, hB2, hB1, hb⟩ := hrel
     have b2 := hB1.at_ (i := 2) rfl
     obtain ⟨c0, c1, c2⟩ := hB3.three
     obtain ⟨d0, d1, d2⟩ := hB2.three
     have e0 := hB2.frozen 0
     have e1 := hB2.frozen 1
     have e2 := hB2.frozen 2
     go_wp2_with fail
     refine bodyPost_ret (v := .agg #[.int .i64 1, .int .i64 (n), .slice none 0 0]) (by simp [results, Try.results87, go_sem, d0, d1, d2]) rfl ⟨none, 0, by simp [sbSL], by simp [sbSL], ?_, ?_⟩
     ·simpa [sbSL] using (Fresh.nil : Fresh w.heap.size _ none [])
     ·exact ((hb.setCell (by simp; omega) _).setCell (by simp; omega) _).setCell (by simp; omega) _
 ·have hn : ¬ (k = 1 ∧ n = x) := by rintro ⟨h, -⟩; exact hk h
  rw [if_neg hn, if_neg (by rintro ⟨h, -⟩; exact hk h)] at hfl
  injection hfl with h1 h2 h3
  subst h1 h2 h3
  have hkids' := hide hkids
  have hm2' := hide hm2
  clear hkids ha hsh hm2
  have q1 : (k == 1) = false := by simpa using hk
  clear hn hk
  go_enter Try.func87, Try.ntmps87
  go_wp2_with fail
  go_loopw [10, 11] (fun i _ wr => ∃ (j : Nat) (v : Value), j ≤ ks.length ∧ i = .int .i64 j ∧ Part (w.heap.size + 4) wr v (sbSL (.mk ku nu us) k x d 0 (ks.take j)) ∧ Blk wr (w.heap.size + 1 + 1 + 1) #[.int .i64 k, .int .i64 (n), v] ∧ Blk wr (w.heap.size + 1 + 1) #[.int .i64 0, .int .i64 0, .slice none 0 0] ∧ Blk wr (w.heap.size + 1) #[.int .i64 ku, .int .i64 nu, .slice U us.length cu] ∧ Blk wr w.heap.size #[.int .i64 k, .int .i64 n, .slice A ks.length c] ∧ Below w.heap.size w wr)
   (fun i _ _ => ks.length - (intOf i).toNat)
  case atStart => exact ⟨0, _, Nat.zero_le _, rfl, Part.nil, Blk.new_ _ _ _ (by simp), (Blk.new_ _ _ _ (by simp)).alloc _, ((Blk.new_ _ _ _ (by simp)).alloc _).alloc _, (((Blk.new_ _ _ _ rfl).alloc _).alloc _).alloc _, ((((Below.refl _ _).alloc (by simp) _).alloc (by simp) _).alloc (by simp; omega) _).alloc (by simp; omega) _⟩
  case round =>
   obtain ⟨j, v, hj, rfl, hp, hB3, hB2, hBu, hB1, hb⟩ := hrel
   have c12 := hB1.at_ (i := 2) rfl
   have c10 := hB1.at_ (i := 0) rfl
   by_cases hlt : j < ks.length
   ·obtain ⟨b, off, k', n', ks', A', c', rfl, hkj, hc1, hc2, hc3, hl', hr'⟩ := (hr.below hb).at_ hlt
    have hsz := sizes_le (List.getElem_mem hlt)
    have hsk := hkids'.out _ (List.getElem_mem hlt)
    rw [hkj] at hsz hsk
    simp only [Tm.size] at hsz
    have H3 := hide hkj
    have H4 := hide hsk
    clear hkj hsk
    have hz := hB3.lt
    obtain ⟨k2, n2, ks2, hct⟩ : ∃ k2 n2 ks2, sbS (.mk ku nu us) (x + under k j) (d + under k j) (.mk k' n' ks') = .mk k2 n2 ks2 := tm_eta _
    have hct' := hide hct
    clear hct
    have hun := under_le k j
    go_wp2_with (go_at_call 94; refine (sUnder_any _ _ _).mono ?_; rintro e w9 ⟨rfl, rfl⟩)
    have x2 := hB3.rule (i := 2) rfl
    have a0 := hBu.rule (i := 0) rfl
    have a1 := hBu.rule (i := 1) rfl
    have a2 := hBu.rule (i := 2) rfl
    have b2 := hB1.rule (i := 2) rfl
    have y0 := rule_of hc1
    have y1 := rule_of hc2
    have y2 := rule_of hc3
    refine wp_region_firstY (fun w' => Below wr.heap.size wr w') [0, 1, 2, 3, 4, 5, 6, 7, 8, 9, 10, 11, 12, 13] [14, 15] [16, 17, 18] [_, _, _, _, _, _, _, _, _, _, _, _, _, _] [_, _] [_, _, _] (by kernel_rfl) (by kernel_rfl) rfl rfl rfl (fun _ _ d _ _ h => by cases d <;> exact h) (Below.refl _ _).drew ?_
    repeat ((first | ((refine takeY_skip (a' := ?_) ?_ ?_ ?_); (rotate_left); (· (simp [Region.wanted, yielded]; done))) | ((refine takeY_step (v := ?_) (a' := ?_) ?_ ?_ ?_ ?_); (rotate_left 2); (· (simp [Region.wanted, yielded]; done)); (· (intro w' hS'; go_simp; try (with_reducible rfl))))); (· (simp only [List.getElem_toArray, List.getElem_cons_zero, List.getElem_cons_succ, Act.put, List.setIfInBounds_toArray, List.set_cons_zero, List.set_cons_succ]; exact rfl)))
    refine takeY_nil (then_cons ?_)
    go_wp2_with (go_at_call 87; refine (ih k' n' ks' A' c' U cu (x + under k j) (d + under k j) q _ (by omega) (by omega) H4.out (by omega) (by omega) (by omega) (by omega) hr'.drew (hru.below hb).drew k2 n2 ks2 hct'.out).mono ?_; rintro e w1 ⟨A1, c1, rfl, hl1, hf1, hb1⟩)
    have hx1 : Below wr.heap.size wr w1 := (Below.refl _ _).drew.trans hb1
    refine mid_intro hx1 (then_cons ?_)
    go_wp2_with fail
    refine mid_intro (hx1.alloc hx1.size _) (then_nil ?_)
    refine wpList_append_built (B := w.heap.size + 4) (m := j) hp.drew hb1 (by simp; omega) hf1 hl1 (by rw [sbSL_length]; simp; omega) (by omega) rfl (.tmp 54) (.tmp 68) rfl rfl rfl ?_
    intro A2 c2 w2 hp2 hb2 hg2
    have q3 : Blk w2 (w.heap.size + 1 + 1 + 1) #[.int .i64 k, .int .i64 (n), v] := (hB3.below hx1 (by omega)).below hb2 (by omega)
    have q2 : Blk w2 (w.heap.size + 1 + 1) #[.int .i64 0, .int .i64 0, .slice none 0 0] := (hB2.below hx1 (by omega)).below hb2 (by omega)
    have qu : Blk w2 (w.heap.size + 1) #[.int .i64 ku, .int .i64 nu, .slice U us.length cu] := (hBu.below hx1 (by omega)).below hb2 (by omega)
    have q1' : Blk w2 w.heap.size #[.int .i64 k, .int .i64 n, .slice (some ⟨b, off, none⟩) ks.length c] := (hB1.below hx1 (by omega)).below hb2 (by omega)
    have c3 : w2.cell? ⟨w.heap.size + 1 + 1 + 1, 2, none⟩ = some v := q3.at_ rfl
    have z3 := q3.frozen 2
    have hbf : Below w.heap.size w w2 := (hb.trans (hx1.mono (by omega))).trans (hb2.mono (by omega))
    clear x2 y0 y1 y2 b2 a0 a1 a2
    go_wp2_with fail
    go_roundw
    case rel => exact ⟨j + 1, _, by omega, by go_num, by rw [sbSL_take _ k x d hlt, H3.out, hct'.out]; exact hp2.setCell (by simp) _, q3.set_ 2 _, q2.far (by simp) _, qu.far (by simp) _, q1'.far (by simp; omega) _, hbf.setCell (by simp; omega) _⟩
    case measure => simp [intOf]; omega
   ·have hjl : j = ks.length := by omega
    subst hjl
    rw [List.take_length] at hp
    obtain ⟨Ar, cr, rfl, hfr⟩ := hp.fresh
    obtain ⟨c0, c1, c2⟩ := hB3.three
    obtain ⟨d0, d1, d2⟩ := hB2.three
    have e0 := hB2.frozen 0
    have e1 := hB2.frozen 1
    have e2 := hB2.frozen 2
    go_wp2_with fail
    refine bodyPost_ret (v := .agg #[.int .i64 k, .int .i64 (n), .slice Ar (sbSL (.mk ku nu us) k x d 0 ks).length cr]) (by simp [results, Try.results87, go_sem, d0, d1, d2]) rfl ⟨Ar, cr, rfl, by rw [sbSL_length]; omega, ?_, ?_⟩
    ·exact (((hfr.setCell (by simp) _).setCell (by simp) _).setCell (by simp) _).mono (by omega)
    ·exact ((hb.setCell (by simp; omega) _).setCell (by simp; omega) _).setCell (by simp; omega) _
open Go.RowKit
theorem rdx_consT {p : Nat → Prop} {w : World} {k n : Int} {ks : List Tm} {A : Option Addr} {c : Nat} {ts : List Tm} {ys : List Value} (hl : ks.length ≤ 9223372036854775807) (hr : RdP p w A 0 ks) (hx : RdX p w ts ys) : RdX p w (.mk k n ks :: ts) (.int .i64 k :: .int .i64 n :: .slice A ks.length c :: ys) := ⟨A, c, ys, rfl, hl, hr, hx⟩
theorem rdx_nilT {p : Nat → Prop} {w : World} : RdX p w [] [] := rfl
def GotV (w : World) (k n : Int) (ks : List Tm) (e : Ending) (w' : World) : Prop :=
 ∃ A c, e = .returned (.agg #[.int .i64 k, .int .i64 n, .slice A ks.length c]) ∧ ks.length ≤ 9223372036854775807 ∧ Rd w' A 0 ks ∧ Below w.heap.size w w'
theorem sNodeT_any {w : World} {us : List Tm} {x1 : List Value} (k : Int) (ht : RdX (· < w.heap.size) w us x1) (m : Nat) (hm : us.length = m) (hlen : m ≤ 1000) (g c : Nat) (hb : Blk w g x1.toArray) :
  Calls Try.prog 46 #[.int .i64 k, .slice (some ⟨g, 0, none⟩) m c] w fun e w' => ∃ A c, e = .returned (.agg #[.int .i64 k, .int .i64 0, .slice A m c]) ∧ Rd w' A 0 us ∧ Below w.heap.size w w' := by
 subst hm
 refine (l1NodeR_any k ht (fun _ h => h) (by omega) g c hb).mono ?_
 rintro e w' ⟨A, c', rfl, h1, h2, h3⟩
 exact ⟨A, c', rfl, h2.rd, h3⟩
theorem rd_set0L {w : World} {z : Nat} {ks : List Tm} {A : Option Addr} (hZ : Blk w z #[.int .i64 0, .int .i64 0, .slice none 0 0]) (hv : ∀ t, t ∈ ks → validT t = true) (hr : Rd w A 0 ks) (x y v : Value) :
  Rd (((w.setCell ⟨z, 0, none⟩ x).setCell ⟨z, 1, none⟩ y).setCell ⟨z, 2, none⟩ v) A 0 ks :=
 (((((rdp_ne hZ).2 ks 30 A 0 (fun t ht => validT_shape30 (hv t ht)) hr).setCell (a := ⟨z, 0, none⟩) (fun h => h rfl) x).setCell (a := ⟨z, 1, none⟩) (fun h => h rfl) y).setCell (a := ⟨z, 2, none⟩) (fun h => h rfl) v).rd
theorem sSubT_any (k n : Int) (ks : List Tm) (A : Option Addr) (c : Nat) (ku nu : Int) (us : List Tm) (U : Option Addr) (cu : Nat) (w : World) (hv : validT (.mk k n ks) = true) (hu : shape 30 (.mk ku nu us) = true) (huz : sizes us ≤ 1000000) (hr : Rd w A 0 ks) (hru : Rd w U 0 us) (k2 n2 : Int) (s2 : List Tm) (h : sbS (.mk ku nu us) 0 0 (.mk k n ks) = .mk k2 n2 s2) :
  Calls Try.prog 87 #[.agg #[.int .i64 k, .int .i64 n, .slice A ks.length c], .int .i64 0, .agg #[.int .i64 ku, .int .i64 nu, .slice U us.length cu], .int .i64 0] w (GotT w k2 n2 s2) := by
 have hM := validT_size' hv
 exact sSubst_any ku nu us hu huz _ k n ks A c U cu 0 0 30 w (Nat.lt_succ_self _) (by omega) (validT_shape30 hv) (by omega) (by omega) (by omega) (by omega) hr hru k2 n2 s2 h
theorem sSubU_any (k n : Int) (ks : List Tm) (A : Option Addr) (c : Nat) (ku nu : Int) (us : List Tm) (U : Option Addr) (cu : Nat) (w : World) (hv : validT (.mk k n ks) = true) (hu : shape 31 (.mk ku nu us) = true) (huz : sizes us ≤ 1000000) (hr : Rd w A 0 ks) (hru : Rd w U 0 us) (k2 n2 : Int) (s2 : List Tm) (h : sbS (.mk ku nu us) 0 0 (.mk k n ks) = .mk k2 n2 s2) :
  Calls Try.prog 87 #[.agg #[.int .i64 k, .int .i64 n, .slice A ks.length c], .int .i64 0, .agg #[.int .i64 ku, .int .i64 nu, .slice U us.length cu], .int .i64 0] w (GotT w k2 n2 s2) := by
 have hM := validT_size' hv
 exact sSubst31_any ku nu us hu huz _ k n ks A c U cu 0 0 30 w (Nat.lt_succ_self _) (by omega) (validT_shape30 hv) (by omega) (by omega) (by omega) (by omega) hr hru k2 n2 s2 h
theorem shpR_ok {N : Nat} {ctx : List Tm} {t h : Tm} {kind : Int} (hs : shpR (infR N) ctx t kind = some (.ok h)) : h.k = kind ∧ validT h = true := by
 rcases bd_inv hs with ⟨b, _, hb⟩ | ⟨s, _, hs⟩
 ·cases hb
 ·rcases bd_inv hs with ⟨b, _, hb⟩ | ⟨o, h2, hs⟩
  ·cases hb
  ·injection h2 with h2
   unfold shpH at hs
   split at hs
   ·injection hs with hs; injection hs with hs; subst hs; exact ⟨by assumption, (hdR_valid h2).2.1⟩
   ·injection hs with hs; cases hs
theorem kids2 {k n : Int} {ks : List Tm} (ha : arity k = 2) (h : validT (.mk k n ks) = true) : ∃ ka na sa kb nb sb, ks = [.mk ka na sa, .mk kb nb sb] := by
 have h2 := validT_len2 h
 obtain ⟨⟨ka, na, sa⟩, ⟨kb, nb, sb⟩, rfl⟩ := len2 (ks := ks) (by omega)
 exact ⟨ka, na, sa, kb, nb, sb, rfl⟩
theorem kids3 {k n : Int} {ks : List Tm} (ha : arity k = 3) (h : validT (.mk k n ks) = true) : ∃ ka na sa kb nb sb kd nd sd, ks = [.mk ka na sa, .mk kb nb sb, .mk kd nd sd] := by
 have h2 := validT_len2 h
 obtain ⟨⟨ka, na, sa⟩, ⟨kb, nb, sb⟩, ⟨kd, nd, sd⟩, rfl⟩ := len3 (ks := ks) (by omega)
 exact ⟨ka, na, sa, kb, nb, sb, kd, nd, sd, rfl⟩
set_option maxRecDepth 100000 in
set_option maxHeartbeats 8000000 in
theorem sApp_any {N : Nat} (ih : InfC N) (ctx : List Tm) (C : Option Addr) (cc : Nat) (k n : Int) (A : Option Addr) (c : Nat) (ka na : Int) (sa : List Tm) (kb nb : Int) (sb : List Tm) (r : Rs Tm) (w : World) (hs : appR (infR N) ctx (.mk ka na sa) (.mk kb nb sb) = some r) (hva : validT (.mk ka na sa) = true) (hvb : validT (.mk kb nb sb) = true) (hvc : ∀ u, u ∈ ctx → validT u = true) (hm : ctx.length ≤ 20) (hrc : Rd w C 0 ctx) (hr : Rd w A 0 [.mk ka na sa, .mk kb nb sb]) :
  Calls Try.prog 73 #[.slice C ctx.length cc, .agg #[.int .i64 k, .int .i64 n, .slice A 2 c]] w (GtT w r) := by
 have hszb := validT_size' hvb
 obtain ⟨bk, ok, x1, x2, x3, Aa, ca, rfl, hk1, a1, a2, a3, hla, ra⟩ := hr.at_ (j := 0) (by simp)
 injection hk1 with e1 e2 e3
 subst e1 e2 e3
 obtain ⟨bb, ob, x1, x2, x3, Ab, cb, hAb, hk1, b1, b2, b3, hlb, rb⟩ := hr.at_ (j := 1) (by simp)
 injection hk1 with e1 e2 e3
 injection hAb with hA
 injection hA with hA1 hA2
 subst e1 e2 e3 hA1 hA2
 simp only [Nat.zero_mul, Nat.add_zero, Nat.one_mul, Nat.reduceMul] at a1 a2 a3 b1 b2 b3
 have lbp := World.block_lt_of_cell? _ _ a1
 rcases bd_inv hs with ⟨b, h1, rfl⟩ | ⟨⟨k3, n3, s3⟩, h1, hs⟩
 ·have hS1 := hide (fun (w : World) (hrc : Rd w C 0 ctx) (hra : Rd w Aa 0 sa) => sShape_any ih ctx C cc ka na sa Aa ca 3 _ w h1 hva hvc (by omega) hrc hra)
  have qb := cdB_q b
  clear hs h1 hva hvb hvc ih
  go_enter Try.func73, Try.ntmps73
  go_wp2_with (go_at_call 85; refine (hS1.out _ ((hrc.alloc _).alloc _) ((ra.alloc _).alloc _)).mono ?_; rintro e w1 ⟨k3, n3, A3, l3, c3, rfl, hb1⟩; have hZ1 : Blk w1 (w.heap.size + 1) #[.int .i64 0, .int .i64 0, .slice none 0 0] := (Blk.new_ _ 25 #[.int .i64 0, .int .i64 0, .slice none 0 0] (by simp)).keep hb1; have g1 : Below w.heap.size w w1 := (((Below.refl _ _).alloc (by simp <;> omega) _).alloc (by simp <;> omega) _).trans (hb1.mono (by simp <;> omega)); have g2 := g1.alloc g1.size (.cells #[.int .i64 k3, .int .i64 n3, .slice A3 l3 c3] 25); have hZ2 := hZ1.alloc (.cells #[.int .i64 k3, .int .i64 n3, .slice A3 l3 c3] 25); obtain ⟨d0, d1, d2⟩ := hZ2.three; have e0 := hZ2.frozen 0; have e1 := hZ2.frozen 1; have e2 := hZ2.frozen 2; have lz := hZ2.lt)
  refine bodyPost_ret (v := .tuple #[.agg #[.int .i64 0, .int .i64 0, .slice none 0 0], .int .i64 (cdB b)]) (by simp [results, Try.results73, go_sem, d0, d1, d2]) rfl ⟨0, 0, none, 0, 0, rfl, ?_⟩
  exact ((g2.setCell (by simp <;> omega) _).setCell (by simp <;> omega) _).setCell (by simp <;> omega) _
 ·obtain ⟨hk3, hv3⟩ := shpR_ok h1
  obtain rfl : k3 = 3 := hk3
  obtain ⟨kha, nha, sha, khb, nhb, shb, rfl⟩ := kids2 (k := 3) rfl hv3
  have hvha := validT_kidT (i := 0) hv3 (by simp)
  have hvhb := hide (show validT (.mk khb nhb shb) = true from validT_kidT (i := 1) hv3 (by simp))
  have hszha : sizes sha ≤ 400 := validT_size' (show validT (.mk kha nha sha) = true from hvha)
  have hS1 := hide (fun (w : World) (hrc : Rd w C 0 ctx) (hra : Rd w Aa 0 sa) => sShape_any ih ctx C cc ka na sa Aa ca 3 _ w h1 hva hvc (by omega) hrc hra)
  rcases bd_inv hs with ⟨b, h2, rfl⟩ | ⟨lj, h2, hs⟩
  ·replace h2 : chkR (infR N) ctx (.mk kb nb sb) (.mk kha nha sha) = _ := h2
   have hS2 := hide (fun (A2 : Option Addr) (c2 : Nat) (w : World) (hrc : Rd w C 0 ctx) (hrb : Rd w Ab 0 sb) (hr2 : Rd w A2 0 sha) => sCheck_any ih ctx C cc kb nb sb Ab cb kha nha sha A2 c2 _ w h2 hvb hvc (by omega) hrc hrb (by omega) hr2)
   have qb := cdB_q b
   clear hs h1 h2 hva hvb hvc ih hv3 hvha
   go_enter Try.func73, Try.ntmps73
   go_upto_region 4 with (go_at_call 85; refine (hS1.out _ ((hrc.alloc _).alloc _) ((ra.alloc _).alloc _)).mono ?_; rintro e w1 ⟨A3, c3, rfl, hl3, r3, hb1⟩; have hT1 : Blk w1 w.heap.size #[.int .i64 k, .int .i64 n, .slice (some ⟨bk, ok, none⟩) 2 c] := ((Blk.new_ w 25 #[.int .i64 k, .int .i64 n, .slice (some ⟨bk, ok, none⟩) 2 c] rfl).alloc _).keep hb1; have hZ1 : Blk w1 (w.heap.size + 1) #[.int .i64 0, .int .i64 0, .slice none 0 0] := (Blk.new_ _ 25 #[.int .i64 0, .int .i64 0, .slice none 0 0] (by simp)).keep hb1; have g1 : Below w.heap.size w w1 := (((Below.refl _ _).alloc (by simp <;> omega) _).alloc (by simp <;> omega) _).trans (hb1.mono (by simp <;> omega)))
   refine name_world ?_
   intro wx hwx
   have hTx : Blk wx w.heap.size #[.int .i64 k, .int .i64 n, .slice (some ⟨bk, ok, none⟩) 2 c] := by rw [hwx]; exact hT1.alloc _
   have hZx : Blk wx (w.heap.size + 1) #[.int .i64 0, .int .i64 0, .slice none 0 0] := by rw [hwx]; exact hZ1.alloc _
   have hKx0 : Blk wx w1.heap.size #[.int .i64 3, .int .i64 n3, .slice A3 2 c3] := by rw [hwx]; exact Blk.new_ _ 25 _ rfl
   have gx : Below w.heap.size w wx := by rw [hwx]; exact g1.alloc g1.size _
   have r3x : Rd wx A3 0 [.mk kha nha sha, .mk khb nhb shb] := by rw [hwx]; exact r3.alloc _
   clear hwx
   obtain ⟨bh, oh, x1, x2, x3, Aha, cha, rfl, hk1, ha1, ha2, ha3, hlha, rha⟩ := r3x.at_ (j := 0) (by simp)
   injection hk1 with e1 e2 e3
   subst e1 e2 e3
   obtain ⟨bb, ob, x1, x2, x3, Ahb, chb, hAb, hk1, hb1, hb2, hb3, hlhb, rhb⟩ := r3x.at_ (j := 1) (by simp)
   injection hk1 with e1 e2 e3
   injection hAb with hA
   injection hA with hA1 hA2
   subst e1 e2 e3 hA1 hA2
   simp only [Nat.zero_mul, Nat.add_zero, Nat.one_mul, Nat.reduceMul] at ha1 ha2 ha3 hb1 hb2 hb3
   have hKx : Blk wx w1.heap.size #[.int .i64 3, .int .i64 n3, .slice (some ⟨bh, oh, none⟩) 2 c3] := hKx0
   have v2 := rule_of hTx.three.2.2
   have q2 := rule_of hKx.three.2.2
   have ub1 := rule_of (Keeps.of_below gx _ _ b1)
   have ub2 := rule_of (Keeps.of_below gx _ _ b2)
   have ub3 := rule_of (Keeps.of_below gx _ _ b3)
   have uha1 := rule_of ha1
   have uha2 := rule_of ha2
   have uha3 := rule_of ha3
   obtain ⟨q0, hq0⟩ : ∃ q0, q0 = wx.drew := ⟨_, rfl⟩
   have bq0 : Below wx.heap.size wx q0 := by rw [hq0]; exact (Below.refl _ _).drew
   refine gC_start (fun w' => Below wx.heap.size wx w') [10] 11 (by kernel_rfl) rfl ?_
   refine gC_take [0, 1, 2, 3, 4, 5, 6, 7, 8] (f := 2) (l' := #[true, true, true, true, true, true, true, true, true, false, false]) (lT := [_, _, _, _, _, _, _, _, _]) (by rw [← hq0]; exact bq0) rfl (by kernel_rfl) (by kernel_rfl) (by kernel_rfl) rfl (fun _ _ d _ _ h => by cases d <;> exact h) ?_
   repeat ((first | ((refine takeY_skip (a' := ?_) ?_ ?_ ?_); (rotate_left); (· (simp [Region.wanted, yielded, Go.undef]; done))) | ((refine takeY_step (v := ?_) (a' := ?_) ?_ ?_ ?_ ?_); (rotate_left 2); (· (simp [Region.wanted, yielded, Go.undef]; done)); (· (intro w' hS'; go_simp; try (with_reducible rfl))))); (· (simp only [List.getElem_toArray, List.getElem_cons_zero, List.getElem_cons_succ, Act.put, List.setIfInBounds_toArray, List.set_cons_zero, List.set_cons_succ]; exact rfl)))
   refine takeY_nil ?_
   rw [← hq0]
   clear hq0
   refine gC_one (i := 9) (by kernel_rfl) rfl ?_
   ·go_wp2_with (go_at_call 86; refine (hS2.out _ _ _ ((hrc.below gx).below bq0) ((rb.below gx).below bq0) (rha.below bq0)).mono ?_; rintro e q1 ⟨he, hbq1⟩; obtain rfl : e = .returned (.int .i64 (cdB b)) := he)
    have bq1 : Below wx.heap.size wx q1 := bq0.trans (hbq1.mono bq0.size)
    have lq1 := hbq1.size
    refine mid_intro bq1 ?_
    refine gC_end [10] (lB := [_]) (by simp) (by kernel_rfl) (by kernel_rfl) rfl ?_
    simp only [List.getElem_toArray, List.getElem_cons_zero, List.getElem_cons_succ, Act.put, List.setIfInBounds_toArray, List.set_cons_zero, List.set_cons_succ]
    have hT3 := hTx.keep bq1
    have hZ3 := hZx.keep bq1
    have hK3 := hKx.keep bq1
    have g3 := gx.trans (bq1.mono gx.size)
    obtain ⟨d0, d1, d2⟩ := hZ3.three
    have e0 := hZ3.frozen 0
    have e1 := hZ3.frozen 1
    have e2 := hZ3.frozen 2
    have lz := hZ3.lt
    go_wp2_with fail
    refine bodyPost_ret (v := .tuple #[.agg #[.int .i64 0, .int .i64 0, .slice none 0 0], .int .i64 (cdB b)]) (by simp [results, Try.results73, go_sem, d0, d1, d2]) rfl ⟨0, 0, none, 0, 0, rfl, ?_⟩
    exact ((g3.setCell (by simp <;> omega) _).setCell (by simp <;> omega) _).setCell (by simp <;> omega) _
  ·replace h2 : chkR (infR N) ctx (.mk kb nb sb) (.mk kha nha sha) = _ := h2
   have hS2 := hide (fun (A2 : Option Addr) (c2 : Nat) (w : World) (hrc : Rd w C 0 ctx) (hrb : Rd w Ab 0 sb) (hr2 : Rd w A2 0 sha) => sCheck_any ih ctx C cc kb nb sb Ab cb kha nha sha A2 c2 _ w h2 hvb hvc (by omega) hrc hrb (by omega) hr2)
   injection hs with hs
   subst hs
   obtain ⟨k5, n5, s5, h5⟩ := tm_eta (sbS (.mk kb nb sb) 0 0 (kidT (Tm.mk 3 n3 [.mk kha nha sha, .mk khb nhb shb]).ks 1))
   rw [h5]
   have hS3 := hide (fun (A2 : Option Addr) (c2 : Nat) (w : World) (hr2 : Rd w A2 0 shb) (hrb : Rd w Ab 0 sb) => sSubT_any khb nhb shb A2 c2 kb nb sb Ab cb w hvhb.out (validT_shape30 hvb) (by omega) hr2 hrb k5 n5 s5 h5)
   clear h1 h2 hva hvb hvc ih hv3 hvha h5
   go_enter Try.func73, Try.ntmps73
   go_upto_region 4 with (go_at_call 85; refine (hS1.out _ ((hrc.alloc _).alloc _) ((ra.alloc _).alloc _)).mono ?_; rintro e w1 ⟨A3, c3, rfl, hl3, r3, hb1⟩; have hT1 : Blk w1 w.heap.size #[.int .i64 k, .int .i64 n, .slice (some ⟨bk, ok, none⟩) 2 c] := ((Blk.new_ w 25 #[.int .i64 k, .int .i64 n, .slice (some ⟨bk, ok, none⟩) 2 c] rfl).alloc _).keep hb1; have hZ1 : Blk w1 (w.heap.size + 1) #[.int .i64 0, .int .i64 0, .slice none 0 0] := (Blk.new_ _ 25 #[.int .i64 0, .int .i64 0, .slice none 0 0] (by simp)).keep hb1; have g1 : Below w.heap.size w w1 := (((Below.refl _ _).alloc (by simp <;> omega) _).alloc (by simp <;> omega) _).trans (hb1.mono (by simp <;> omega)))
   refine name_world ?_
   intro wx hwx
   have hTx : Blk wx w.heap.size #[.int .i64 k, .int .i64 n, .slice (some ⟨bk, ok, none⟩) 2 c] := by rw [hwx]; exact hT1.alloc _
   have hZx : Blk wx (w.heap.size + 1) #[.int .i64 0, .int .i64 0, .slice none 0 0] := by rw [hwx]; exact hZ1.alloc _
   have hKx0 : Blk wx w1.heap.size #[.int .i64 3, .int .i64 n3, .slice A3 2 c3] := by rw [hwx]; exact Blk.new_ _ 25 _ rfl
   have gx : Below w.heap.size w wx := by rw [hwx]; exact g1.alloc g1.size _
   have r3x : Rd wx A3 0 [.mk kha nha sha, .mk khb nhb shb] := by rw [hwx]; exact r3.alloc _
   clear hwx
   obtain ⟨bh, oh, x1, x2, x3, Aha, cha, rfl, hk1, ha1, ha2, ha3, hlha, rha⟩ := r3x.at_ (j := 0) (by simp)
   injection hk1 with e1 e2 e3
   subst e1 e2 e3
   obtain ⟨bb, ob, x1, x2, x3, Ahb, chb, hAb, hk1, hb1, hb2, hb3, hlhb, rhb⟩ := r3x.at_ (j := 1) (by simp)
   injection hk1 with e1 e2 e3
   injection hAb with hA
   injection hA with hA1 hA2
   subst e1 e2 e3 hA1 hA2
   simp only [Nat.zero_mul, Nat.add_zero, Nat.one_mul, Nat.reduceMul] at ha1 ha2 ha3 hb1 hb2 hb3
   have hKx : Blk wx w1.heap.size #[.int .i64 3, .int .i64 n3, .slice (some ⟨bh, oh, none⟩) 2 c3] := hKx0
   have v2 := rule_of hTx.three.2.2
   have q2 := rule_of hKx.three.2.2
   have ub1 := rule_of (Keeps.of_below gx _ _ b1)
   have ub2 := rule_of (Keeps.of_below gx _ _ b2)
   have ub3 := rule_of (Keeps.of_below gx _ _ b3)
   have uha1 := rule_of ha1
   have uha2 := rule_of ha2
   have uha3 := rule_of ha3
   obtain ⟨q0, hq0⟩ : ∃ q0, q0 = wx.drew := ⟨_, rfl⟩
   have bq0 : Below wx.heap.size wx q0 := by rw [hq0]; exact (Below.refl _ _).drew
   refine gC_start (fun w' => Below wx.heap.size wx w') [10] 11 (by kernel_rfl) rfl ?_
   refine gC_take [0, 1, 2, 3, 4, 5, 6, 7, 8] (f := 2) (l' := #[true, true, true, true, true, true, true, true, true, false, false]) (lT := [_, _, _, _, _, _, _, _, _]) (by rw [← hq0]; exact bq0) rfl (by kernel_rfl) (by kernel_rfl) (by kernel_rfl) rfl (fun _ _ d _ _ h => by cases d <;> exact h) ?_
   repeat ((first | ((refine takeY_skip (a' := ?_) ?_ ?_ ?_); (rotate_left); (· (simp [Region.wanted, yielded, Go.undef]; done))) | ((refine takeY_step (v := ?_) (a' := ?_) ?_ ?_ ?_ ?_); (rotate_left 2); (· (simp [Region.wanted, yielded, Go.undef]; done)); (· (intro w' hS'; go_simp; try (with_reducible rfl))))); (· (simp only [List.getElem_toArray, List.getElem_cons_zero, List.getElem_cons_succ, Act.put, List.setIfInBounds_toArray, List.set_cons_zero, List.set_cons_succ]; exact rfl)))
   refine takeY_nil ?_
   rw [← hq0]
   clear hq0
   refine gC_one (i := 9) (by kernel_rfl) rfl ?_
   ·go_wp2_with (go_at_call 86; refine (hS2.out _ _ _ ((hrc.below gx).below bq0) ((rb.below gx).below bq0) (rha.below bq0)).mono ?_; rintro e q1 ⟨he, hbq1⟩; obtain rfl : e = .returned (.int .i64 0) := he)
    have bq1 : Below wx.heap.size wx q1 := bq0.trans (hbq1.mono bq0.size)
    have lq1 := hbq1.size
    refine mid_intro bq1 ?_
    refine gC_end [10] (lB := [_]) (by simp) (by kernel_rfl) (by kernel_rfl) rfl ?_
    simp only [List.getElem_toArray, List.getElem_cons_zero, List.getElem_cons_succ, Act.put, List.setIfInBounds_toArray, List.set_cons_zero, List.set_cons_succ]
    have hT3 := hTx.keep bq1
    have hZ3 := hZx.keep bq1
    have hK3 := hKx.keep bq1
    have g3 := gx.trans (bq1.mono gx.size)
    go_upto_region 7 with fail
    refine name_world ?_
    intro wu hwu
    have hTu : Blk wu w.heap.size #[.int .i64 k, .int .i64 n, .slice (some ⟨bk, ok, none⟩) 2 c] := by rw [hwu]; exact hT3
    have hZu : Blk wu (w.heap.size + 1) #[.int .i64 0, .int .i64 0, .slice none 0 0] := by rw [hwu]; exact hZ3
    have hKu : Blk wu w1.heap.size #[.int .i64 3, .int .i64 n3, .slice (some ⟨bh, oh, none⟩) 2 c3] := by rw [hwu]; exact hK3
    have gu : Below w.heap.size w wu := by rw [hwu]; exact g3
    have hxu : Below wx.heap.size wx wu := by rw [hwu]; exact bq1
    clear hwu
    have rbu := rb.below gu
    have rhbu := rhb.below hxu
    have lzu := hZu.lt
    clear v2 q2 ub1 ub2 ub3 uha1 uha2 uha3
    have v2 := rule_of hTu.three.2.2
    have q2 := rule_of hKu.three.2.2
    have ub1 := rule_of (Keeps.of_below gu _ _ b1)
    have ub2 := rule_of (Keeps.of_below gu _ _ b2)
    have ub3 := rule_of (Keeps.of_below gu _ _ b3)
    have uhb1 := rule_of (Keeps.of_below hxu _ _ hb1)
    have uhb2 := rule_of (Keeps.of_below hxu _ _ hb2)
    have uhb3 := rule_of (Keeps.of_below hxu _ _ hb3)
    obtain ⟨q0, hq0⟩ : ∃ q0, q0 = wu.drew := ⟨_, rfl⟩
    have bq0 : Below wu.heap.size wu q0 := by rw [hq0]; exact (Below.refl _ _).drew
    refine gC_start (fun w' => Below wu.heap.size wu w') [9, 10] 11 (by kernel_rfl) rfl ?_
    refine gC_take [0, 1, 2, 3, 4, 5, 6, 7] (f := 3) (l' := #[true, true, true, true, true, true, true, true, false, false, false]) (lT := [_, _, _, _, _, _, _, _]) (by rw [← hq0]; exact bq0) rfl (by kernel_rfl) (by kernel_rfl) (by kernel_rfl) rfl (fun _ _ d _ _ h => by cases d <;> exact h) ?_
    repeat ((first | ((refine takeY_skip (a' := ?_) ?_ ?_ ?_); (rotate_left); (· (simp [Region.wanted, yielded, Go.undef]; done))) | ((refine takeY_step (v := ?_) (a' := ?_) ?_ ?_ ?_ ?_); (rotate_left 2); (· (simp [Region.wanted, yielded, Go.undef]; done)); (· (intro w' hS'; go_simp; try (with_reducible rfl))))); (· (simp only [List.getElem_toArray, List.getElem_cons_zero, List.getElem_cons_succ, Act.put, List.setIfInBounds_toArray, List.set_cons_zero, List.set_cons_succ]; exact rfl)))
    refine takeY_nil ?_
    rw [← hq0]
    clear hq0
    refine gC_one (i := 8) (by kernel_rfl) rfl ?_
    ·go_wp2_with (go_at_call 87; refine (hS3.out _ _ _ (rhbu.below bq0) (rbu.below bq0)).mono ?_; rintro e q1 ⟨A5, c5, rfl, hl5, hf5, hbq1⟩)
     have bq1 : Below wu.heap.size wu q1 := bq0.trans (hbq1.mono bq0.size)
     have lq1 := hbq1.size
     refine mid_intro bq1 ?_
     refine gC_end [9, 10] (lB := [_, _]) (by simp) (by kernel_rfl) (by kernel_rfl) rfl ?_
     simp only [List.getElem_toArray, List.getElem_cons_zero, List.getElem_cons_succ, Act.put, List.setIfInBounds_toArray, List.set_cons_zero, List.set_cons_succ]
     have hZ5 := hZu.keep bq1
     obtain ⟨d0, d1, d2⟩ := hZ5.three
     have e0 := hZ5.frozen 0
     have e1 := hZ5.frozen 1
     have e2 := hZ5.frozen 2
     have lz := hZ5.lt
     have g5 := gu.trans (bq1.mono gu.size)
     have bq0s := bq0.size
     go_wp2_with fail
     refine bodyPost_ret (v := .tuple #[.agg #[.int .i64 k5, .int .i64 n5, .slice A5 s5.length c5], .int .i64 0]) (by simp [results, Try.results73, go_sem, d0, d1, d2]) rfl ⟨A5, c5, rfl, hl5, ?_, ?_⟩
     ·exact (((hf5.setCell (by simp; omega) _).setCell (by simp; omega) _).setCell (by simp; omega) _).rd
     ·exact ((g5.setCell (by simp <;> omega) _).setCell (by simp <;> omega) _).setCell (by simp <;> omega) _
end Go.Proofs.Ytddkehjdjfmhmaa
