/-
 Contracts of the functions that the law reaches, and plain lemmas. No condition.
-/
import Derived.Test.YtddkehjdjfmhmaaK14
import Derived.Test.YtddkehjdjfmhmaaK15
import Derived.Test.YtddkehjdjfmhmaaK18
import Derived.Test.YtddkehjdjfmhmaaK34
import Derived.Test.YtddkehjdjfmhmaaK35
import Derived.Deep.RegionHeld3
import Derived.Deep.DeepCutAuto
namespace Go.Proofs.Ytddkehjdjfmhmaa
set_option linter.unusedSimpArgs false
set_option linter.unusedVariables false
open Go.RowKit
def IsPair (ts us : List Tm) : Prop := (ts = [] ∧ us = prs0) ∨ (ts = ctx1 ∧ us = prs1) ∨ (ts = ctx2 ∧ us = prs2) ∨ (ts = ctx3 ∧ us = prs3)
def Paired (w : World) (e : Ending) (w' : World) : Prop :=
 ∃ (ts : List Tm) (xs : List (List UInt8)) (us : List Tm) (ys : List (List UInt8)) (g g' : Nat), e = .returned (.tuple #[.slice (some ⟨g, 0, none⟩) ts.length ts.length, .slice (some ⟨g', 0, none⟩) us.length us.length]) ∧
  xs.length = ts.length ∧ ys.length = us.length ∧ GoodL ts xs ∧ GoodL us ys ∧ Blk w' g (strs xs) ∧ Blk w' g' (strs ys) ∧ ts.length ≤ 56 ∧ us.length ≤ 56 ∧ 0 < us.length ∧ IsPair ts us ∧ Below w.heap.size w w'
set_option maxHeartbeats 2000000 in
set_option maxRecDepth 100000 in
theorem pairs_any (m : Nat) (hm : m < 4) (w : World) : Calls Try.prog 31 #[.int .i64 m] w (Paired w) := by
 have hB : ∀ o o' : Obj, Below w.heap.size w ((w.alloc o).alloc o') := fun o o' => ((Below.refl _ _).alloc (Nat.le_refl _) _).alloc (by simp) _
 have : m = 0 ∨ m = 1 ∨ m = 2 ∨ m = 3 := by omega
 rcases this with rfl | rfl | rfl | rfl
 ·go_enter Try.func31, Try.ntmps31
  go_wp2_with fail
  go_ret2
  exact ⟨[], [], prs0, prs0X, w.heap.size, w.heap.size + 1, rfl, rfl, rfl, trivial, prs0_good, (Blk.new_ _ _ (strs []) rfl).alloc _, Blk.new_ _ _ (strs prs0X) (by simp), by decide, by decide, by decide, .inl ⟨rfl, rfl⟩, hB _ _⟩
 ·go_enter Try.func31, Try.ntmps31
  go_wp2_with fail
  go_ret2
  exact ⟨ctx1, ctx1X, prs1, prs1X, w.heap.size, w.heap.size + 1, rfl, rfl, rfl, ctx1_good, prs1_good, (Blk.new_ _ _ (strs ctx1X) rfl).alloc _, Blk.new_ _ _ (strs prs1X) (by simp), by decide, by decide, by decide, .inr (.inl ⟨rfl, rfl⟩), hB _ _⟩
 ·go_enter Try.func31, Try.ntmps31
  go_wp2_with fail
  go_ret2
  exact ⟨ctx2, ctx2X, prs2, prs2X, w.heap.size, w.heap.size + 1, rfl, rfl, rfl, ctx2_good, prs2_good, (Blk.new_ _ _ (strs ctx2X) rfl).alloc _, Blk.new_ _ _ (strs prs2X) (by simp), by decide, by decide, by decide, .inr (.inr (.inl ⟨rfl, rfl⟩)), hB _ _⟩
 ·go_enter Try.func31, Try.ntmps31
  go_wp2_with fail
  go_ret2
  exact ⟨ctx3, ctx3X, prs3, prs3X, w.heap.size, w.heap.size + 1, rfl, rfl, rfl, ctx3_good, prs3_good, (Blk.new_ _ _ (strs ctx3X) rfl).alloc _, Blk.new_ _ _ (strs prs3X) (by simp), by decide, by decide, by decide, .inr (.inr (.inr ⟨rfl, rfl⟩)), hB _ _⟩
open Go.RowKit
theorem part_cap {B : Nat} {w : World} {A : Option Addr} {n c : Nat} {ts : List Tm} (h : Part B w (.slice A n c) ts) : ts.length ≤ c := by
 obtain ⟨xs, f, h1, _⟩ := h
 rcases h1.2 with ⟨e, h0⟩ | ⟨g, cap, cur, e, hb, hg, hn, _⟩
 ·omega
 ·injection e with e1 e2 e3; omega
def GotLC (w : World) (ts : List Tm) (e : Ending) (w' : World) : Prop :=
 ∃ A c, e = .returned (.slice A ts.length c) ∧ ts.length ≤ c ∧ Fresh w.heap.size w' A ts ∧ Below w.heap.size w w'
set_option maxHeartbeats 4000000 in
set_option maxRecDepth 100000 in
theorem read_anyC (ts : List Tm) (xs : List (List UInt8)) (hl : xs.length = ts.length) (hl4 : ts.length ≤ 1000) (hg : ∀ (j : Nat) (t : Tm) (x : List UInt8), ts[j]? = some t → xs[j]? = some x → Good t x) (g : Nat) (w : World) (hB : Blk w g (strs xs)) :
  Calls Try.prog 32 #[.slice (some ⟨g, 0, none⟩) ts.length ts.length] w (GotLC w ts) := by
 have hl' := hide hl
 have hg' := hide hg
 have hgl := hB.lt
 clear hl hg
 go_enter Try.func32, Try.ntmps32
 go_wp2_with fail
 go_loopw [3, 4] (fun v jv wr => ∃ j : Nat, j ≤ ts.length ∧ jv = .int .i64 j ∧ Part w.heap.size wr v (ts.take j) ∧ Below w.heap.size w wr) (fun _ jv _ => ts.length - (intOf jv).toNat)
 case atStart => exact ⟨0, Nat.zero_le _, rfl, Part.empty_ rfl (Nat.le_refl _), (Below.refl _ _).alloc (Nat.le_refl _) _⟩
 case round =>
  obtain ⟨j, hjl, rfl, hp, hb⟩ := hrel
  by_cases hlt : j < ts.length
  ·have hlx : j < xs.length := by have := hl'.out; omega
   obtain ⟨k1, n1, ks1, hk1⟩ : ∃ k n ks, ts[j] = .mk k n ks := by cases h : ts[j]; exact ⟨_, _, _, rfl⟩
   obtain ⟨x, hx⟩ : ∃ x, xs[j] = x := ⟨_, rfl⟩
   have hc := (hB.below hb hgl).at_ (strs_get hlx)
   rw [hx] at hc
   have hgood := hide (fun w => parseTerm_any (hg'.out j (.mk k1 n1 ks1) x (by rw [List.getElem?_eq_getElem hlt, hk1]) (by rw [List.getElem?_eq_getElem hlx, hx])) w)
   have hk1' := hide hk1
   clear hk1 hx hlx
   go_wp2_with (first
    | (at_builtin; refine wpList_append_built (B := w.heap.size) (m := j) (k := k1) (n := n1) (c := c1) hp (hb1.alloc hb1.size _) (by have := hb.size; omega) (hf1.alloc _) hl1 (by rw [List.length_take]; omega) (by omega) rfl _ _ rfl rfl (by show Value.slice (some ⟨w1.heap.size + 1, 0, none⟩) 1 1 = _; simp) ?_; intro A2 c2 w2 hp2 hb2 hg2)
    | (go_at_call 48; refine (hgood.out _).mono ?_; rintro e w1 ⟨A1, c1, rfl, hl1, hf1, hb1⟩))
   go_roundw
   case rel => exact ⟨j + 1, by omega, by go_num, by rw [List.take_succ_eq_append_getElem hlt, hk1'.out]; exact hp2, (hb.trans (hb1.mono hb.size)).trans (((Below.refl _ _).alloc (by have := hb.size; have := hb1.size; omega) _).trans hb2)⟩
   case measure => simp [intOf]; omega
  ·have hje : j = ts.length := by omega
   subst hje
   rw [List.take_length] at hp
   obtain ⟨Ar, cr, rfl, hfr⟩ := hp.fresh
   have hcp := part_cap hp
   go_wp2_with fail
   go_ret
   exact ⟨Ar, cr, rfl, hcp, hfr, hb⟩
open Go.RowKit
def NatOk : Prop := ∀ (B r p m d : Nat) (w : World), m ≤ 3 → d ≤ 4 → p ≤ 800000000 → B ≤ w.heap.size → Rdr B w r p → Calls Try.prog 29 #[.pointer (some ⟨r, 0, none⟩), .int .i64 m, .int .i64 d] w fun e w' =>
 ∃ (k n : Int) (ks : List Tm) (A : Option Addr) (c p' : Nat), e = .returned (.agg #[.int .i64 k, .int .i64 n, .slice A ks.length c]) ∧ ks.length ≤ 9223372036854775807 ∧ sizes ks ≤ 100000 ∧ p' ≤ p + 100000 ∧ RdP (fun b => w.heap.size ≤ b) w' A 0 ks ∧ Rdr B w' r p' ∧ w.grownBy w' (some r) ∧ IsN m (.mk k n ks)
def IsDrawn (cx : List Tm) (t : Tm) : Prop := (∃ m, m ≤ 2 ∧ cx = List.replicate m (.mk 6 0 []) ∧ IsN m t) ∨ ∃ us, IsPair cx us ∧ t ∈ us
def DrawnCX (B : Nat) (w : World) (r p q : Nat) (e : Ending) (w' : World) : Prop :=
 ∃ (cx : List Tm) (D : Option Addr) (dc : Nat) (k n : Int) (ks : List Tm) (A : Option Addr) (c p' : Nat), e = .returned (.tuple #[.slice D cx.length dc, .agg #[.int .i64 k, .int .i64 n, .slice A ks.length c]]) ∧ cx.length ≤ dc ∧ RdP (fun b => w.heap.size ≤ b) w' D 0 cx ∧ IsDrawn cx (.mk k n ks) ∧ ks.length ≤ 9223372036854775807 ∧ validT (.mk k n ks) = true ∧ p' ≤ p + q ∧ RdP (fun b => w.heap.size ≤ b) w' A 0 ks ∧ Rdr B w' r p' ∧ w.grownBy w' (some r)
theorem num_ctx {x : Int} (h : x ∈ ([0, 1, 2, 0] : List Int)) : ∃ d : Nat, x = d ∧ d ≤ 2 := by
 simp only [List.mem_cons, List.not_mem_nil, or_false] at h
 rcases h with rfl | rfl | rfl | rfl
 ·exact ⟨0, rfl, by omega⟩
 ·exact ⟨1, rfl, by omega⟩
 ·exact ⟨2, rfl, by omega⟩
 ·exact ⟨0, rfl, by omega⟩
theorem num_dep {x : Int} (h : x ∈ ([3, 2, 4, 1] : List Int)) : ∃ d : Nat, x = d ∧ d ≤ 4 := by
 simp only [List.mem_cons, List.not_mem_nil, or_false] at h
 rcases h with rfl | rfl | rfl | rfl
 ·exact ⟨3, rfl, by omega⟩
 ·exact ⟨2, rfl, by omega⟩
 ·exact ⟨4, rfl, by omega⟩
 ·exact ⟨1, rfl, by omega⟩
theorem elems {q : Nat → Prop} {w : World} {A : Option Addr} {us : List Tm} (h : RdP q w A 0 us) (h0 : 0 < us.length) : ∃ b off, ∃ (kf nf : Nat → Int) (af : Nat → Option Addr) (lf cf : Nat → Nat), A = some ⟨b, off, none⟩ ∧ ∀ i, (hi : i < us.length) → q b ∧ w.cell? ⟨b, off + i * 3, none⟩ = some (.int .i64 (kf i)) ∧ w.cell? ⟨b, off + i * 3 + 1, none⟩ = some (.int .i64 (nf i)) ∧ w.cell? ⟨b, off + i * 3 + 2, none⟩ = some (.slice (af i) (lf i) (cf i)) ∧
  ∃ ks, us[i] = .mk (kf i) (nf i) ks ∧ lf i = ks.length ∧ ks.length ≤ 9223372036854775807 ∧ RdP q w (af i) 0 ks := by
 obtain ⟨b, off, hA, _⟩ := h.get h0
 have key : ∀ i, ∃ (k n : Int) (a : Option Addr) (l c : Nat), (hi : i < us.length) → q b ∧ w.cell? ⟨b, off + i * 3, none⟩ = some (.int .i64 k) ∧ w.cell? ⟨b, off + i * 3 + 1, none⟩ = some (.int .i64 n) ∧ w.cell? ⟨b, off + i * 3 + 2, none⟩ = some (.slice a l c) ∧
   ∃ ks, us[i] = .mk k n ks ∧ l = ks.length ∧ ks.length ≤ 9223372036854775807 ∧ RdP q w a 0 ks := by
  intro i
  by_cases hi : i < us.length
  ·obtain ⟨b', off', hA', hc⟩ := h.get hi
   rw [hA] at hA'
   injection hA' with hA'
   injection hA' with e1 e2
   subst e1 e2
   rw [Nat.zero_add] at hc
   obtain ⟨k, n, ks, hk⟩ := tm_eta us[i]
   rw [hk] at hc
   obtain ⟨h0, h1, h2, A', c', h3, h4, h5⟩ := RdPC.iff.1 hc
   exact ⟨k, n, A', ks.length, c', fun _ => ⟨h0, h1, h2, h3, ks, hk, rfl, h4, h5⟩⟩
  ·exact ⟨0, 0, none, 0, 0, fun hi' => absurd hi' hi⟩
 obtain ⟨kf, h1⟩ := Classical.axiomOfChoice key
 obtain ⟨nf, h2⟩ := Classical.axiomOfChoice h1
 obtain ⟨af, h3⟩ := Classical.axiomOfChoice h2
 obtain ⟨lf, h4⟩ := Classical.axiomOfChoice h3
 obtain ⟨cf, h5⟩ := Classical.axiomOfChoice h4
 exact ⟨b, off, kf, nf, af, lf, cf, hA, fun i hi => h5 i hi⟩
theorem grown_cell {w w' : World} {r b o : Nat} {v : Value} (h : w.grownBy w' (some r)) (hc : w.cell? ⟨b, o, none⟩ = some v) (hb : b ≠ r) : w'.cell? ⟨b, o, none⟩ = some v := by
 have hl := World.block_lt_of_cell? _ _ hc
 have := h.block b hl (fun e => hb (by injection e))
 rw [← hc]
 simp only [World.cell?, this]
theorem far3 {w : World} {b o g : Nat} {v x y z : Value} (h : w.cell? ⟨b, o, none⟩ = some v) (hb : b ≠ g) : (((w.setCell ⟨g, 0, none⟩ x).setCell ⟨g, 1, none⟩ y).setCell ⟨g, 2, none⟩ z).cell? ⟨b, o, none⟩ = some v := by
 have e : (((w.setCell ⟨g, 0, none⟩ x).setCell ⟨g, 1, none⟩ y).setCell ⟨g, 2, none⟩ z).heap[b]? = w.heap[b]? :=
  (Below.heap_setCell _ ⟨g, 2, none⟩ _ b hb).trans ((Below.heap_setCell _ ⟨g, 1, none⟩ _ b hb).trans (Below.heap_setCell _ ⟨g, 0, none⟩ _ b hb))
 rw [← h]
 simp only [World.cell?, e]
set_option maxHeartbeats 8000000 in
set_option maxRecDepth 100000 in
theorem l5draw_any (hN : NatOk) (B r p : Nat) (w : World) (hp : p ≤ 700000000) (hB : B ≤ w.heap.size) (hr : Rdr B w r p) : Calls Try.prog 10 #[.pointer (some ⟨r, 0, none⟩)] w (DrawnCX B w r p 200000) := by
 have hrl := hr.lt
 go_enter Try.func10, Try.ntmps10
 go_wp2_with fail
 refine (pick_any B r p 2 _ (by omega) (by omega) (by simp; omega) (hr.alloc (by omega) _)).mono ?_
 rintro e w1 ⟨m, rfl, hm, hm0, hr1, hg1⟩
 clear hm hm0
 have hZ1 := (Blk.new_ w 25 #[.int .i64 0, .int .i64 0, .slice none 0 0] rfl).grown hg1 (by simp; omega)
 have g1 : w.grownBy w1 (some r) := grown_trans (only_alloc (World.grownBy.refl _ _) _) hg1
 have s1 := hZ1.lt
 by_cases h0 : m = 0
 ·subst h0
  go_wp2_with (go_at_call 27; refine (num_any [0, 1, 2, 0] B r (p + 1) w1.heap.size _ (by decide) (by decide) (by omega) (by simp; omega) (hr1.alloc (by omega) _) (Blk.new_ _ 3 _ (by simp)) (by omega)).mono ?_; rintro e w2 ⟨x, hx, rfl, hr2, hg2⟩; obtain ⟨nn, rfl, hnn⟩ := num_ctx hx; have g2 := grown_trans (only_alloc g1 _) hg2; have hZ2 := (hZ1.alloc _).grown hg2 (by simp; omega); have s2 : w1.heap.size + 1 ≤ w2.heap.size := (by have := hg2.size; simpa using this))
  go_loopw [5, 6] (fun v jv wr => ∃ (j : Nat) (ts : List Tm), j ≤ nn ∧ ts.length = j ∧ Hid (ts = List.replicate j (.mk 6 0 [])) ∧ jv = .int .i64 j ∧ Part w2.heap.size wr v ts ∧ Below w2.heap.size w2 wr) (fun _ jv _ => nn - (intOf jv).toNat)
  case atStart => exact ⟨0, [], Nat.zero_le _, rfl, hide rfl, rfl, Part.empty_ rfl (Nat.le_refl _), (Below.refl _ _).alloc (Nat.le_refl _) _⟩
  case round =>
   obtain ⟨j, ts, hj, htl, htr, rfl, hq, hbr⟩ := hrel
   have htl' := hide htl
   clear htl
   have sr := hbr.size
   by_cases hlt : j < nn
   ·go_wp2_with (first
     | (at_builtin; refine wpList_append_built (B := w2.heap.size) (w0 := wr) (m := j) (k := 6) (n := 0) (c := 0) (A := none) (ks := []) hq hb3 sr Fresh.nil (by simp) htl'.out (by omega) rfl _ _ rfl rfl (by show Value.slice (some ⟨w3.heap.size, 0, none⟩) 1 1 = _; simp) ?_; intro A2 c2 w5 hp2 hb2 hg2')
     | (go_at_call 28; refine (sLeaf_any _ _ _).mono ?_; rintro e w3 ⟨rfl, hb3⟩))
    go_roundw
    case rel => exact ⟨j + 1, ts ++ [.mk 6 0 []], by omega, by have := htl'.out; simp; omega, hide (by rw [htr.out, List.replicate_succ']), by go_num, hp2, (hbr.trans (hb3.mono sr)).trans hb2⟩
    case measure => simp [intOf]; omega
   ·have hrr := hr2.below hbr (by omega)
    have gr := only_belowB g2 hbr (by omega)
    have hZr := hZ2.keep hbr
    obtain ⟨Av, cv, rfl, hfv⟩ := hq.fresh
    have hcv := part_cap hq
    have hRr : RdP (fun b => w2.heap.size ≤ b) wr Av 0 ts := hfv.rdp.mono (fun b hb => hb.1)
    have hje : j = nn := by omega
    subst hje
    go_wp2_with (first
     | (go_at_call 29; have _t := tok; refine (hN B r _ j dd _ (by omega) hdd (by omega) (by omega) hr3).mono ?_; rintro e w4 ⟨k4, n4, ks4, A4, c4, p4, rfl, hl4, hs4, hp4, hk4, hr4, hg4, hi4⟩; have hR4 := (hR3.grown hg4 (fun b hb e => by injection e with e; omega)).alloc (.cells #[.int .i64 k4, .int .i64 n4, .slice A4 ks4.length c4] 25); have g4 := only_alloc (grown_trans g3 hg4) (.cells #[.int .i64 k4, .int .i64 n4, .slice A4 ks4.length c4] 25); have hZ4 := (hZ3.grown hg4 (by simp; omega)).alloc (.cells #[.int .i64 k4, .int .i64 n4, .slice A4 ks4.length c4] 25); have hX := Blk.new_ w4 25 #[.int .i64 k4, .int .i64 n4, .slice A4 ks4.length c4] rfl; have s4 := hg4.size; have hr5 := hr4.alloc (by omega) (.cells #[.int .i64 k4, .int .i64 n4, .slice A4 ks4.length c4] 25); have hk5 := hk4.alloc (.cells #[.int .i64 k4, .int .i64 n4, .slice A4 ks4.length c4] 25); obtain ⟨x0, x1, x2⟩ := hX.three)
     | (go_at_call 27; refine (num_any [3, 2, 4, 1] B r (p + 1 + 1) wr.heap.size _ (by decide) (by decide) (by omega) (by simp; omega) (hrr.alloc (by omega) _) (Blk.new_ _ 3 _ (by simp)) (by omega)).mono ?_; rintro e w3 ⟨x3, hx3, rfl, hr3, hg3⟩; have hR3 := (hRr.alloc (.cells #[.int .i64 3, .int .i64 2, .int .i64 4, .int .i64 1] 3)).grown hg3 (fun b hb e => by injection e with e; omega); obtain ⟨dd, rfl, hdd⟩ := num_dep hx3; have g3 := grown_trans (only_alloc gr _) hg3; have hZ3 := (hZr.alloc _).grown hg3 (by simp; omega); have s3 : wr.heap.size + 1 ≤ w3.heap.size := (by have := hg3.size; simpa using this); have tok := trivial))
    obtain ⟨vv, hvv0⟩ : ∃ vv, validT (.mk k4 n4 ks4) = vv := ⟨_, rfl⟩
    refine (sTermValid_any k4 n4 ks4 A4 c4 _ (by omega) hk5.rd).mono ?_
    rw [hvv0]
    rintro e wz ⟨rfl, hbz⟩
    have hvv := hide hvv0
    clear hvv0
    have hZz := hZ4.keep hbz
    have hrz := hr5.below hbz (by simp; omega)
    have gz := only_below g4 hbz
    have sz : w4.heap.size + 1 ≤ wz.heap.size := by have := hbz.size; simpa using this
    have hkz := hk5.below hbz
    have hRz := hR4.below hbz
    replace hX := hX.keep hbz
    clear x0 x1 x2
    obtain ⟨x0, x1, x2⟩ := hX.three
    cases vv with
    | false =>
     obtain ⟨pz, hpz⟩ : ∃ pz, pz = p4 := ⟨_, rfl⟩
     rw [← hpz] at hrz
     go_wp2_with fail
     refine (pick_any B r pz 4 _ (by omega) (by omega) (by omega) hrz).mono ?_
     rintro e wa ⟨ma, rfl, hma, hma0, hra, hga⟩
     have hma' : ma < 4 := by have := hma (by omega); omega
     clear hma hma0
     have hZa := hZz.grown hga (by simp; omega)
     have ga := grown_trans gz hga
     have sa := hga.size
     go_wp2_with (first
      | (go_at_call 32; have _t := tokb; refine (read_any us ys hlus (by omega) hgus.at_ g' _ hBys).mono ?_; rintro e wc ⟨Ac, cc, rfl, hfc, hbc⟩; have sc := hbc.size; have hZc := hZb.keep hbc; have hBxc := hBxs.keep hbc; have hrc := hrb.below hbc (by omega); have gc := only_below gb hbc)
      | (go_at_call 31; refine (pairs_any ma hma' _).mono ?_; rintro e wb ⟨ts, xs, us, ys, g, g', rfl, hlts, hlus, hgts, hgus, hBxs, hBys, l1, l2, l3, hpr, hbb⟩; have sb := hbb.size; have hZb := hZa.keep hbb; have hrb := hra.below hbb (by omega); have gb := only_below ga hbb; have lxs := hBxs.lt; have tokb := trivial))
     have lx := hBxc.lt
     obtain ⟨b, off, kf, nf, af, lf, cf, rfl, hel⟩ := elems hfc.rdp l3
     have hbr : b ≠ r := by have := (hel 0 l3).1.1; omega
     have hbw : b ≠ w.heap.size := by have := (hel 0 l3).1.1; omega
     have hel0 : ∀ w' : World, (∀ i (hi : i < us.length), w'.cell? ⟨b, off + i * 3, none⟩ = wc.cell? ⟨b, off + i * 3, none⟩) → True := fun _ _ => trivial
     clear hel0
     have T0 : (∀ i, i < us.length → wc.cell? ⟨b, off + i * 3, none⟩ = some (.int .i64 (kf i))) ∧ (∀ i, i < us.length → wc.cell? ⟨b, off + i * 3 + 1, none⟩ = some (.int .i64 (nf i))) ∧ (∀ i, i < us.length → wc.cell? ⟨b, off + i * 3 + 2, none⟩ = some (.slice (af i) (lf i) (cf i))) := ⟨fun i hi => (hel i hi).2.1, fun i hi => (hel i hi).2.2.1, fun i hi => (hel i hi).2.2.2.1⟩
     obtain ⟨t1, t2, t3⟩ := T0
     have hel' := hide hel
     clear hel
     go_region_held3 (fun w' => (∀ i, i < us.length → w'.cell? ⟨b, off + i * 3, none⟩ = some (.int .i64 (kf i))) ∧ (∀ i, i < us.length → w'.cell? ⟨b, off + i * 3 + 1, none⟩ = some (.int .i64 (nf i))) ∧ (∀ i, i < us.length → w'.cell? ⟨b, off + i * 3 + 2, none⟩ = some (.slice (af i) (lf i) (cf i)))) (first | exact ⟨t1, t2, t3⟩ | exact ⟨s1', s2', s3'⟩ | exact ⟨r1', r2', r3'⟩ | exact ⟨fun i hi => far3 (r1' i hi) hbw, fun i hi => far3 (r2' i hi) hbw, fun i hi => far3 (r3' i hi) hbw⟩ | go_keep) (first
      | (go_at_call 12; have _t := tokd; refine (pick_any B r (pz + 1) us.length _ (by omega) (by omega) (by omega) hrd).mono ?_; rintro e we ⟨mm, rfl, hmm, hmm0, hre, hge⟩; have hmm' : mm < us.length := (by have := hmm (by omega); omega); clear hmm hmm0; have hce := grown_trans hcd hge; have se := hge.size; have r1' : ∀ i, i < us.length → we.cell? ⟨b, off + i * 3, none⟩ = some (.int .i64 (kf i)) := (fun i hi => grown_cell hce (t1 i hi) hbr); have r2' : ∀ i, i < us.length → we.cell? ⟨b, off + i * 3 + 1, none⟩ = some (.int .i64 (nf i)) := (fun i hi => grown_cell hce (t2 i hi) hbr); have r3' : ∀ i, i < us.length → we.cell? ⟨b, off + i * 3 + 2, none⟩ = some (.slice (af i) (lf i) (cf i)) := (fun i hi => grown_cell hce (t3 i hi) hbr); have y0 := r1' mm hmm'; have y1 := r2' mm hmm'; have y2 := r3' mm hmm'; have hlys : mm < ys.length := (by omega); have ge := grown_trans gc hce; have hZe := hZc.grown hce (by simp; omega); obtain ⟨d0, d1, d2⟩ := hZe.three; have e0 := hZe.frozen 0; have e1 := hZe.frozen 1; have e2 := hZe.frozen 2; have lze := hZe.lt; have bl : b < we.heap.size := World.block_lt_of_cell? _ _ y0)
      | (go_at_call 32; refine (read_anyC ts xs hlts (by omega) hgts.at_ g _ hBxc.drew).mono ?_; rintro e wd ⟨Ad, cd, rfl, hcap, hfd, hbd⟩; have hcd : wc.grownBy wd (some r) := only_below (only_drew (World.grownBy.refl _ _)) hbd; have sd := hcd.size; have hrd := hrc.drew.below hbd (by simp; omega); have s1' : ∀ i, i < us.length → wd.cell? ⟨b, off + i * 3, none⟩ = some (.int .i64 (kf i)) := (fun i hi => grown_cell hcd (t1 i hi) hbr); have s2' : ∀ i, i < us.length → wd.cell? ⟨b, off + i * 3 + 1, none⟩ = some (.int .i64 (nf i)) := (fun i hi => grown_cell hcd (t2 i hi) hbr); have s3' : ∀ i, i < us.length → wd.cell? ⟨b, off + i * 3 + 2, none⟩ = some (.slice (af i) (lf i) (cf i)) := (fun i hi => grown_cell hcd (t3 i hi) hbr); have tokd := trivial))
     all_goals
      obtain ⟨_, _, _, _, ks, hk, hlf, hlk, hrk⟩ := hel'.out mm hmm'
      have hgd := hgus.at_ mm (.mk (kf mm) (nf mm) ks) ys[mm] (by rw [List.getElem?_eq_getElem hmm', hk]) (List.getElem?_eq_getElem hlys)
      have hrk2 := hrk.grown hce (fun b hb => by have := hb.1; simp; omega)
      go_wp2_with fail
      refine bodyPost_ret (v := .tuple #[.slice Ad ts.length cd, .agg #[.int .i64 (kf mm), .int .i64 (nf mm), .slice (af mm) (lf mm) (cf mm)]]) (by simp [results, Try.results10, go_sem, d0, d1, d2]) rfl ⟨ts, Ad, cd, kf mm, nf mm, ks, af mm, cf mm, _, by rw [hlf], hcap, ?_, .inr ⟨us, hpr, by rw [← hk]; exact List.getElem_mem hmm'⟩, hlk, hgd.2.1, (by omega : pz + 1 + 1 ≤ p + 200000), ?_, ?_, ?_⟩
      ·exact (((((hfd.rdp.grown hge (fun b hb e => by injection e with e; have := hb.1; simp at this; omega)).mono (q := fun b => w.heap.size + 1 ≤ b) (fun b hb => by have := hb.1; simp at this; omega)).setCell (by simp) _).setCell (by simp) _).setCell (by simp) _).mono (fun b hb => by omega)
      ·exact ((((hrk2.mono (q := fun b => w.heap.size + 1 ≤ b) (fun b hb => by have := hb.1; omega)).setCell (by simp) _).setCell (by simp) _).setCell (by simp) _).mono (fun b hb => by omega)
      ·exact ((hre.setCell (by simp; omega) _).setCell (by simp; omega) _).setCell (by simp; omega) _
      ·exact only_setCell (only_setCell (only_setCell ge (.inr (by simp)) _) (.inr (by simp)) _) (.inr (by simp)) _
    | true =>
     obtain ⟨d0, d1, d2⟩ := hZz.three
     have e0 := hZz.frozen 0
     have e1 := hZz.frozen 1
     have e2 := hZz.frozen 2
     have x0 := hX.ruleG (g := r) (by omega) (i := 0) rfl
     have x1 := hX.ruleG (g := r) (by omega) (i := 1) rfl
     have x2 := hX.ruleG (g := r) (by omega) (i := 2) rfl
     go_wp2_with fail
     refine wp_region_firstY (fun w' => wz.grownBy w' (some r)) [0, 1] [2] [3] [_, _] [_] [_] (by kernel_rfl) (by kernel_rfl) rfl rfl rfl (fun _ _ d _ _ h => by cases d <;> exact h) (only_drew (World.grownBy.refl _ _)) ?_
     repeat ((first | ((refine takeY_skip (a' := ?_) ?_ ?_ ?_); (rotate_left); (· (simp [Region.wanted, yielded]; done))) | ((refine takeY_step (v := ?_) (a' := ?_) ?_ ?_ ?_ ?_); (rotate_left 2); (· (simp [Region.wanted, yielded]; done)); (· (intro w' hS'; go_simp; try (with_reducible rfl))))); (· (simp only [List.getElem_toArray, List.getElem_cons_zero, List.getElem_cons_succ, Act.put, List.setIfInBounds_toArray, List.set_cons_zero, List.set_cons_succ]; exact rfl)))
     refine takeY_nil (then_cons ?_)
     go_wp2_with fail
     refine mid_intro (only_drew (World.grownBy.refl _ _)) (then_nil ?_)
     go_wp2_with fail
     refine bodyPost_ret (v := .tuple #[.slice Av ts.length cv, .agg #[.int .i64 k4, .int .i64 n4, .slice A4 ks4.length c4]]) (by simp [results, Try.results10, go_sem, d0, d1, d2]) rfl ⟨ts, Av, cv, k4, n4, ks4, A4, c4, _, rfl, hcv, ?_, .inl ⟨_, hnn, htr.out, hi4⟩, hl4, hvv.out, (by omega : p4 ≤ p + 200000), ?_, ?_, ?_⟩
     ·exact ((((hRz.mono (q := fun b => w.heap.size + 1 ≤ b) (fun b hb => by omega)).drew.setCell (by simp) _).setCell (by simp) _).setCell (by simp) _).mono (fun b hb => by omega)
     ·exact ((((hkz.mono (q := fun b => w.heap.size + 1 ≤ b) (fun b hb => by omega)).drew.setCell (by simp) _).setCell (by simp) _).setCell (by simp) _).mono (fun b hb => by omega)
     ·exact ((hrz.drew.setCell (by simp; omega) _).setCell (by simp; omega) _).setCell (by simp; omega) _
     ·exact only_setCell (only_setCell (only_setCell (only_drew gz) (.inr (by simp)) _) (.inr (by simp)) _) (.inr (by simp)) _
 ·have q0 : ((m : Int) == 0) = false := beq_eq_false_iff_ne.2 (by omega)
  obtain ⟨pz, hpz⟩ : ∃ pz, pz = p + 1 := ⟨_, rfl⟩
  obtain ⟨wz, hwz⟩ : ∃ wz, wz = w1 := ⟨_, rfl⟩
  have hrz := hr1
  have hZz := hZ1
  have gz := g1
  have sz := s1
  rw [← hpz] at hrz
  go_wp2_with fail
  refine (pick_any B r pz 4 _ (by omega) (by omega) (by omega) hrz).mono ?_
  rintro e wa ⟨ma, rfl, hma, hma0, hra, hga⟩
  have hma' : ma < 4 := by have := hma (by omega); omega
  clear hma hma0
  have hZa := hZz.grown hga (by simp; omega)
  have ga := grown_trans gz hga
  have sa := hga.size
  go_wp2_with (first
   | (go_at_call 32; have _t := tokb; refine (read_any us ys hlus (by omega) hgus.at_ g' _ hBys).mono ?_; rintro e wc ⟨Ac, cc, rfl, hfc, hbc⟩; have sc := hbc.size; have hZc := hZb.keep hbc; have hBxc := hBxs.keep hbc; have hrc := hrb.below hbc (by omega); have gc := only_below gb hbc)
   | (go_at_call 31; refine (pairs_any ma hma' _).mono ?_; rintro e wb ⟨ts, xs, us, ys, g, g', rfl, hlts, hlus, hgts, hgus, hBxs, hBys, l1, l2, l3, hpr, hbb⟩; have sb := hbb.size; have hZb := hZa.keep hbb; have hrb := hra.below hbb (by omega); have gb := only_below ga hbb; have lxs := hBxs.lt; have tokb := trivial))
  have lx := hBxc.lt
  obtain ⟨b, off, kf, nf, af, lf, cf, rfl, hel⟩ := elems hfc.rdp l3
  have hbr : b ≠ r := by have := (hel 0 l3).1.1; omega
  have hbw : b ≠ w.heap.size := by have := (hel 0 l3).1.1; omega
  have hel0 : ∀ w' : World, (∀ i (hi : i < us.length), w'.cell? ⟨b, off + i * 3, none⟩ = wc.cell? ⟨b, off + i * 3, none⟩) → True := fun _ _ => trivial
  clear hel0
  have T0 : (∀ i, i < us.length → wc.cell? ⟨b, off + i * 3, none⟩ = some (.int .i64 (kf i))) ∧ (∀ i, i < us.length → wc.cell? ⟨b, off + i * 3 + 1, none⟩ = some (.int .i64 (nf i))) ∧ (∀ i, i < us.length → wc.cell? ⟨b, off + i * 3 + 2, none⟩ = some (.slice (af i) (lf i) (cf i))) := ⟨fun i hi => (hel i hi).2.1, fun i hi => (hel i hi).2.2.1, fun i hi => (hel i hi).2.2.2.1⟩
  obtain ⟨t1, t2, t3⟩ := T0
  have hel' := hide hel
  clear hel
  go_region_held3 (fun w' => (∀ i, i < us.length → w'.cell? ⟨b, off + i * 3, none⟩ = some (.int .i64 (kf i))) ∧ (∀ i, i < us.length → w'.cell? ⟨b, off + i * 3 + 1, none⟩ = some (.int .i64 (nf i))) ∧ (∀ i, i < us.length → w'.cell? ⟨b, off + i * 3 + 2, none⟩ = some (.slice (af i) (lf i) (cf i)))) (first | exact ⟨t1, t2, t3⟩ | exact ⟨s1', s2', s3'⟩ | exact ⟨r1', r2', r3'⟩ | exact ⟨fun i hi => far3 (r1' i hi) hbw, fun i hi => far3 (r2' i hi) hbw, fun i hi => far3 (r3' i hi) hbw⟩ | go_keep) (first
   | (go_at_call 12; have _t := tokd; refine (pick_any B r (pz + 1) us.length _ (by omega) (by omega) (by omega) hrd).mono ?_; rintro e we ⟨mm, rfl, hmm, hmm0, hre, hge⟩; have hmm' : mm < us.length := (by have := hmm (by omega); omega); clear hmm hmm0; have hce := grown_trans hcd hge; have se := hge.size; have r1' : ∀ i, i < us.length → we.cell? ⟨b, off + i * 3, none⟩ = some (.int .i64 (kf i)) := (fun i hi => grown_cell hce (t1 i hi) hbr); have r2' : ∀ i, i < us.length → we.cell? ⟨b, off + i * 3 + 1, none⟩ = some (.int .i64 (nf i)) := (fun i hi => grown_cell hce (t2 i hi) hbr); have r3' : ∀ i, i < us.length → we.cell? ⟨b, off + i * 3 + 2, none⟩ = some (.slice (af i) (lf i) (cf i)) := (fun i hi => grown_cell hce (t3 i hi) hbr); have y0 := r1' mm hmm'; have y1 := r2' mm hmm'; have y2 := r3' mm hmm'; have hlys : mm < ys.length := (by omega); have ge := grown_trans gc hce; have hZe := hZc.grown hce (by simp; omega); obtain ⟨d0, d1, d2⟩ := hZe.three; have e0 := hZe.frozen 0; have e1 := hZe.frozen 1; have e2 := hZe.frozen 2; have lze := hZe.lt; have bl : b < we.heap.size := World.block_lt_of_cell? _ _ y0)
   | (go_at_call 32; refine (read_anyC ts xs hlts (by omega) hgts.at_ g _ hBxc.drew).mono ?_; rintro e wd ⟨Ad, cd, rfl, hcap, hfd, hbd⟩; have hcd : wc.grownBy wd (some r) := only_below (only_drew (World.grownBy.refl _ _)) hbd; have sd := hcd.size; have hrd := hrc.drew.below hbd (by simp; omega); have s1' : ∀ i, i < us.length → wd.cell? ⟨b, off + i * 3, none⟩ = some (.int .i64 (kf i)) := (fun i hi => grown_cell hcd (t1 i hi) hbr); have s2' : ∀ i, i < us.length → wd.cell? ⟨b, off + i * 3 + 1, none⟩ = some (.int .i64 (nf i)) := (fun i hi => grown_cell hcd (t2 i hi) hbr); have s3' : ∀ i, i < us.length → wd.cell? ⟨b, off + i * 3 + 2, none⟩ = some (.slice (af i) (lf i) (cf i)) := (fun i hi => grown_cell hcd (t3 i hi) hbr); have tokd := trivial))
  all_goals
   obtain ⟨_, _, _, _, ks, hk, hlf, hlk, hrk⟩ := hel'.out mm hmm'
   have hgd := hgus.at_ mm (.mk (kf mm) (nf mm) ks) ys[mm] (by rw [List.getElem?_eq_getElem hmm', hk]) (List.getElem?_eq_getElem hlys)
   have hrk2 := hrk.grown hce (fun b hb => by have := hb.1; simp; omega)
   go_wp2_with fail
   refine bodyPost_ret (v := .tuple #[.slice Ad ts.length cd, .agg #[.int .i64 (kf mm), .int .i64 (nf mm), .slice (af mm) (lf mm) (cf mm)]]) (by simp [results, Try.results10, go_sem, d0, d1, d2]) rfl ⟨ts, Ad, cd, kf mm, nf mm, ks, af mm, cf mm, _, by rw [hlf], hcap, ?_, .inr ⟨us, hpr, by rw [← hk]; exact List.getElem_mem hmm'⟩, hlk, hgd.2.1, (by omega : pz + 1 + 1 ≤ p + 200000), ?_, ?_, ?_⟩
   ·exact (((((hfd.rdp.grown hge (fun b hb e => by injection e with e; have := hb.1; simp at this; omega)).mono (q := fun b => w.heap.size + 1 ≤ b) (fun b hb => by have := hb.1; simp at this; omega)).setCell (by simp) _).setCell (by simp) _).setCell (by simp) _).mono (fun b hb => by omega)
   ·exact ((((hrk2.mono (q := fun b => w.heap.size + 1 ≤ b) (fun b hb => by have := hb.1; omega)).setCell (by simp) _).setCell (by simp) _).setCell (by simp) _).mono (fun b hb => by omega)
   ·exact ((hre.setCell (by simp; omega) _).setCell (by simp; omega) _).setCell (by simp; omega) _
   ·exact only_setCell (only_setCell (only_setCell ge (.inr (by simp)) _) (.inr (by simp)) _) (.inr (by simp)) _
open Go.RowKit
theorem natOk : NatOk := by
 intro B r p n d w hn hd hp hB hr
 refine (nat_any 4 (Nat.le_refl 4) B r p n d w (by omega) (by omega) (by omega) (by omega) (by simp [NB]; omega) hB hr).mono ?_
 rintro e w' ⟨k, m, ks, A, c, p', he, hl, hs, hp', h1, h2, h3, h4⟩
 simp [NB] at hs hp'
 exact ⟨k, m, ks, A, c, p', he, hl, by omega, by omega, h1, h2, h3, by simpa using h4⟩
open Go.RowKit
theorem note_le (N : Nat) : (∀ (t : Tm) (ctx : List Tm), Le (noteR N ctx t) (noteR (N + 1) ctx t)) ∧ ∀ (ts : List Tm) (ctx : List Tm) (k : Int) (t0 : Tm) (i : Nat), Le (noteL N ctx k t0 i ts) (noteL (N + 1) ctx k t0 i ts) := by
 refine Tm.ind2 (fun k n ks ih ctx => ?_) (fun ctx k t0 i => ?_) (fun t ts h1 h2 ctx k t0 i => ?_)
 ·rw [noteR, noteR]
  exact bd_le (infR_le N _ _) fun _ => bd_le (ih _ _ _ _) fun _ => Le.refl _
 ·rw [noteL, noteL]; exact Le.refl _
 ·rw [noteL, noteL]
  exact bd_le (h1 _) fun _ => bd_le (h2 _ _ _ _) fun _ => Le.refl _
theorem note_mono {N M : Nat} (h : N ≤ M) (ctx : List Tm) (t : Tm) : Le (noteR N ctx t) (noteR M ctx t) := by
 induction M with
 | zero => rw [show N = 0 by omega]; exact Le.refl _
 | succ M ih =>
  by_cases hN : N = M + 1
  ·rw [hN]; exact Le.refl _
  ·exact fun r hr => (note_le M).1 t ctx r (ih (by omega) r hr)
def EndsN (ctx : List Tm) (t : Tm) : Prop := ∃ N r, noteR N ctx t = some r
theorem EndsN.at_ {ctx : List Tm} {t : Tm} (h : EndsN ctx t) : ∃ N, ∀ M, N ≤ M → Df (noteR M ctx t) := by
 obtain ⟨N, r, h⟩ := h
 exact ⟨N, fun M hM => ⟨r, note_mono hM _ _ _ h⟩⟩
def cxn (ctx : List Tm) (k : Int) (t0 : Tm) (i : Nat) : List Tm := if ((i : Int) == 1 && binds k) = true then ctx ++ [t0] else ctx
theorem endsL : ∀ (ts : List Tm) (ctx : List Tm) (k : Int) (t0 : Tm) (i : Nat), (∀ j, (hj : j < ts.length) → EndsN (cxn ctx k t0 (i + j)) ts[j]) → ∃ N, ∀ M, N ≤ M → Df (noteL M ctx k t0 i ts)
 | [], ctx, k, t0, i, _ => ⟨0, fun M _ => by rw [noteL]; exact df_some _⟩
 | t :: ts, ctx, k, t0, i, h => by
  obtain ⟨N1, g1⟩ := (h 0 (by simp)).at_
  obtain ⟨N2, g2⟩ := endsL ts ctx k t0 (i + 1) (fun j hj => by have := h (j + 1) (by simpa using hj); rwa [show i + (j + 1) = i + 1 + j by omega] at this)
  refine ⟨N1 + N2, fun M hM => ?_⟩
  rw [noteL]
  exact bd_df (g1 M (by omega)) fun _ _ => bd_df (g2 M (by omega)) fun _ _ => df_some _
theorem endsN_node {ctx : List Tm} {k n : Int} {ks : List Tm} (h : Ends ctx (.mk k n ks)) (hk : ∀ j, (hj : j < ks.length) → EndsN (cxn ctx k (kidT ks 0) j) ks[j]) : EndsN ctx (.mk k n ks) := by
 obtain ⟨N1, g1⟩ := h.at_
 obtain ⟨N2, g2⟩ := endsL ks ctx k (kidT ks 0) 0 (fun j hj => by rw [Nat.zero_add]; exact hk j hj)
 have : Df (noteR (N1 + N2) ctx (.mk k n ks)) := by
  rw [noteR]
  exact bd_df (g1 _ (by omega)) fun _ _ => bd_df (g2 _ (by omega)) fun _ _ => df_some _
 obtain ⟨r, hr⟩ := this
 exact ⟨_, r, hr⟩
theorem cxn_no {ctx : List Tm} {k : Int} {t0 : Tm} {i : Nat} (hb : binds k = false) : cxn ctx k t0 i = ctx := by rw [cxn, hb, Bool.and_false, if_neg (by decide)]
theorem en0 (ctx : List Tm) (k n : Int) : EndsN ctx (.mk k n []) := endsN_node (ends_leaf _ _ _) fun j hj => absurd hj (by simp)
theorem en1 {ctx : List Tm} {k n : Int} {a : Tm} (hb : binds k = false) (h : Ends ctx (.mk k n [a])) (ha : EndsN ctx a) : EndsN ctx (.mk k n [a]) := endsN_node h fun j hj => by
 rw [cxn_no hb]
 match j, hj with
 | 0, _ => exact ha
theorem en2 {ctx : List Tm} {k n : Int} {a b : Tm} (hb : binds k = false) (h : Ends ctx (.mk k n [a, b])) (h0 : EndsN ctx a) (h1 : EndsN ctx b) : EndsN ctx (.mk k n [a, b]) := endsN_node h fun j hj => by
 rw [cxn_no hb]
 match j, hj with
 | 0, _ => exact h0
 | 1, _ => exact h1
theorem en3 {ctx : List Tm} {k n : Int} {a b c : Tm} (hb : binds k = false) (h : Ends ctx (.mk k n [a, b, c])) (h0 : EndsN ctx a) (h1 : EndsN ctx b) (h2 : EndsN ctx c) : EndsN ctx (.mk k n [a, b, c]) := endsN_node h fun j hj => by
 rw [cxn_no hb]
 match j, hj with
 | 0, _ => exact h0
 | 1, _ => exact h1
 | 2, _ => exact h2
theorem en4 {ctx : List Tm} {k n : Int} {a b c d : Tm} (hb : binds k = false) (h : Ends ctx (.mk k n [a, b, c, d])) (h0 : EndsN ctx a) (h1 : EndsN ctx b) (h2 : EndsN ctx c) (h3 : EndsN ctx d) : EndsN ctx (.mk k n [a, b, c, d]) := endsN_node h fun j hj => by
 rw [cxn_no hb]
 match j, hj with
 | 0, _ => exact h0
 | 1, _ => exact h1
 | 2, _ => exact h2
 | 3, _ => exact h3
theorem enB {ctx : List Tm} {k n : Int} {a b : Tm} (hb : binds k = true) (h : Ends ctx (.mk k n [a, b])) (h0 : EndsN ctx a) (h1 : EndsN (ctx ++ [a]) b) : EndsN ctx (.mk k n [a, b]) := endsN_node h fun j hj => by
 match j, hj with
 | 0, _ => rw [cxn, if_neg (by simp)]; exact h0
 | 1, _ => rw [cxn, if_pos (by rw [hb]; rfl)]; exact h1
theorem en_kN (ctx : List Tm) : EndsN ctx kN := en0 _ _ _
theorem en_fam (ctx : List Tm) : EndsN ctx famN := enB rfl (ends_fam _) (en_kN _) (en_kN _)
theorem en_sig (ctx : List Tm) : EndsN ctx (.mk 13 0 [kN, kN]) := enB rfl (ends_sig _) (en_kN _) (en_kN _)
theorem en_gd {n : Nat} {x : NT} (h : NT.Gd n x) : EndsN (List.replicate n kN) x.tm := by
 have hE := (ends_gd h).1
 induction h with
 | var h => exact en0 _ _ _
 | zero => exact en0 _ _ _
 | suc h ih => exact en1 rfl hE (ih (ends_gd h).1)
 | @app n b a h1 h2 h3 i1 i2 i3 =>
  exact en2 rfl hE (enB rfl (ends_lamN (ends_gd h1).1 (ends_gd h1).2) (en_kN _) (by rw [rep_succ]; exact i1 (ends_gd h1).1)) (i2 (ends_gd h2).1)
 | @elim n z s m h1 h2 h3 i1 i2 i3 =>
  refine en4 rfl hE (en_fam _) (i1 (ends_gd h1).1) (enB rfl (ends_lamNN (ends_gd h2).1 (ends_gd h2).2) (en_kN _) ?_) (i3 (ends_gd h3).1)
  rw [rep_succ]
  exact enB rfl (ends_lamN (ends_gd h2).1 (ends_gd h2).2) (en_kN _) (by rw [rep_succ]; exact i2 (ends_gd h2).1)
 | @part n q a b h1 h2 i1 i2 =>
  have h3 : Ends (List.replicate n kN) (.mk 14 0 [.mk 13 0 [kN, kN], a.tm, b.tm]) := ends3 rfl (by decide) (ends_sig _) (ends_gd h1).1 (ends_gd h2).1
  cases q with
  | false => exact en1 rfl hE (en3 rfl h3 (en_sig _) (i1 (ends_gd h1).1) (i2 (ends_gd h2).1))
  | true => exact en1 rfl hE (en3 rfl h3 (en_sig _) (i1 (ends_gd h1).1) (i2 (ends_gd h2).1))
 | @mov n x z h1 h2 i1 i2 =>
  have h3 : Ends (List.replicate n kN) (.mk 11 0 [x.tm]) := ends1 rfl (ends_gd h1).1 (fun _ N u hu => by rw [ty_any x _ _ _ hu]; exact ends_ty (ends_gd h1).2)
  exact en3 rfl hE (en_fam _) (en1 rfl h3 (i1 (ends_gd h1).1)) (i2 (ends_gd h2).1)
theorem ccG_df {N : Nat} {ctx : List Tm} (h : ∀ j, j < ctx.length → Df (infR N (ctx.take j) (ctx.getD j default))) : ∀ m, m ≤ ctx.length → Df (ccG N ctx m)
 | 0, _ => df_some _
 | m + 1, hm => by
  rw [ccG]
  obtain ⟨r, hr⟩ := srtR_df (h (ctx.length - (m + 1)) (by omega))
  rw [hr]
  cases r with
  | no b => exact df_some _
  | ok l => exact ccG_df h m (by omega)
theorem anR_df {N : Nat} {ctx : List Tm} {t : Tm} (hc : ∀ j, j < ctx.length → Df (infR N (ctx.take j) (ctx.getD j default))) (h1 : Df (infR N ctx t)) (h2 : Df (noteR N ctx t)) : Df (anR N ctx t) := by
 have hi : Df (itR N ctx t) := by
  unfold itR
  split
  ·obtain ⟨c, hc⟩ := ccG_df hc ctx.length (Nat.le_refl _)
   rw [hc]
   simp only
   split
   ·obtain ⟨r, hr⟩ := h1
    rw [hr]
    cases r <;> exact df_some _
   ·exact df_some _
  ·exact df_some _
 unfold anR
 obtain ⟨⟨c, o⟩, hi⟩ := hi
 rw [hi]
 cases o with
 | none => exact df_some _
 | some s =>
  obtain ⟨r, hr⟩ := h2
  simp only
  rw [hr]
  cases r <;> exact df_some _
theorem pairs_an : (prs0.all fun t => (anR 40 [] t).isSome) = true ∧ (prs1.all fun t => (anR 40 ctx1 t).isSome) = true ∧ (prs2.all fun t => (anR 40 ctx2 t).isSome) = true ∧ (prs3.all fun t => (anR 40 ctx3 t).isSome) = true := ⟨by kernel_rfl, by kernel_rfl, by kernel_rfl, by kernel_rfl⟩
theorem drawn_an {ctx : List Tm} {t : Tm} (h : IsDrawn ctx t) : ∃ N R, anR N ctx t = some R := by
 rcases h with ⟨m, hm, rfl, x, hx, rfl⟩ | ⟨us, hp, hu⟩
 ·have hg := NT.gd_any x m hx
  obtain ⟨N1, g1⟩ := (ends_gd hg).1.at_
  obtain ⟨N2, g2⟩ := (en_gd hg).at_
  have hc : ∀ j, j < m → Ends ((List.replicate m kN).take j) ((List.replicate m kN).getD j default) := fun j hj => by
   rw [show (List.replicate m kN).getD j default = kN by simp [List.getD, hj]]
   exact ends_kN _
  have hN3 : ∃ N, ∀ j, j < m → ∀ M, N ≤ M → Df (infR M ((List.replicate m kN).take j) ((List.replicate m kN).getD j default)) := by
   have : ∀ l, l ≤ m → ∃ N, ∀ j, j < l → ∀ M, N ≤ M → Df (infR M ((List.replicate m kN).take j) ((List.replicate m kN).getD j default)) := by
    intro l
    induction l with
    | zero => intro _; exact ⟨0, fun j hj => absurd hj (by omega)⟩
    | succ l ih =>
     intro hl
     obtain ⟨N, hN⟩ := ih (by omega)
     obtain ⟨N', hN'⟩ := (hc l (by omega)).at_
     refine ⟨N + N', fun j hj M hM => ?_⟩
     by_cases h : j < l
     ·exact hN j h M (by omega)
     ·obtain rfl : j = l := by omega
      exact hN' M (by omega)
   exact this m (Nat.le_refl _)
  obtain ⟨N3, g3⟩ := hN3
  obtain ⟨R, hR⟩ := anR_df (N := N1 + N2 + N3) (ctx := List.replicate m kN) (t := x.tm) (fun j hj => g3 j (by simpa using hj) _ (by omega)) (g1 _ (by omega)) (g2 _ (by omega))
  exact ⟨_, R, hR⟩
 ·obtain ⟨p0, p1, p2, p3⟩ := pairs_an
  have key : ∀ {c : List Tm} {l : List Tm}, (l.all fun t => (anR 40 c t).isSome) = true → t ∈ l → ∃ N R, anR N c t = some R := fun h ht => by
   have := List.all_eq_true.1 h _ ht
   obtain ⟨R, hR⟩ := Option.isSome_iff_exists.1 this
   exact ⟨40, R, hR⟩
  rcases hp with ⟨rfl, rfl⟩ | ⟨rfl, rfl⟩ | ⟨rfl, rfl⟩ | ⟨rfl, rfl⟩
  ·exact key p0 hu
  ·exact key p1 hu
  ·exact key p2 hu
  ·exact key p3 hu
end Go.Proofs.Ytddkehjdjfmhmaa
