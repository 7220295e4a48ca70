/-
 Contracts of the functions that the law reaches, and plain lemmas. No condition.
-/
import Derived.Test.YtddkehjdjfmhmaaK7
import Derived.Test.YtddkehjdjfmhmaaK38
import Derived.Test.YtddkehjdjfmhmaaK39
namespace Go.Proofs.Ytddkehjdjfmhmaa
set_option linter.unusedSimpArgs false
set_option linter.unusedVariables false
open Go.RowKit
set_option maxHeartbeats 2000000 in
set_option maxRecDepth 100000 in
theorem noteAt1_any (p xs : List Int) (A P : Option Addr) (c cp bx : Nat) (w : World) (hp : p.length ≤ 9223372036854775807) (hx : xs.length ≤ 9223372036854775807) (hr : RdI w A p) (hi : RdI w P xs) (hB : Blk w bx #[.slice P xs.length cp]) :
  Calls Try.prog 18 #[.slice A p.length c, .pointer (some ⟨bx, 0, none⟩)] w fun e w' => e = .returned (.bool (decide (p = xs))) ∧ Below w.heap.size w w' := by
 have b0 := hB.at_ (i := 0) rfl
 generalize hdd : decide (p = xs) = dd
 have hdd' := hide hdd
 clear hdd
 go_enter Try.func18, Try.ntmps18
 go_wp2_with (go_at_call 19; refine (iEqual_any p xs A P c cp _ hp hx hr hi).mono ?_; rw [hdd'.out]; rintro e w1 ⟨rfl, hb1⟩)
 go_ret
 exact ⟨rfl, hb1⟩
set_option maxHeartbeats 2000000 in
set_option maxRecDepth 100000 in
theorem indexP_any (ps : List (List Int)) (xs : List Int) (I : Nat) (hI : ∀ i, ps[i]? = some xs ↔ i = I) (A P : Option Addr) (c cp bx : Nat) (w : World) (hps : ps.length ≤ 1000000000) (hpl : ∀ p, p ∈ ps → p.length ≤ 1000000000) (hx : xs.length ≤ 1000000000) (hr : RdPs w A ps) (hi : RdI w P xs) (hB : Blk w bx #[.slice P xs.length cp]) :
  Calls Try.prog 16 #[.slice A ps.length c, .func (.func 18) #[] #[.pointer (some ⟨bx, 0, none⟩)]] w fun e w' => e = .returned (.int .i64 I) ∧ Below w.heap.size w w' := by
 have hrun := run_enter Try.func18 (by kernel_rfl) (by kernel_rfl)
 have hIl : I < ps.length := (List.getElem?_eq_some_iff.1 ((hI I).2 rfl)).1
 have hI' := hide hI
 have hpl' := hide hpl
 clear hI hpl
 go_enter Try.func16, Try.ntmps16
 go_wp2_with fail
 go_loopw [8] (fun i wr => ∃ j : Nat, j ≤ I ∧ i = .int .i64 j ∧ Below w.heap.size w wr) (fun i _ => ps.length - (intOf i).toNat)
 case atStart => exact ⟨0, Nat.zero_le _, rfl, Below.refl _ _⟩
 case round =>
  obtain ⟨j, hj, rfl, hb⟩ := hrel
  have hlt : j < ps.length := by omega
  obtain ⟨b, off, B, cb, rfl, hc, hib, -⟩ := (hr.below hb) j hlt
  have hlp := hpl'.out _ (List.getElem_mem hlt)
  generalize hpj : ps[j] = p at hc hib hlp
  have hpj' := hide hpj
  have hlt0 : (j : Int) < (ps.length : Int) := by omega
  clear hpj
  by_cases hjI : j = I
  ·subst hjI
   have hpe : p = xs := by
    have h1 := (hI'.out j).2 rfl
    rw [List.getElem?_eq_getElem hlt, hpj'.out] at h1
    injection h1
   have hd : decide (p = xs) = true := decide_eq_true hpe
   have hd' := hide hd
   clear hd hpe
   go_wp2_with (refine (noteAt1_any p xs B P cb cp bx _ (by omega) (by omega) hib (hi.below hb) (hB.keep hb)).mono ?_; rw [hd'.out]; rintro e w3 ⟨rfl, hb3⟩)
   go_ret
   exact ⟨rfl, hb.trans (hb3.mono hb.size)⟩
  ·have hd : decide (p = xs) = false := decide_eq_false (fun e => hjI ((hI'.out j).1 (by rw [List.getElem?_eq_getElem hlt, hpj'.out, e])))
   have hjI' := hide hjI
   have hlt2 : j + 1 ≤ I := by omega
   clear hjI
   have hd' := hide hd
   clear hd
   go_wp2_with (refine (noteAt1_any p xs B P cb cp bx _ (by omega) (by omega) hib (hi.below hb) (hB.keep hb)).mono ?_; rw [hd'.out]; rintro e w3 ⟨rfl, hb3⟩)
   go_roundw
   case rel => exact ⟨j + 1, by omega, by go_num, hb.trans (hb3.mono hb.size)⟩
   case measure => simp [intOf]; omega
open Go.RowKit
theorem pl_index (t : Tm) : ∀ (p xs : List Int) (u : Tm), atT t xs = some u → ∀ i, (plT allT p t)[i]? = some (p ++ xs) ↔ i = idxT t xs := by
 refine Tm.rec (motive_1 := fun t => ∀ (p xs : List Int) (u : Tm), atT t xs = some u → ∀ i, (plT allT p t)[i]? = some (p ++ xs) ↔ i = idxT t xs)
  (motive_2 := fun ts => ∀ (p : List Int) (i0 a : Nat) (is : List Int) (u : Tm), a < ts.length → atT (ts.getD a default) is = some u → ∀ i, (plL allT p i0 ts)[i]? = some (p ++ ((i0 + a : Nat) : Int) :: is) ↔ i = sizes (ts.take a) + idxT (ts.getD a default) is) ?_ ?_ ?_ t
 ·intro k n ks ih p xs u h i
  rw [plT, if_pos (show allT (.mk k n ks) = true from rfl), List.singleton_append]
  cases xs with
  | nil =>
   rw [List.append_nil, idxT]
   cases i with
   | zero => simp
   | succ i =>
    rw [List.getElem?_cons_succ]
    constructor
    ·intro h
     obtain ⟨j, q, _, e⟩ := pl_heads2 allT ks p 0 p (List.mem_of_getElem? h)
     have := congrArg List.length e
     simp at this
    ·intro h; cases h
  | cons a is =>
   rw [atT] at h
   split at h
   ·rename_i hin
    simp only [Tm.kids] at hin
    have h' : atT (ks.getD a.toNat default) is = some u := h
    have hih := ih p 0 a.toNat is u (by omega) h'
    rw [idxT]
    have ea : (((0 + a.toNat : Nat) : Int)) = a := by omega
    rw [ea] at hih
    cases i with
    | zero =>
     rw [List.getElem?_cons_zero]
     constructor
     ·intro h
      injection h with h
      have := congrArg List.length h
      simp at this
     ·intro h; omega
    | succ i =>
     rw [List.getElem?_cons_succ, hih i]
     simp only [Tm.kids]
     omega
   ·cases h
 ·intro p i0 a is u h; simp at h
 ·intro t ts h1 h2 p i0 a is u ha h i
  rw [plL]
  have hl := pl_length t (p ++ [(i0 : Int)])
  cases a with
  | zero =>
   have h' : atT t is = some u := h
   have hid := idx_lt h'
   have hup : 0 < u.size := by cases u; rw [Tm.size]; omega
   have e0 : (t :: ts).getD 0 default = t := rfl
   rw [e0, List.take_zero, sizes, Nat.zero_add]
   simp only [Nat.add_zero]
   by_cases hi : i < t.size
   ·rw [List.getElem?_append_left (by omega), show p ++ (i0 : Int) :: is = (p ++ [(i0 : Int)]) ++ is by simp]
    exact h1 _ is u h' i
   ·rw [List.getElem?_append_right (by omega)]
    constructor
    ·intro hx
     obtain ⟨j, q, hj, e⟩ := pl_heads2 allT ts p (i0 + 1) _ (List.mem_of_getElem? hx)
     have := int_cons_ne e
     omega
    ·intro hx; omega
  | succ a =>
   have h' : atT (ts.getD a default) is = some u := h
   have e0 : (t :: ts).getD (a + 1) default = ts.getD a default := rfl
   have hih := h2 p (i0 + 1) a is u (by simpa using ha) h'
   rw [e0, List.take_succ_cons, sizes]
   by_cases hi : i < t.size
   ·rw [List.getElem?_append_left (by omega)]
    constructor
    ·intro hx
     obtain ⟨q, e⟩ := pl_heads allT t _ _ (List.mem_of_getElem? hx)
     rw [List.append_assoc] at e
     have := int_cons_ne (q := is) (r := q) e
     omega
    ·intro hx; omega
   ·rw [List.getElem?_append_right (by omega), hl, show i0 + (a + 1) = i0 + 1 + a by omega, hih (i - t.size)]
    omega
theorem plT_paths (f : Tm → Bool) (t : Tm) : ∀ (p x : List Int), x ∈ plT f p t → x.length ≤ p.length + t.size := by
 refine Tm.rec (motive_1 := fun t => ∀ (p x : List Int), x ∈ plT f p t → x.length ≤ p.length + t.size)
  (motive_2 := fun ts => ∀ (p : List Int) (i : Nat) (x : List Int), x ∈ plL f p i ts → x.length ≤ p.length + 1 + sizes ts) ?_ ?_ ?_ t
 ·intro k n ks ih p x hx
  rw [plT] at hx
  rw [Tm.size]
  rcases List.mem_append.1 hx with hx | hx
  ·split at hx
   ·rw [List.mem_singleton] at hx; subst hx; omega
   ·cases hx
  ·have := ih p 0 x hx; omega
 ·intro p i x hx; rw [plL] at hx; cases hx
 ·intro t ts h1 h2 p i x hx
  rw [plL] at hx
  rw [sizes]
  rcases List.mem_append.1 hx with hx | hx
  ·have := h1 _ x hx; simp at this; omega
  ·have := h2 p (i + 1) x hx; omega
set_option maxHeartbeats 4000000 in
set_option maxRecDepth 100000 in
theorem iNoteAt_any (k n : Int) (ks : List Tm) (A : Option Addr) (c : Nat) (notes : List Tm) (B : Option Addr) (cb : Nat) (xs : List Int) (P : Option Addr) (cp : Nat) (w : World) (hM : sizes ks ≤ 1048576) (hMn : sizes notes ≤ 1048576) (hx : xs.length ≤ 1048576) (hr : Rd w A 0 ks) (hrB : Rd w B 0 notes) (hi : RdI w P xs) :
  Calls Try.prog 5 #[.agg #[.int .i64 k, .int .i64 n, .slice A ks.length c], .slice B notes.length cb, .slice P xs.length cp] w (GotO w (noteS (.mk k n ks) notes xs)) := by
 have hlen := length_le_sizes ks
 have hlenB := length_le_sizes notes
 cases hv : validT (.mk k n ks) with
 | false =>
  have hz : noteS (.mk k n ks) notes xs = none := by rw [noteS, if_neg]; rintro ⟨h, -⟩; rw [termAt, if_neg (by rw [hv]; exact Bool.false_ne_true)] at h; cases h
  rw [hz]
  have hv' := hide hv
  clear hz hv
  go_enter Try.func5, Try.ntmps5
  go_wp2_with (first | (go_at_call 8; refine (iTermValid_any k n ks A c _ (by omega) (((hr.alloc _).alloc _).alloc _)).mono ?_; rw [hv'.out]; rintro e w1 ⟨rfl, hb1⟩; have hB1 : Blk w1 w.heap.size #[.int .i64 k, .int .i64 n, .slice A ks.length c] := (((Blk.new_ w 25 #[.int .i64 k, .int .i64 n, .slice A ks.length c] rfl).alloc _).alloc _).keep hb1; have hX1 : Blk w1 (w.heap.size + 1) #[.slice P xs.length cp] := ((Blk.new_ _ 26 _ (by simp)).alloc _).keep hb1; have hT1 : Blk w1 (w.heap.size + 1 + 1) #[.int .i64 0, .int .i64 0, .slice none 0 0] := (Blk.new_ _ 25 _ (by simp)).keep hb1; have g1 : Below w.heap.size w w1 := ((((Below.refl _ _).alloc (Nat.le_refl _) _).alloc (by simp) _).alloc (by simp; omega) _).trans (hb1.mono (by simp; omega)); have l1 : w.heap.size + 1 + 1 < w1.heap.size := hT1.lt; obtain ⟨p0, p1, p2⟩ := hB1.three; obtain ⟨d0, d1, d2⟩ := hT1.three; have e0 := hT1.frozen 0; have e1 := hT1.frozen 1; have e2 := hT1.frozen 2; have f0 := hX1.at_ (i := 0) rfl))
  have y := fun (o : Obj) => (((((hT1.set_ 0 (.int .i64 0)).set_ 1 (.int .i64 0)).set_ 2 (.slice none 0 0)).alloc o : Blk _ _ #[.int .i64 0, .int .i64 0, .slice none 0 0])).three
  refine bodyPost_ret (v := .tuple #[zeroV, .bool false]) (by simp [results, Try.results5, go_sem, d0, d1, d2, zeroV, y]) rfl ⟨rfl, ?_⟩
  first
   | exact ((g1.setCell (by first | omega | (simp; done) | (simp; omega)) _).setCell (by first | omega | (simp; done) | (simp; omega)) _).setCell (by first | omega | (simp; done) | (simp; omega)) _
   | exact (((g1.setCell (by first | omega | (simp; done) | (simp; omega)) _).setCell (by first | omega | (simp; done) | (simp; omega)) _).setCell (by first | omega | (simp; done) | (simp; omega)) _).alloc (by have := g1.size; first | omega | (simp; omega)) _
   | exact ((((g1.alloc g1.size _).setCell (by first | omega | (simp; done) | (simp; omega)) _).setCell (by first | omega | (simp; done) | (simp; omega)) _).setCell (by first | omega | (simp; done) | (simp; omega)) _)
 | true =>
  have hv' := hide hv
  have hsz := validT_size hv
  rw [Tm.size] at hsz
  by_cases hln : notes.length = sizes ks + 1
  ·have q1 : ((notes.length : Int) != ((sizes ks + 1 : Nat) : Int)) = false := by simp [hln]
   have q1b : ((notes.length : Int) != (sizes ks : Int) + 1) = false := by simp [hln]
   have hln' := hide hln
   cases hat : atT (.mk k n ks) xs with
   | none =>
    have hz : noteS (.mk k n ks) notes xs = none := by rw [noteS, if_neg]; rintro ⟨h, -⟩; rw [termAt, if_pos hv, hat] at h; cases h
    rw [hz]
    have hat' := hide hat
    clear hz hat hv hln
    go_enter Try.func5, Try.ntmps5
    go_wp2_with (first | (go_at_call 15; refine (iWalked_any k n ks A c xs P cp _ (by omega) (by omega) (hr.below g2) (hi.below g2)).mono ?_; rw [hat'.out]; rintro e w3 ⟨hb3, rfl⟩; have hB3 := (hB2).keep hb3; have hX3 := (hX2).keep hb3; have hT3 := (hT2).keep hb3; have g3 := g2.trans (hb3.mono g2.size); have l3 : w.heap.size + 1 + 1 < w3.heap.size := hT3.lt; have la3 : w.heap.size < w3.heap.size := (by omega); have lb3 : w.heap.size + 1 < w3.heap.size := (by omega); clear p0 p1 p2 d0 d1 d2 e0 e1 e2 f0; obtain ⟨p0, p1, p2⟩ := hB3.three; obtain ⟨d0, d1, d2⟩ := hT3.three; have e0 := hT3.frozen 0; have e1 := hT3.frozen 1; have e2 := hT3.frozen 2; have f0 := hX3.at_ (i := 0) rfl) | (go_at_call 14; refine (iSize_any (sizes ks + 1) k n ks A c _ (by omega) (by omega) (hr.below g1)).mono ?_; rintro e w2 ⟨rfl, hb2⟩; have hB2 := (hB1).keep hb2; have hX2 := (hX1).keep hb2; have hT2 := (hT1).keep hb2; have g2 := g1.trans (hb2.mono g1.size); have l2 : w.heap.size + 1 + 1 < w2.heap.size := hT2.lt; clear p0 p1 p2 d0 d1 d2 e0 e1 e2 f0; obtain ⟨p0, p1, p2⟩ := hB2.three; obtain ⟨d0, d1, d2⟩ := hT2.three; have e0 := hT2.frozen 0; have e1 := hT2.frozen 1; have e2 := hT2.frozen 2; have f0 := hX2.at_ (i := 0) rfl) | (go_at_call 8; refine (iTermValid_any k n ks A c _ (by omega) (((hr.alloc _).alloc _).alloc _)).mono ?_; rw [hv'.out]; rintro e w1 ⟨rfl, hb1⟩; have hB1 : Blk w1 w.heap.size #[.int .i64 k, .int .i64 n, .slice A ks.length c] := (((Blk.new_ w 25 #[.int .i64 k, .int .i64 n, .slice A ks.length c] rfl).alloc _).alloc _).keep hb1; have hX1 : Blk w1 (w.heap.size + 1) #[.slice P xs.length cp] := ((Blk.new_ _ 26 _ (by simp)).alloc _).keep hb1; have hT1 : Blk w1 (w.heap.size + 1 + 1) #[.int .i64 0, .int .i64 0, .slice none 0 0] := (Blk.new_ _ 25 _ (by simp)).keep hb1; have g1 : Below w.heap.size w w1 := ((((Below.refl _ _).alloc (Nat.le_refl _) _).alloc (by simp) _).alloc (by simp; omega) _).trans (hb1.mono (by simp; omega)); have l1 : w.heap.size + 1 + 1 < w1.heap.size := hT1.lt; obtain ⟨p0, p1, p2⟩ := hB1.three; obtain ⟨d0, d1, d2⟩ := hT1.three; have e0 := hT1.frozen 0; have e1 := hT1.frozen 1; have e2 := hT1.frozen 2; have f0 := hX1.at_ (i := 0) rfl))
    have y := fun (o : Obj) => (((((hT3.set_ 0 (.int .i64 0)).set_ 1 (.int .i64 0)).set_ 2 (.slice none 0 0)).alloc o : Blk _ _ #[.int .i64 0, .int .i64 0, .slice none 0 0])).three
    refine bodyPost_ret (v := .tuple #[zeroV, .bool false]) (by simp [results, Try.results5, go_sem, d0, d1, d2, zeroV, y]) rfl ⟨rfl, ?_⟩
    first
     | exact ((g3.setCell (by first | omega | (simp; done) | (simp; omega)) _).setCell (by first | omega | (simp; done) | (simp; omega)) _).setCell (by first | omega | (simp; done) | (simp; omega)) _
     | exact (((g3.setCell (by first | omega | (simp; done) | (simp; omega)) _).setCell (by first | omega | (simp; done) | (simp; omega)) _).setCell (by first | omega | (simp; done) | (simp; omega)) _).alloc (by have := g3.size; first | omega | (simp; omega)) _
     | exact ((((g3.alloc g3.size _).setCell (by first | omega | (simp; done) | (simp; omega)) _).setCell (by first | omega | (simp; done) | (simp; omega)) _).setCell (by first | omega | (simp; done) | (simp; omega)) _)
   | some u =>
    obtain ⟨ku, nu, us⟩ := u
    have hid := idx_lt hat
    have hnn : noteS (.mk k n ks) notes xs = if validT (notes.getD (idxT (.mk k n ks) xs) default) = true then some (notes.getD (idxT (.mk k n ks) xs) default) else none := by rw [noteS, if_pos ⟨by rw [termAt, if_pos hv, hat]; rfl, hln⟩]
    rw [hnn]
    have hidx := pl_index (.mk k n ks) [] xs _ hat
    rw [List.nil_append] at hidx
    have hidx' := hide hidx
    have hpl : ∀ p, p ∈ plT allT [] (.mk k n ks) → p.length ≤ 1000000000 := fun p hp => by
     have := plT_paths allT (.mk k n ks) [] p hp
     rw [Tm.size] at this; simp at this; omega
    have hpl' := hide hpl
    have hplen := plT_le allT (.mk k n ks) []
    rw [Tm.size] at hplen
    have hIl : idxT (.mk k n ks) xs < notes.length := by rw [hln]; simp only [Tm.size] at hid; omega
    clear hidx hpl hid
    obtain ⟨I, hI⟩ : ∃ I, idxT (.mk k n ks) xs = I := ⟨_, rfl⟩
    rw [hI] at hIl ⊢
    have hI' := hide hI
    have hIl2 : (I : Int) < (notes.length : Int) := by omega
    obtain ⟨b5, off5, kd, nd, ksd, Ad, cd, rfl, hkd, n1, n2, n3, hld, hrd⟩ := hrB.at_ hIl
    have hgd : notes.getD I default = .mk kd nd ksd := by rw [← hkd]; simp [List.getD, List.getElem?_eq_getElem hIl]
    have hsd := sizes_le (List.getElem_mem hIl)
    rw [hkd, Tm.size] at hsd
    rw [hgd]
    have hat' := hide hat
    clear hat hv hln hI hnn hgd hkd
    cases hvd : validT (.mk kd nd ksd) with
    | false =>
     rw [if_neg Bool.false_ne_true]
     have hvd' := hide hvd
     clear hvd
     go_enter Try.func5, Try.ntmps5
     go_wp2_with (first | (go_at_call 8; refine (iTermValid_any kd nd ksd Ad cd _ (by omega) (hrd.below g5)).mono ?_; rw [hvd'.out]; rintro e w6 ⟨rfl, hb6⟩; have hB6 := (hB5).keep hb6; have hX6 := (hX5).keep hb6; have hT6 := (hT5).keep hb6; have g6 := g5.trans (hb6.mono g5.size); have l6 : w.heap.size + 1 + 1 < w6.heap.size := hT6.lt; clear p0 p1 p2 d0 d1 d2 e0 e1 e2 f0; obtain ⟨p0, p1, p2⟩ := hB6.three; obtain ⟨d0, d1, d2⟩ := hT6.three; have e0 := hT6.frozen 0; have e1 := hT6.frozen 1; have e2 := hT6.frozen 2; have f0 := hX6.at_ (i := 0) rfl; clear m1 m2 m3; have m1 := (Keeps.of_below g6) _ _ n1; have m2 := (Keeps.of_below g6) _ _ n2; have m3 := (Keeps.of_below g6) _ _ n3) | (go_at_call 16; refine (indexP_any (plT allT [] (.mk k n ks)) xs (idxT (.mk k n ks) xs) hidx'.out A4 P c4 cp (w.heap.size + 1) _ (by omega) hpl'.out (by omega) hP4 (hi.below g4) hX4).mono ?_; rw [hI'.out]; rintro e w5 ⟨rfl, hb5⟩; have hB5 := (hB4).keep hb5; have hX5 := (hX4).keep hb5; have hT5 := (hT4).keep hb5; have g5 := g4.trans (hb5.mono g4.size); have l5 : w.heap.size + 1 + 1 < w5.heap.size := hT5.lt; clear p0 p1 p2 d0 d1 d2 e0 e1 e2 f0; obtain ⟨p0, p1, p2⟩ := hB5.three; obtain ⟨d0, d1, d2⟩ := hT5.three; have e0 := hT5.frozen 0; have e1 := hT5.frozen 1; have e2 := hT5.frozen 2; have f0 := hX5.at_ (i := 0) rfl; have m1 := (Keeps.of_below g5) _ _ n1; have m2 := (Keeps.of_below g5) _ _ n2; have m3 := (Keeps.of_below g5) _ _ n3) | (go_at_call 17; refine (iPlacesOf_any k n ks A c _ hv'.out ((hr.below g3).alloc _)).mono ?_; rintro e w4 ⟨v4, rfl, hR4, hb4⟩; have hB4 := (hB3.alloc _).keep hb4; have hX4 := (hX3.alloc _).keep hb4; have hT4 := (hT3.alloc _).keep hb4; have g4 : Below w.heap.size w w4 := (g3.alloc g3.size _).trans (hb4.mono (by have := g3.size; simp; omega)); have l4 : w.heap.size + 1 + 1 < w4.heap.size := hT4.lt; obtain ⟨A4, c4, rfl, hP4⟩ := hR4.form; clear hR4; clear p0 p1 p2 d0 d1 d2 e0 e1 e2 f0; obtain ⟨p0, p1, p2⟩ := hB4.three; obtain ⟨d0, d1, d2⟩ := hT4.three; have e0 := hT4.frozen 0; have e1 := hT4.frozen 1; have e2 := hT4.frozen 2; have f0 := hX4.at_ (i := 0) rfl) | (go_at_call 15; refine (iWalked_any k n ks A c xs P cp _ (by omega) (by omega) (hr.below g2) (hi.below g2)).mono ?_; rw [hat'.out]; rintro e w3 ⟨hb3, Au, cu, vu, rfl, hlu, hru⟩; have hB3 := (hB2).keep hb3; have hX3 := (hX2).keep hb3; have hT3 := (hT2).keep hb3; have g3 := g2.trans (hb3.mono g2.size); have l3 : w.heap.size + 1 + 1 < w3.heap.size := hT3.lt; have la3 : w.heap.size < w3.heap.size := (by omega); have lb3 : w.heap.size + 1 < w3.heap.size := (by omega); clear p0 p1 p2 d0 d1 d2 e0 e1 e2 f0; obtain ⟨p0, p1, p2⟩ := hB3.three; obtain ⟨d0, d1, d2⟩ := hT3.three; have e0 := hT3.frozen 0; have e1 := hT3.frozen 1; have e2 := hT3.frozen 2; have f0 := hX3.at_ (i := 0) rfl) | (go_at_call 14; refine (iSize_any (sizes ks + 1) k n ks A c _ (by omega) (by omega) (hr.below g1)).mono ?_; rintro e w2 ⟨rfl, hb2⟩; have hB2 := (hB1).keep hb2; have hX2 := (hX1).keep hb2; have hT2 := (hT1).keep hb2; have g2 := g1.trans (hb2.mono g1.size); have l2 : w.heap.size + 1 + 1 < w2.heap.size := hT2.lt; clear p0 p1 p2 d0 d1 d2 e0 e1 e2 f0; obtain ⟨p0, p1, p2⟩ := hB2.three; obtain ⟨d0, d1, d2⟩ := hT2.three; have e0 := hT2.frozen 0; have e1 := hT2.frozen 1; have e2 := hT2.frozen 2; have f0 := hX2.at_ (i := 0) rfl) | (go_at_call 8; refine (iTermValid_any k n ks A c _ (by omega) (((hr.alloc _).alloc _).alloc _)).mono ?_; rw [hv'.out]; rintro e w1 ⟨rfl, hb1⟩; have hB1 : Blk w1 w.heap.size #[.int .i64 k, .int .i64 n, .slice A ks.length c] := (((Blk.new_ w 25 #[.int .i64 k, .int .i64 n, .slice A ks.length c] rfl).alloc _).alloc _).keep hb1; have hX1 : Blk w1 (w.heap.size + 1) #[.slice P xs.length cp] := ((Blk.new_ _ 26 _ (by simp)).alloc _).keep hb1; have hT1 : Blk w1 (w.heap.size + 1 + 1) #[.int .i64 0, .int .i64 0, .slice none 0 0] := (Blk.new_ _ 25 _ (by simp)).keep hb1; have g1 : Below w.heap.size w w1 := ((((Below.refl _ _).alloc (Nat.le_refl _) _).alloc (by simp) _).alloc (by simp; omega) _).trans (hb1.mono (by simp; omega)); have l1 : w.heap.size + 1 + 1 < w1.heap.size := hT1.lt; obtain ⟨p0, p1, p2⟩ := hB1.three; obtain ⟨d0, d1, d2⟩ := hT1.three; have e0 := hT1.frozen 0; have e1 := hT1.frozen 1; have e2 := hT1.frozen 2; have f0 := hX1.at_ (i := 0) rfl))
     have y := fun (o : Obj) => (((((hT6.set_ 0 (.int .i64 0)).set_ 1 (.int .i64 0)).set_ 2 (.slice none 0 0)).alloc o : Blk _ _ #[.int .i64 0, .int .i64 0, .slice none 0 0])).three
     refine bodyPost_ret (v := .tuple #[zeroV, .bool false]) (by simp [results, Try.results5, go_sem, d0, d1, d2, zeroV, y]) rfl ⟨rfl, ?_⟩
     first
      | exact ((g6.setCell (by first | omega | (simp; done) | (simp; omega)) _).setCell (by first | omega | (simp; done) | (simp; omega)) _).setCell (by first | omega | (simp; done) | (simp; omega)) _
      | exact (((g6.setCell (by first | omega | (simp; done) | (simp; omega)) _).setCell (by first | omega | (simp; done) | (simp; omega)) _).setCell (by first | omega | (simp; done) | (simp; omega)) _).alloc (by have := g6.size; first | omega | (simp; omega)) _
      | exact ((((g6.alloc g6.size _).setCell (by first | omega | (simp; done) | (simp; omega)) _).setCell (by first | omega | (simp; done) | (simp; omega)) _).setCell (by first | omega | (simp; done) | (simp; omega)) _)
    | true =>
     rw [if_pos rfl]
     have hvd' := hide hvd
     clear hvd
     go_enter Try.func5, Try.ntmps5
     go_wp2_with (first | (go_at_call 20; refine (own_any (sizes ksd + 1) kd nd ksd Ad cd _ (by omega) (by omega) (hrd.below g6)).mono ?_; rintro e w7 ⟨A7, c7, rfl, hl7, hf7, hb7⟩; have hB7 := (hB6).keep hb7; have hX7 := (hX6).keep hb7; have hT7 := (hT6).keep hb7; have g7 := g6.trans (hb7.mono g6.size); have l7 : w.heap.size + 1 + 1 < w7.heap.size := hT7.lt; clear p0 p1 p2 d0 d1 d2 e0 e1 e2 f0; obtain ⟨p0, p1, p2⟩ := hB7.three; obtain ⟨d0, d1, d2⟩ := hT7.three; have e0 := hT7.frozen 0; have e1 := hT7.frozen 1; have e2 := hT7.frozen 2; have f0 := hX7.at_ (i := 0) rfl) | (go_at_call 8; refine (iTermValid_any kd nd ksd Ad cd _ (by omega) (hrd.below g5)).mono ?_; rw [hvd'.out]; rintro e w6 ⟨rfl, hb6⟩; have hB6 := (hB5).keep hb6; have hX6 := (hX5).keep hb6; have hT6 := (hT5).keep hb6; have g6 := g5.trans (hb6.mono g5.size); have l6 : w.heap.size + 1 + 1 < w6.heap.size := hT6.lt; clear p0 p1 p2 d0 d1 d2 e0 e1 e2 f0; obtain ⟨p0, p1, p2⟩ := hB6.three; obtain ⟨d0, d1, d2⟩ := hT6.three; have e0 := hT6.frozen 0; have e1 := hT6.frozen 1; have e2 := hT6.frozen 2; have f0 := hX6.at_ (i := 0) rfl; clear m1 m2 m3; have m1 := (Keeps.of_below g6) _ _ n1; have m2 := (Keeps.of_below g6) _ _ n2; have m3 := (Keeps.of_below g6) _ _ n3) | (go_at_call 16; refine (indexP_any (plT allT [] (.mk k n ks)) xs (idxT (.mk k n ks) xs) hidx'.out A4 P c4 cp (w.heap.size + 1) _ (by omega) hpl'.out (by omega) hP4 (hi.below g4) hX4).mono ?_; rw [hI'.out]; rintro e w5 ⟨rfl, hb5⟩; have hB5 := (hB4).keep hb5; have hX5 := (hX4).keep hb5; have hT5 := (hT4).keep hb5; have g5 := g4.trans (hb5.mono g4.size); have l5 : w.heap.size + 1 + 1 < w5.heap.size := hT5.lt; clear p0 p1 p2 d0 d1 d2 e0 e1 e2 f0; obtain ⟨p0, p1, p2⟩ := hB5.three; obtain ⟨d0, d1, d2⟩ := hT5.three; have e0 := hT5.frozen 0; have e1 := hT5.frozen 1; have e2 := hT5.frozen 2; have f0 := hX5.at_ (i := 0) rfl; have m1 := (Keeps.of_below g5) _ _ n1; have m2 := (Keeps.of_below g5) _ _ n2; have m3 := (Keeps.of_below g5) _ _ n3) | (go_at_call 17; refine (iPlacesOf_any k n ks A c _ hv'.out ((hr.below g3).alloc _)).mono ?_; rintro e w4 ⟨v4, rfl, hR4, hb4⟩; have hB4 := (hB3.alloc _).keep hb4; have hX4 := (hX3.alloc _).keep hb4; have hT4 := (hT3.alloc _).keep hb4; have g4 : Below w.heap.size w w4 := (g3.alloc g3.size _).trans (hb4.mono (by have := g3.size; simp; omega)); have l4 : w.heap.size + 1 + 1 < w4.heap.size := hT4.lt; obtain ⟨A4, c4, rfl, hP4⟩ := hR4.form; clear hR4; clear p0 p1 p2 d0 d1 d2 e0 e1 e2 f0; obtain ⟨p0, p1, p2⟩ := hB4.three; obtain ⟨d0, d1, d2⟩ := hT4.three; have e0 := hT4.frozen 0; have e1 := hT4.frozen 1; have e2 := hT4.frozen 2; have f0 := hX4.at_ (i := 0) rfl) | (go_at_call 15; refine (iWalked_any k n ks A c xs P cp _ (by omega) (by omega) (hr.below g2) (hi.below g2)).mono ?_; rw [hat'.out]; rintro e w3 ⟨hb3, Au, cu, vu, rfl, hlu, hru⟩; have hB3 := (hB2).keep hb3; have hX3 := (hX2).keep hb3; have hT3 := (hT2).keep hb3; have g3 := g2.trans (hb3.mono g2.size); have l3 : w.heap.size + 1 + 1 < w3.heap.size := hT3.lt; have la3 : w.heap.size < w3.heap.size := (by omega); have lb3 : w.heap.size + 1 < w3.heap.size := (by omega); clear p0 p1 p2 d0 d1 d2 e0 e1 e2 f0; obtain ⟨p0, p1, p2⟩ := hB3.three; obtain ⟨d0, d1, d2⟩ := hT3.three; have e0 := hT3.frozen 0; have e1 := hT3.frozen 1; have e2 := hT3.frozen 2; have f0 := hX3.at_ (i := 0) rfl) | (go_at_call 14; refine (iSize_any (sizes ks + 1) k n ks A c _ (by omega) (by omega) (hr.below g1)).mono ?_; rintro e w2 ⟨rfl, hb2⟩; have hB2 := (hB1).keep hb2; have hX2 := (hX1).keep hb2; have hT2 := (hT1).keep hb2; have g2 := g1.trans (hb2.mono g1.size); have l2 : w.heap.size + 1 + 1 < w2.heap.size := hT2.lt; clear p0 p1 p2 d0 d1 d2 e0 e1 e2 f0; obtain ⟨p0, p1, p2⟩ := hB2.three; obtain ⟨d0, d1, d2⟩ := hT2.three; have e0 := hT2.frozen 0; have e1 := hT2.frozen 1; have e2 := hT2.frozen 2; have f0 := hX2.at_ (i := 0) rfl) | (go_at_call 8; refine (iTermValid_any k n ks A c _ (by omega) (((hr.alloc _).alloc _).alloc _)).mono ?_; rw [hv'.out]; rintro e w1 ⟨rfl, hb1⟩; have hB1 : Blk w1 w.heap.size #[.int .i64 k, .int .i64 n, .slice A ks.length c] := (((Blk.new_ w 25 #[.int .i64 k, .int .i64 n, .slice A ks.length c] rfl).alloc _).alloc _).keep hb1; have hX1 : Blk w1 (w.heap.size + 1) #[.slice P xs.length cp] := ((Blk.new_ _ 26 _ (by simp)).alloc _).keep hb1; have hT1 : Blk w1 (w.heap.size + 1 + 1) #[.int .i64 0, .int .i64 0, .slice none 0 0] := (Blk.new_ _ 25 _ (by simp)).keep hb1; have g1 : Below w.heap.size w w1 := ((((Below.refl _ _).alloc (Nat.le_refl _) _).alloc (by simp) _).alloc (by simp; omega) _).trans (hb1.mono (by simp; omega)); have l1 : w.heap.size + 1 + 1 < w1.heap.size := hT1.lt; obtain ⟨p0, p1, p2⟩ := hB1.three; obtain ⟨d0, d1, d2⟩ := hT1.three; have e0 := hT1.frozen 0; have e1 := hT1.frozen 1; have e2 := hT1.frozen 2; have f0 := hX1.at_ (i := 0) rfl))
     have y := fun (o : Obj) => (((((hT7.set_ 0 (.int .i64 kd)).set_ 1 (.int .i64 nd)).set_ 2 (.slice A7 ksd.length c7)).alloc o : Blk _ _ #[.int .i64 kd, .int .i64 nd, .slice A7 ksd.length c7])).three
     refine bodyPost_ret (v := .tuple #[.agg #[.int .i64 kd, .int .i64 nd, .slice A7 ksd.length c7], .bool true]) (by simp [results, Try.results5, go_sem, d0, d1, d2, y]) rfl ⟨A7, c7, rfl, hl7, ?_, ?_⟩
     ·exact (((hf7.setCell (by first | omega | (simp; done) | (simp; omega)) _).setCell (by first | omega | (simp; done) | (simp; omega)) _).setCell (by first | omega | (simp; done) | (simp; omega)) _).mono (by omega)
     ·exact ((g7.setCell (by first | omega | (simp; done) | (simp; omega)) _).setCell (by first | omega | (simp; done) | (simp; omega)) _).setCell (by first | omega | (simp; done) | (simp; omega)) _
  ·have q1 : ((notes.length : Int) != ((sizes ks + 1 : Nat) : Int)) = true := by simp; omega
   have q1b : ((notes.length : Int) != (sizes ks : Int) + 1) = true := by simp; omega
   have hz : noteS (.mk k n ks) notes xs = none := by rw [noteS, if_neg]; rintro ⟨-, h⟩; rw [Tm.size] at h; exact hln h
   rw [hz]
   clear hz hln hv
   go_enter Try.func5, Try.ntmps5
   go_wp2_with (first | (go_at_call 14; refine (iSize_any (sizes ks + 1) k n ks A c _ (by omega) (by omega) (hr.below g1)).mono ?_; rintro e w2 ⟨rfl, hb2⟩; have hB2 := (hB1).keep hb2; have hX2 := (hX1).keep hb2; have hT2 := (hT1).keep hb2; have g2 := g1.trans (hb2.mono g1.size); have l2 : w.heap.size + 1 + 1 < w2.heap.size := hT2.lt; clear p0 p1 p2 d0 d1 d2 e0 e1 e2 f0; obtain ⟨p0, p1, p2⟩ := hB2.three; obtain ⟨d0, d1, d2⟩ := hT2.three; have e0 := hT2.frozen 0; have e1 := hT2.frozen 1; have e2 := hT2.frozen 2; have f0 := hX2.at_ (i := 0) rfl) | (go_at_call 8; refine (iTermValid_any k n ks A c _ (by omega) (((hr.alloc _).alloc _).alloc _)).mono ?_; rw [hv'.out]; rintro e w1 ⟨rfl, hb1⟩; have hB1 : Blk w1 w.heap.size #[.int .i64 k, .int .i64 n, .slice A ks.length c] := (((Blk.new_ w 25 #[.int .i64 k, .int .i64 n, .slice A ks.length c] rfl).alloc _).alloc _).keep hb1; have hX1 : Blk w1 (w.heap.size + 1) #[.slice P xs.length cp] := ((Blk.new_ _ 26 _ (by simp)).alloc _).keep hb1; have hT1 : Blk w1 (w.heap.size + 1 + 1) #[.int .i64 0, .int .i64 0, .slice none 0 0] := (Blk.new_ _ 25 _ (by simp)).keep hb1; have g1 : Below w.heap.size w w1 := ((((Below.refl _ _).alloc (Nat.le_refl _) _).alloc (by simp) _).alloc (by simp; omega) _).trans (hb1.mono (by simp; omega)); have l1 : w.heap.size + 1 + 1 < w1.heap.size := hT1.lt; obtain ⟨p0, p1, p2⟩ := hB1.three; obtain ⟨d0, d1, d2⟩ := hT1.three; have e0 := hT1.frozen 0; have e1 := hT1.frozen 1; have e2 := hT1.frozen 2; have f0 := hX1.at_ (i := 0) rfl))
   have y := fun (o : Obj) => (((((hT2.set_ 0 (.int .i64 0)).set_ 1 (.int .i64 0)).set_ 2 (.slice none 0 0)).alloc o : Blk _ _ #[.int .i64 0, .int .i64 0, .slice none 0 0])).three
   refine bodyPost_ret (v := .tuple #[zeroV, .bool false]) (by simp [results, Try.results5, go_sem, d0, d1, d2, zeroV, y]) rfl ⟨rfl, ?_⟩
   first
    | exact ((g2.setCell (by first | omega | (simp; done) | (simp; omega)) _).setCell (by first | omega | (simp; done) | (simp; omega)) _).setCell (by first | omega | (simp; done) | (simp; omega)) _
    | exact (((g2.setCell (by first | omega | (simp; done) | (simp; omega)) _).setCell (by first | omega | (simp; done) | (simp; omega)) _).setCell (by first | omega | (simp; done) | (simp; omega)) _).alloc (by have := g2.size; first | omega | (simp; omega)) _
    | exact ((((g2.alloc g2.size _).setCell (by first | omega | (simp; done) | (simp; omega)) _).setCell (by first | omega | (simp; done) | (simp; omega)) _).setCell (by first | omega | (simp; done) | (simp; omega)) _)
end Go.Proofs.Ytddkehjdjfmhmaa
