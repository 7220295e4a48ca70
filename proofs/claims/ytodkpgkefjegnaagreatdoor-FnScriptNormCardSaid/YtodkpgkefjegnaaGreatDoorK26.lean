/-
  Contracts of the functions that the law reaches, and plain lemmas. No condition.
-/
import Derived.Test.YtodkpgkefjegnaaGreatDoorK1
import Derived.Test.YtodkpgkefjegnaaGreatDoorK14
import Derived.Test.YtodkpgkefjegnaaGreatDoorK16
import Derived.Test.YtodkpgkefjegnaaGreatDoorK20
import Derived.Test.YtodkpgkefjegnaaGreatDoorK22
import Derived.Test.YtodkpgkefjegnaaGreatDoorK23
import Derived.Test.YtodkpgkefjegnaaGreatDoorK25
import Derived.Test.YtodkpgkefjegnaaGreatDoorShelf
namespace Go.Proofs.YtodkpgkefjegnaaGreatDoor
set_option linter.unusedSimpArgs false
set_option linter.unusedVariables false
open Go.RowKit
set_option maxHeartbeats 2000000 in
set_option maxRecDepth 100000 in
theorem defsNil_any (c : Nat) (w : World) : Calls Tryz.prog 76 #[.slice none 0 c] w fun e w' => e = .returned (.bool true) ∧ Below w.heap.size w w' := by
  go_enter Tryz.func76, Tryz.ntmps76
  go_wp2_with fail
  go_loopw [7] (fun i wr => i = .int .i64 0 ∧ Below w.heap.size w wr) (fun i _ => (intOf i).toNat)
  case atStart => exact ⟨rfl, Below.refl _ _⟩
  case round =>
    obtain ⟨rfl, hb⟩ := hrel
    go_wp2_with fail
    go_ret
    exact ⟨rfl, hb⟩
set_option maxHeartbeats 2000000 in
set_option maxRecDepth 100000 in
theorem uses_any (k n : Int) (ks : List Tm) (A : Option Addr) (c c0 : Nat) (w : World) (hv : validT (.mk k n ks) = true) (hf : mfT (.mk k n ks) = 0) (hr : Rd w A 0 ks) :
    Calls Tryz.prog 154 #[.slice none 0 c0, .agg #[.int .i64 k, .int .i64 n, .slice A ks.length c]] w fun e w' => e = .returned (.bool true) ∧ Below w.heap.size w w' := by
  have hz := validT_size' hv
  have hvh := hide hv
  have hfh := hide hf
  clear hv hf
  go_enter Tryz.func154, Tryz.ntmps154
  go_wp2_with (first
    | (go_at_call 23; have _t := tok2; refine (maxFreeM_any k n ks A c _ hvh.out (hr.below g2)).mono ?_; rw [hfh.out]; rintro e w3 ⟨rfl, hb3⟩)
    | (go_at_call 20; have _t := tok1; refine (iTermValid_any k n ks A c _ (by omega) (hr.below g1)).mono ?_; rw [hvh.out]; rintro e w2 ⟨rfl, hb2⟩; have hX2 := hX.keep hb2; have g2 := g1.trans (hb2.mono g1.size); clear x0 x1 x2; obtain ⟨x0, x1, x2⟩ := hX2.three; have tok2 := trivial)
    | (go_at_call 76; refine (defsNil_any c0 _).mono ?_; rintro e w1 ⟨rfl, hb1⟩; have hX := (Blk.new_ w 25 #[.int .i64 k, .int .i64 n, .slice A ks.length c] rfl).keep hb1; have g1 : Below w.heap.size w w1 := ((Below.refl _ _).alloc (Nat.le_refl _) _).trans (hb1.mono (by simp)); obtain ⟨x0, x1, x2⟩ := hX.three; have tok1 := trivial))
  go_ret
  exact ⟨rfl, g2.trans (hb3.mono g2.size)⟩
set_option maxHeartbeats 2000000 in
set_option maxRecDepth 100000 in
theorem unfoldNil_any (k n : Int) (ks : List Tm) (A : Option Addr) (c c0 : Nat) (w : World) (hv : validT (.mk k n ks) = true) (hr : Rd w A 0 ks) :
    Calls Tryz.prog 113 #[.slice none 0 c0, .agg #[.int .i64 k, .int .i64 n, .slice A ks.length c]] w (GotPT w k n ks) := by
  have hz := validT_size' hv
  have hvh := hide hv
  clear hv
  go_enter Tryz.func113, Tryz.ntmps113
  go_wp2_with fail
  refine name_world ?_
  intro wz hwz
  have hX : Blk wz w.heap.size #[.int .i64 k, .int .i64 n, .slice A ks.length c] := by rw [hwz]; exact (Blk.new_ w 25 _ rfl).alloc _
  have hZ : Blk wz (w.heap.size + 1) #[.int .i64 0, .int .i64 0, .slice none 0 0] := by rw [hwz]; exact Blk.new_ _ 25 _ (by simp)
  have gz : Below w.heap.size w wz := by rw [hwz]; exact ((Below.refl _ _).alloc (Nat.le_refl _) _).alloc (by simp) _
  clear hwz
  go_loopw [6] (fun i wr => i = .int .i64 (-1) ∧ wr = wz) (fun i _ => (intOf i).toNat)
  case atStart => exact ⟨rfl, rfl⟩
  case round =>
    obtain ⟨rfl, rfl⟩ := hrel
    obtain ⟨x0, x1, x2⟩ := hX.three
    have lz := hZ.lt
    go_wp2_with (go_at_call 39; refine (own_any _ k n ks A c _ (Nat.lt_succ_self _) (by omega) (hr.below gz)).mono ?_; rintro e w1 ⟨A1, c1, rfl, hl1, hf1, hb1⟩; have hZ1 := hZ.keep hb1; have g1 := gz.trans (hb1.mono gz.size); obtain ⟨d0, d1, d2⟩ := hZ1.three; have e0 := hZ1.frozen 0; have e1 := hZ1.frozen 1; have e2 := hZ1.frozen 2)
    refine bodyPost_ret (v := .tuple #[.agg #[.int .i64 k, .int .i64 n, .slice A1 ks.length c1], .bool true]) (by simp [results, Tryz.results113, go_sem, d0, d1, d2]) rfl ⟨A1, c1, rfl, hl1, ?_, ((g1.setCell (by simp) _).setCell (by simp) _).setCell (by simp) _⟩
    exact (((hf1.setCell (by simp; omega) _).setCell (by simp; omega) _).setCell (by simp; omega) _).mono (by have := gz.size; omega)
set_option maxHeartbeats 2000000 in
set_option maxRecDepth 100000 in
theorem unfoldTerm_any (k n : Int) (ks : List Tm) (A : Option Addr) (c c0 : Nat) (w : World) (hv : validT (.mk k n ks) = true) (hf : mfT (.mk k n ks) = 0) (hr : Rd w A 0 ks) :
    Calls Tryz.prog 114 #[.slice none 0 c0, .agg #[.int .i64 k, .int .i64 n, .slice A ks.length c]] w (GotPT w k n ks) := by
  have hvh := hide hv
  have hfh := hide hf
  clear hv hf
  go_enter Tryz.func114, Tryz.ntmps114
  go_wp2_with (first
    | (go_at_call 113; have _t := tok1; refine (unfoldNil_any k n ks A c c0 _ hvh.out (hr.below g1)).mono ?_; rintro e w2 ⟨A2, c2, rfl, hl2, hf2, hb2⟩; have hZ2 := hZ.keep hb2; have g2 := g1.trans (hb2.mono g1.size); obtain ⟨d0, d1, d2⟩ := hZ2.three; have e0 := hZ2.frozen 0; have e1 := hZ2.frozen 1; have e2 := hZ2.frozen 2)
    | (go_at_call 154; refine (uses_any k n ks A c c0 _ hvh.out hfh.out ((hr.alloc _).alloc _)).mono ?_; rintro e w1 ⟨rfl, hb1⟩; have hX : Blk w1 w.heap.size #[.int .i64 k, .int .i64 n, .slice A ks.length c] := ((Blk.new_ w 25 _ rfl).alloc _).keep hb1; have hZ : Blk w1 (w.heap.size + 1) #[.int .i64 0, .int .i64 0, .slice none 0 0] := (Blk.new_ _ 25 _ (by simp)).keep hb1; have g1 : Below w.heap.size w w1 := (((Below.refl _ _).alloc (Nat.le_refl _) _).alloc (by simp) _).trans (hb1.mono (by simp; omega)); have lz := hZ.lt; obtain ⟨x0, x1, x2⟩ := hX.three; have tok1 := trivial))
  refine bodyPost_ret (v := .tuple #[.agg #[.int .i64 k, .int .i64 n, .slice A2 ks.length c2], .bool true]) (by simp [results, Tryz.results114, go_sem, d0, d1, d2]) rfl ⟨A2, c2, rfl, hl2, ?_, ((g2.setCell (by simp) _).setCell (by simp) _).setCell (by simp) _⟩
  exact (((hf2.setCell (by simp; omega) _).setCell (by simp; omega) _).setCell (by simp; omega) _).mono (by have := g1.size; omega)
open Go.RowKit
theorem pre_one {c b : UInt8} {l : List UInt8} (h : c ≠ b) : List.isPrefixOf [c] (b :: l) = false := by
  simp [List.isPrefixOf, h]
theorem index_one_at (c : UInt8) (rest : List UInt8) : ∀ l : List UInt8, c ∉ l → Lib.index (l ++ c :: rest) [c] = l.length
  | [], _ => by simp [Lib.index, List.isPrefixOf]
  | b :: l, h => by
    have hb : c ≠ b := fun e => h (by simp [e])
    have hl : c ∉ l := fun e => h (by simp [e])
    have h1 : ¬ (((l.length : Int) == -1) = true) := by simp
    rw [List.cons_append, Lib.index, index_one_at c rest l hl, pre_one hb, if_neg (by simp), if_neg h1, List.length_cons]
    omega
theorem byt_sz (b : List UInt8) : (byt b).size = b.length := by simp [byt, ByteArray.size]
theorem byt_eqv {a b : ByteArray} (h : a.data.toList = b.data.toList) : a = b := by
  cases a; cases b; simp only at h; congr; exact Array.toList_inj.1 h
theorem byt_front (l r : List UInt8) : (byt (l ++ r)).extract 0 l.length = byt l := by
  apply byt_eqv
  simp [byt, ByteArray.data_extract]
theorem byt_rest (l r : List UInt8) : (byt (l ++ r)).extract l.length (byt (l ++ r)).size = byt r := by
  apply byt_eqv
  rw [byt_sz]
  simp [byt, ByteArray.data_extract]
/-- a line and its end make two parts, the second one empty -/
theorem split_line {l : List UInt8} (h : (10 : UInt8) ∉ l) : Lib.countB (byt (l ++ [10])) (byt [10]) = 1 ∧ Lib.splitB (byt [10]) 0 1 (byt (l ++ [10])) = [byt l, byt []] := by
  have hi : Lib.indexB (byt (l ++ [10])) (byt [10]) = (l.length : Int) := by
    have := index_one_at 10 [] l h
    simpa [Lib.indexB, byt] using this
  have ht : (byt (l ++ [10])).extract (l.length + (byt [10]).size) (byt (l ++ [10])).size = byt [] := by
    have := byt_rest (l ++ [10]) []
    simp only [List.append_nil] at this
    rw [← this]
    simp [byt_sz]
  constructor
  · rw [Lib.countB_hit _ _ l.length (by simp [byt_sz]) hi, ht, Lib.countB_miss _ _ (by simp [Lib.indexB, byt, Lib.index])]
  · rw [Lib.splitB_hit _ _ _ _ l.length hi, Lib.splitB_zero, ht, Nat.add_zero, byt_front]
/-- a word and the rest of a line -/
theorem cut_word {l r : List UInt8} (h : (32 : UInt8) ∉ l) : Lib.cut (l ++ 32 :: r) [32] = (l, r, true) := by
  have hi := index_one_at 32 r l h
  rw [Lib.cut, hi, if_pos (by omega)]
  simp
theorem dec_digits {m : Nat} {c : UInt8} (h : m < 100) (hc : c ∈ Lib.decDigits m) : 48 ≤ c.toNat := by
  have hall : ∀ i : Fin 100, (Lib.decDigits i.val).all (fun c => decide (48 ≤ c.toNat)) = true := by decide +kernel
  exact of_decide_eq_true (List.all_eq_true.1 (hall ⟨m, h⟩) c hc)
theorem mem_rem : ∀ (xs ps : List (List UInt8)) (c : UInt8), c ∈ rem xs ps → (∃ x, x ∈ xs ∧ c ∈ x) ∨ ∃ p, p ∈ ps ∧ c ∈ p
  | [], ps, c, h => by rw [rem_nil] at h; cases h
  | x :: xs, [], c, h => by simp [rem] at h
  | x :: xs, p :: ps, c, h => by
    rw [rem, List.mem_append, List.mem_append] at h
    rcases h with h | h | h
    · exact .inl ⟨x, by simp, h⟩
    · exact .inr ⟨p, by simp, h⟩
    · rcases mem_rem xs ps c h with ⟨y, hy, hc⟩ | ⟨q, hq, hc⟩
      · exact .inl ⟨y, by simp [hy], hc⟩
      · exact .inr ⟨q, by simp [hq], hc⟩
/-- a text holds no line's end -/
theorem text_no10 : (∀ (t : Tm) (d : Nat), shape d t = true → (10 : UInt8) ∉ textT t) ∧
    (∀ (ts : List Tm) (d : Nat), (∀ t, t ∈ ts → shape d t = true) → ∀ x, x ∈ textL ts → (10 : UInt8) ∉ x) := by
  refine Tm.ind2 (fun k n ks ih d h => ?_) (fun d _ x hx => by simp [textL] at hx) (fun t ts h1 h2 d h x hx => ?_)
  · obtain ⟨d, rfl, ha, h0, hm, hk⟩ := shape_pos h
    have ihk := ih d hk
    have hk16 : 1 ≤ k ∧ k ≤ 16 := by have := kinds_of ha; omega
    obtain ⟨j, rfl⟩ := Int.eq_ofNat_of_zero_le (a := k) (by omega)
    rw [textT]
    by_cases hj : (j : Int) = 1 ∨ (j : Int) = 2
    · rw [if_pos hj, List.mem_append]
      rintro (h | h)
      · have h2 : j = 1 ∨ j = 2 := by omega
        rcases h2 with rfl | rfl <;> simp [shpX] at h
      · have hm20 : mostN (j : Int) ≤ 20 := by unfold mostN; repeat' split <;> omega
        have := dec_digits (m := n.toNat) (by omega) h
        exact absurd this (by decide)
    · rw [if_neg hj]
      have hall : ∀ i : Fin 17, (prt i.val).all (fun p => p.all (fun c => c != 10)) = true := by decide
      have hp := hall ⟨j, by omega⟩
      intro hc
      have key : (∃ x, x ∈ textL ks ∧ (10 : UInt8) ∈ x) ∨ ∃ p, p ∈ prt j ∧ (10 : UInt8) ∈ p := by
        have hjj : ((j : Int)).toNat = j := by omega
        rw [hjj] at hc
        cases hpj : prt j with
        | nil => rw [hpj, inter] at hc; cases hc
        | cons p ps =>
          rw [hpj, inter, List.mem_append] at hc
          rcases hc with hc | hc
          · exact .inr ⟨p, by simp, hc⟩
          · rcases mem_rem _ _ _ hc with h | ⟨q, hq, hc⟩
            · exact .inl h
            · exact .inr ⟨q, by simp [hq], hc⟩
      rcases key with ⟨x, hx, hc⟩ | ⟨p, hpp, hc⟩
      · exact ihk x hx hc
      · have := List.all_eq_true.1 (List.all_eq_true.1 hp p hpp) 10 hc
        simp at this
  · rw [textL] at hx
    rcases List.mem_cons.1 hx with rfl | hx
    · exact h1 d (h _ List.mem_cons_self)
    · exact h2 d (fun t ht => h t (List.mem_cons_of_mem _ ht)) x hx
theorem text_ne {t : Tm} {d : Nat} (h : shape d t = true) : textT t ≠ [] := by
  obtain ⟨k, n, ks⟩ := t
  obtain ⟨d, rfl, ha, h0, hm, hk⟩ := shape_pos h
  have hk16 : 1 ≤ k ∧ k ≤ 16 := by have := kinds_of ha; omega
  obtain ⟨j, rfl⟩ := Int.eq_ofNat_of_zero_le (a := k) (by omega)
  rw [textT]
  by_cases hj : (j : Int) = 1 ∨ (j : Int) = 2
  · rw [if_pos hj]
    have h2 : j = 1 ∨ j = 2 := by omega
    rcases h2 with rfl | rfl <;> simp [shpX]
  · rw [if_neg hj, show ((j : Int)).toNat = j from by omega]
    have hall : ∀ i : Fin 17, 3 ≤ i.val → ((prt i.val)[0]?.getD []).length ≠ 0 := by decide
    have hp := hall ⟨j, by omega⟩ (by show 3 ≤ j; omega)
    intro he
    cases hpj : prt j with
    | nil => rw [hpj] at hp; simp at hp
    | cons p ps =>
      rw [hpj] at hp he
      rw [inter] at he
      simp at he hp
      exact hp he.1
section
open Go.RowKit Go.Shelf
set_option maxHeartbeats 1000000 in
set_option maxRecDepth 100000 in
theorem bldCheck_fresh (b : Nat) (w : World) (h0 : w.cell? ⟨b, 0, none⟩ = some (.pointer none)) (hsh : w.shape? b = some (54, 2)) (hfz : w.frozen? ⟨b, 0, none⟩ = false) :
    Calls Tryz.prog 51 #[.pointer (some ⟨b, 0, none⟩)] w fun e w' => e = .returned (.tuple #[]) ∧ w' = w.setCell ⟨b, 0, none⟩ (.pointer (some ⟨b, 0, none⟩)) := by
  obtain ⟨j, hj, hjs⟩ := Option.map_eq_some_iff.1 Tryz.Builder_Extra_169.sizeBuilder
  go_enter Tryz.func51, Tryz.ntmps51
  go_wp2
  rw [Lib.run_to_unsafe w ⟨b, 0, none⟩ Tryz.underlying52 Tryz.underlying100 hj (by rw [hjs]; decide) hsh (Nat.zero_lt_succ 1)]
  simp only [Result.andThen]
  rw [Oper.upon_value]
  go_wp2
  rw [run_callFunc_extern Tryz.func74 (by kernel_rfl) (by kernel_rfl) (by kernel_rfl) (e := Extern.AbiNoEscape.same) (by kernel_rfl)]
  rw [Lib.run_noEscape]
  simp only [Result.andThen]
  rw [Oper.upon_value]
  go_wp2
  rw [Lib.run_from_unsafe w ⟨b, 0, none⟩ Tryz.underlying100 Tryz.underlying52 hj hsh Tryz.Builder_Extra_169.liesBuilder]
  simp only [Result.andThen]
  rw [Oper.upon_value]
  go_wp2
  go_end0
  exact ⟨rfl, rfl⟩
theorem bld_fresh {B b : Nat} {w : World} (hbk : w.heap[b]? = some (.cells #[.pointer none, .slice none 0 0] 54 (0, 0))) (hB : B ≤ b) : Lib.BuilderAt 54 5 B b (.pointer none) [] w :=
  ⟨hB, .slice none 0 0, hbk, ⟨by simp, .inl ⟨rfl, rfl⟩⟩, by simp [Value.ownBlock]⟩
set_option maxHeartbeats 2000000 in
set_option maxRecDepth 100000 in
theorem bldWrite_fresh (B b : Nat) (s : ByteArray) (w : World) (hbk : w.heap[b]? = some (.cells #[.pointer none, .slice none 0 0] 54 (0, 0))) (hB : B ≤ b) (hlen : s.size ≤ 140737488355328) (hBw : B ≤ w.heap.size) :
    Calls Tryz.prog 27 #[.pointer (some ⟨b, 0, none⟩), .string s] w fun e w' => (∃ v, e = .returned v) ∧ Lib.BuilderAt 54 5 B b (.pointer (some ⟨b, 0, none⟩)) (Lib.strCells s) w' ∧ w.grownBy w' (some b) := by
  obtain ⟨i0, hi, hz0, hz1, hz2⟩ := info_parts Tryz.Builder_Extra_169.infoByte
  have h := bld_fresh hbk hB
  have hC := fun (w : World) (h : Lib.BuilderAt 54 5 B b (.pointer none) [] w) => (bldCheck_fresh b w h.cell0 h.shape h.frozen0).mono fun e w' hh => show e = .returned (.tuple #[]) ∧ Lib.BuilderAt 54 5 B b (.pointer (some ⟨b, 0, none⟩)) [] w' ∧ w' = w.setCell ⟨b, 0, none⟩ (.pointer (some ⟨b, 0, none⟩)) from by
    obtain ⟨rfl, rfl⟩ := hh
    exact ⟨rfl, h.used _, rfl⟩
  have c1w : w.cell? ⟨b, 1, none⟩ = some (.slice none 0 0) := by rw [Lib.cell_of_heap hbk]; rfl
  go_enter Tryz.func27, Tryz.ntmps27
  go_wp2_with (go_at_call 51; refine (hC _ h).mono ?_)
  rintro e w1 ⟨rfl, h1, hw1⟩
  obtain ⟨_, v, hbk1, hown, hne⟩ := h1
  have c0 : w1.cell? ⟨b, 0, none⟩ = some (.pointer (some ⟨b, 0, none⟩)) := by rw [Lib.cell_of_heap hbk1]; rfl
  have c1 : w1.cell? ⟨b, 1, none⟩ = some v := by rw [Lib.cell_of_heap hbk1]; rfl
  have hv : v = .slice none 0 0 := by
    have e1 : w1.cell? ⟨b, 1, none⟩ = some (.slice none 0 0) := by
      rw [hw1, World.cell?_setCell_other w ⟨b, 0, none⟩ ⟨b, 1, none⟩ _ (fun e => by injection e with _ e; omega)]; exact c1w
    rw [c1] at e1; injection e1
  subst hv
  have gb1 : w.grownBy w1 (some b) := by rw [hw1]; exact ⟨rfl, rfl, rfl, by simp [World.setCell], fun k hk hne => Below.heap_setCell w ⟨b, 0, none⟩ _ k (fun e => hne (by rw [e]))⟩
  have s1 := gb1.size
  clear hw1
  go_wp2_with (at_builtin; refine Lib.wpList_append_own_string _ rfl _ _ 22 9 rfl B 5 i0 Tryz.underlying22 Tryz.underlying9 hi hz0 hz1 hz2 _ _ _ rfl hown s rfl ?c3 ?c4 ?c5 ?_)
  case c3 => unfold maxLen; simp; omega
  case c4 => simp; omega
  case c5 => omega
  intro v' w2 hown' hgrow _
  have hlt : b < w1.heap.size := by
    rcases Nat.lt_or_ge b w1.heap.size with h' | h'
    · exact h'
    · simp [Array.getElem?_eq_none h'] at hbk1
  have hb2 : w2.heap[b]? = some (.cells #[.pointer (some ⟨b, 0, none⟩), .slice none 0 0] 54 (0, 0)) := by
    rw [hgrow.block b hlt (fun e => hne e.symm)]
    exact hbk1
  have d0 : w2.cell? ⟨b, 0, none⟩ = some (.pointer (some ⟨b, 0, none⟩)) := by rw [Lib.cell_of_heap hb2]; rfl
  have d1 : w2.cell? ⟨b, 1, none⟩ = some (.slice none 0 0) := by rw [Lib.cell_of_heap hb2]; rfl
  have f1 : w2.frozen? ⟨b, 1, none⟩ = false := Lib.frozen_of_heap hb2 1
  have gb2 : w.grownBy w2 (some b) := ⟨hgrow.os.trans gb1.os, hgrow.tape.trans gb1.tape, hgrow.output.trans gb1.output, Nat.le_trans gb1.size hgrow.size, fun k hk hne => (hgrow.block k (by omega) (by simp [Value.ownBlock])).trans (gb1.block k hk hne)⟩
  obtain ⟨ao, n', cap, rfl⟩ : ∃ ao n' cap, v' = .slice ao n' cap := by
    rcases hown'.2 with ⟨hv, _⟩ | ⟨g, cap, cur, hv, _⟩
    · exact ⟨_, _, _, hv⟩
    · exact ⟨_, _, _, hv⟩
  go_wp2
  go_ret2
  refine ⟨⟨_, rfl⟩, ?_, ?_⟩
  · exact Lib.BuilderAt.put (T := 54) (e := 5) hB hb2 (bs' := Lib.strCells s) (by simpa [Lib.strCells_length] using hown') (by decide)
  · exact ⟨gb2.os, gb2.tape, gb2.output, by simpa [World.setCell] using gb2.size, fun k hk hne => (Below.heap_setCell w2 ⟨b, 1, none⟩ _ k (fun e => hne (by rw [e]))).trans (gb2.block k hk hne)⟩
end
open Go.RowKit
def nmB : List UInt8 := [110, 111, 114, 109]
theorem byt_toL (l : List UInt8) : (byt l).toList = l := by rw [ByteArray.toList_eq]; simp [byt]
set_option maxHeartbeats 8000000 in
set_option maxRecDepth 100000 in
theorem told0_any (wb tb : List UInt8) (w : World) (hl : tb.length ≤ 5000) : Calls Tryz.prog 81 #[.string (byt wb), .string (byt tb), .int .i64 0] w fun e w' => e = .returned (.string (byt (tb ++ [10]))) ∧ w = w' := by
  have a1 : ∀ w, (Op.stringOp .add (byt tb) ⟨#[10]⟩).run Tryz.prog w = .ok (.string (byt (tb ++ [10]))) w := fun w => add_strE (a := tb) (b := [10]) rfl (by simp; omega) w
  go_enter Tryz.func81, Tryz.ntmps81
  go_wp2_with fail
  go_ret
  exact ⟨rfl, rfl⟩
set_option maxHeartbeats 8000000 in
set_option maxRecDepth 100000 in
theorem toldN_any (wb tb : List UInt8) (c : Int) (w : World) (hw : wb.length ≤ 100) (h0 : 1 ≤ c) (h1 : c ≤ 9) : Calls Tryz.prog 81 #[.string (byt wb), .string (byt tb), .int .i64 c] w fun e w' => e = .returned (.string (byt (wb ++ [32] ++ dig c ++ [10]))) ∧ w = w' := by
  have hd : (dig c).length ≤ 2 := dig_len (by omega)
  obtain ⟨s1, h1'⟩ : ∃ s, s = wb ++ [32] := ⟨_, rfl⟩
  obtain ⟨s2, h2'⟩ : ∃ s, s = s1 ++ dig c := ⟨_, rfl⟩
  obtain ⟨s3, h3'⟩ : ∃ s, s = s2 ++ [10] := ⟨_, rfl⟩
  have hl1 : s1.length ≤ 101 := by rw [h1']; simp; omega
  have hl2 : s2.length ≤ 103 := by rw [h2']; simp; omega
  have a1 : ∀ w, (Op.stringOp .add (byt wb) ⟨#[32]⟩).run Tryz.prog w = .ok (.string (byt s1)) w := fun w => add_strE (a := wb) (b := [32]) h1' (by simp; omega) w
  have a2 : ∀ w, (Op.stringOp .add (byt s1) (byt (dig c))).run Tryz.prog w = .ok (.string (byt s2)) w := fun w => add_strE (a := s1) (b := dig c) h2' (by omega) w
  have a3 : ∀ w, (Op.stringOp .add (byt s2) ⟨#[10]⟩).run Tryz.prog w = .ok (.string (byt s3)) w := fun w => add_strE (a := s2) (b := [10]) h3' (by simp; omega) w
  rw [← h1', ← h2', ← h3']
  clear h1' h2' h3' hl1 hl2
  have q0 : (c != 0) = true := by simp; omega
  have q1 : (c == 0) = false := by simp; omega
  go_enter Tryz.func81, Tryz.ntmps81
  go_wp2_with (go_at_call 47; refine (itoaD_any (n := c) (by omega) (by omega) _).mono ?_; rintro e w8 ⟨rfl, rfl⟩)
  go_ret
  exact ⟨rfl, rfl⟩
set_option maxHeartbeats 8000000 in
set_option maxRecDepth 100000 in
theorem read_any (k n : Int) (ks : List Tm) (b : List UInt8) (x : Nat) (w : World) (hg : Tx 30 (.mk k n ks) b ∧ validT (.mk k n ks) = true ∧ b.length ≤ 4000) (hf : mfT (.mk k n ks) = 0) (hm : GM w) (hx : Blk w x #[.slice none 0 0]) :
    Calls Tryz.prog 82 #[.pointer (some ⟨x, 0, none⟩), .string (byt b)] w (GotPT w k n ks) := by
  have hvh := hide hg.2.1
  have hfh := hide hf
  have hmh := hide hm
  have hP := hide (fun (w : World) (hm : GM w) => (iParse_any hg w hm).mono fun e w' (h : GotP w (some (.mk k n ks)) e w') => show GotPT w k n ks e w' from by
    obtain ⟨k', n', ks', A, c, hk, he, hl, hf, hb⟩ := h
    injection hk with h1 h2 h3
    subst h1 h2 h3
    exact ⟨A, c, he, hl, hf, hb⟩)
  clear hg hf hm
  go_enter Tryz.func82, Tryz.ntmps82
  go_wp2_with (go_at_call 77; refine (hP.out _ (hmh.out.keep ((Below.refl _ _).alloc (Nat.le_refl _) _))).mono ?_; rintro e w1 ⟨A1, c1, rfl, hl1, hf1, hb1⟩; have hI := (hx.alloc (.cells #[.int .i64 0, .int .i64 0, .slice none 0 0] 25)).keep hb1; have hZ : Blk w1 w.heap.size #[.int .i64 0, .int .i64 0, .slice none 0 0] := (Blk.new_ w 25 _ rfl).keep hb1; have g1 : Below w.heap.size w w1 := ((Below.refl _ _).alloc (Nat.le_refl _) _).trans (hb1.mono (by simp)))
  refine name_world ?_
  intro wx hwx
  have hX : Blk wx w1.heap.size #[.int .i64 k, .int .i64 n, .slice A1 ks.length c1] := by rw [hwx]; exact Blk.new_ _ 25 _ rfl
  have hZx : Blk wx w.heap.size #[.int .i64 0, .int .i64 0, .slice none 0 0] := by rw [hwx]; exact hZ.alloc _
  have hIx : Blk wx x #[.slice none 0 0] := by rw [hwx]; exact hI.alloc _
  have gx : Below w.heap.size w wx := by rw [hwx]; exact g1.alloc g1.size _
  have r1x : Rd wx A1 0 ks := by rw [hwx]; exact hf1.rd.alloc _
  clear hwx
  have lz := hZx.lt
  have v0 := rule_of (hIx.at_ (i := 0) rfl)
  have u0 := rule_of hX.three.1
  have u1 := rule_of hX.three.2.1
  have u2 := rule_of hX.three.2.2
  obtain ⟨q0, hq0⟩ : ∃ q0, q0 = wx.drew := ⟨_, rfl⟩
  have bq0 : Below wx.heap.size wx q0 := by rw [hq0]; exact (Below.refl _ _).drew
  refine gC_start (fun w' => Below wx.heap.size wx w') [6, 7, 8, 9] 10 (by kernel_rfl) rfl ?_
  refine gC_take [0, 1, 2, 3, 4] (f := 5) (l' := #[true, true, true, true, true, false, false, false, false, false]) (lT := [_, _, _, _, _]) (by rw [← hq0]; exact bq0) rfl (by kernel_rfl) (by kernel_rfl) (by kernel_rfl) rfl (fun _ _ d _ _ h => by cases d <;> exact h) ?_
  repeat (first | ((refine takeY_skip (a' := ?_) ?_ ?_ ?_); (rotate_left); (· (simp [Region.wanted, yielded, Go.undef]; done)); (· (simp only [List.getElem_toArray, List.getElem_cons_zero, List.getElem_cons_succ, Act.put, List.setIfInBounds_toArray, List.set_cons_zero, List.set_cons_succ]; exact rfl))) | ((refine takeY_step (v := ?_) (a' := ?_) ?_ ?_ ?_ ?_); (rotate_left 2); (· (simp [Region.wanted, yielded, Go.undef]; done)); (· (intro w' hS'; go_simp; try (with_reducible rfl))); (· (simp only [List.getElem_toArray, List.getElem_cons_zero, List.getElem_cons_succ, Act.put, List.setIfInBounds_toArray, List.set_cons_zero, List.set_cons_succ]; exact rfl))))
  refine takeY_nil ?_
  rw [← hq0]
  clear hq0
  refine gC_one (i := 5) (by kernel_rfl) rfl ?_
  · go_wp2_with (go_at_call 114; refine (unfoldTerm_any k n ks A1 c1 0 _ hvh.out hfh.out (r1x.below bq0)).mono ?_; rintro e q1 ⟨A7, c7, rfl, hl7, hfq1, hbq1⟩)
    have bq1 : Below wx.heap.size wx q1 := bq0.trans (hbq1.mono bq0.size)
    have lq1 := hbq1.size
    refine mid_intro bq1 ?_
    refine gC_takeT [6, 7] (f := 2) (l' := #[true, true, true, true, true, true, true, true, false, false]) (lT := [_, _]) rfl (by kernel_rfl) (by kernel_rfl) (by kernel_rfl) rfl (fun _ _ d _ _ h => by cases d <;> exact h) ?_
    repeat (first | ((refine takeY_skip (a' := ?_) ?_ ?_ ?_); (rotate_left); (· (simp [Region.wanted, yielded, Go.undef]; done)); (· (simp only [List.getElem_toArray, List.getElem_cons_zero, List.getElem_cons_succ, Act.put, List.setIfInBounds_toArray, List.set_cons_zero, List.set_cons_succ]; exact rfl))) | ((refine takeY_step (v := ?_) (a' := ?_) ?_ ?_ ?_ ?_); (rotate_left 2); (· (simp [Region.wanted, yielded, Go.undef]; done)); (· (intro w' hS'; go_simp; try (with_reducible rfl))); (· (simp only [List.getElem_toArray, List.getElem_cons_zero, List.getElem_cons_succ, Act.put, List.setIfInBounds_toArray, List.set_cons_zero, List.set_cons_succ]; exact rfl))))
    refine takeY_nil ?_
    refine gC_end [8, 9] (lB := [_, _]) (by simp) (by kernel_rfl) (by kernel_rfl) rfl ?_
    have hZ2 := hZx.keep bq1
    obtain ⟨d0, d1, d2⟩ := hZ2.three
    have e0 := hZ2.frozen 0
    have e1 := hZ2.frozen 1
    have e2 := hZ2.frozen 2
    have gf := gx.trans (bq1.mono gx.size)
    have sx := gx.size
    go_wp2_with fail
    refine bodyPost_ret (v := .tuple #[.agg #[.int .i64 k, .int .i64 n, .slice A7 ks.length c7], .bool true]) (by simp [results, Tryz.results82, go_sem, d0, d1, d2]) rfl ⟨A7, c7, rfl, hl7, ?_, ?_⟩
    · exact ((((hfq1.mono (by have := bq0.size; omega)).setCell (by simp; omega) _).setCell (by simp; omega) _).setCell (by simp; omega) _).mono (by omega)
    · exact ((gf.setCell (by simp) _).setCell (by simp) _).setCell (by simp) _
/-- what the line answers -/
def outB (R : Option Tm × Int) : List UInt8 := if R.2 = 0 then fmtT (R.1.getD (.mk 0 0 [])) ++ [10] else nmB ++ [32] ++ dig R.2 ++ [10]
theorem fmt_le (t : Tm) : (fmtT t).length ≤ 2400 := by
  rw [fmtT]
  split
  · exact text_le (by assumption)
  · simp
theorem red_code {find : Tm → Option (List Int)} : ∀ (f : Nat) (t : Tm), 0 ≤ (redI find f t).2 ∧ (redI find f t).2 ≤ 2
  | f, t => by
    rw [redI]
    split
    · simp
    · split
      · simp
      · split
        · simp
        · exact red_code _ _
theorem nrm_code (t : Tm) : 0 ≤ (nrmR t).2 ∧ (nrmR t).2 ≤ 3 := by
  unfold nrmR
  split
  · have := red_code (find := outP) 200 t; omega
  · simp
theorem nrm_size {t : Tm} {k n : Int} {ks : List Tm} (h : (nrmR t).1.getD (.mk 0 0 []) = .mk k n ks) : sizes ks ≤ 400 := by
  unfold nrmR at h
  split at h
  · rename_i hv
    cases ho : (redI outP 200 t).1 with
    | none => rw [ho] at h; injection h with _ _ h; subst h; simp [sizes]
    | some x =>
      rw [ho, Option.getD_some] at h
      subst h
      exact validT_size' (redI_valid 200 _ _ (redI outP 200 t).2 hv (Prod.ext ho rfl))
  · injection h with _ _ h; subst h; simp [sizes]
theorem gotM_rd {w : World} {r : Option Tm × Int} {e : Ending} {w' : World} (h : GotM w r e w') {k n c : Int} {ks : List Tm} (h1 : r.1.getD (.mk 0 0 []) = .mk k n ks) (h2 : r.2 = c) :
    ∃ A d, e = .returned (.tuple #[.agg #[.int .i64 k, .int .i64 n, .slice A ks.length d], .int .i64 c]) ∧ Rd w' A 0 ks ∧ Below w.heap.size w w' := by
  obtain ⟨k1, n1, ks1, A, d, hk, rfl, hl, hr, hb⟩ := h
  rw [h1] at hk
  injection hk with a1 a2 a3
  subst a1 a2 a3 h2
  exact ⟨A, d, rfl, hr.rd, hb⟩
set_option maxHeartbeats 8000000 in
set_option maxRecDepth 100000 in
theorem one_any (k n : Int) (ks : List Tm) (b : List UInt8) (x : Nat) (w : World) (hg : Tx 30 (.mk k n ks) b ∧ validT (.mk k n ks) = true ∧ b.length ≤ 4000) (hf : mfT (.mk k n ks) = 0) (hm : GM w) (hx : Blk w x #[.slice none 0 0]) :
    Calls Tryz.prog 56 #[.pointer (some ⟨x, 0, none⟩), .string (byt nmB), .string (byt b)] w fun e w' => e = .returned (.string (byt (outB (nrmR (.mk k n ks))))) ∧ Below w.heap.size w w' := by
  obtain ⟨k5, n5, ks5, h5⟩ : ∃ k5 n5 ks5, (nrmR (.mk k n ks)).1.getD (.mk 0 0 []) = .mk k5 n5 ks5 := by cases h : (nrmR (.mk k n ks)).1.getD (.mk 0 0 []); exact ⟨_, _, _, rfl⟩
  have hz5 := nrm_size h5
  have hcc := nrm_code (.mk k n ks)
  obtain ⟨cd, hcd⟩ : ∃ z, (nrmR (.mk k n ks)).2 = z := ⟨_, rfl⟩
  have hzv := validT_size' hg.2.1
  have hN := hide (fun (A : Option Addr) (c : Nat) (w : World) (hr : Rd w A 0 ks) => (iNormalize_any k n ks A c w (by omega) hr).mono fun e w' hgo => gotM_rd hgo h5 hcd)
  have hR := hide (fun (w : World) (hm : GM w) (hx : Blk w x #[.slice none 0 0]) => read_any k n ks b x w hg hf hm hx)
  have hmh := hide hm
  have hfl := hide (show (fmtT (.mk k5 n5 ks5)).length ≤ 5000 by have := fmt_le (.mk k5 n5 ks5); omega)
  have qt : ((byt nmB).toList == [116, 121, 112, 101]) = false := by rw [byt_toL]; decide
  have qn : ((byt nmB).toList == [110, 111, 114, 109]) = true := by rw [byt_toL]; decide
  rw [outB, h5, hcd]
  rw [hcd] at hcc
  clear hg hf hm h5 hcd
  by_cases hc0 : cd = 0
  · subst hc0
    rw [if_pos rfl]
    go_enter Tryz.func56, Tryz.ntmps56
    go_wp2_with (first
      | (go_at_call 81; have _t := tok3; refine name_callsN ?_; intro wb hwb; subst hwb; refine (told0_any nmB (fmtT (.mk k5 n5 ks5)) _ hfl.out).mono ?_; rintro e w4 ⟨rfl, rfl⟩)
      | (go_at_call 7; have _t := tok2; refine name_callsN ?_; intro wa hwa; have hX2 : Blk wa w2.heap.size #[.int .i64 k5, .int .i64 n5, .slice A5 ks5.length c5] := (by rw [hwa]; exact Blk.new_ _ 25 _ rfl); have ka : Below w2.heap.size w2 wa := (by rw [hwa]; exact (Below.refl _ _).alloc (Nat.le_refl _) _); clear hwa; have ga := g2.trans (ka.mono g2.size); refine (iFormat_any k5 n5 ks5 A5 c5 _ (by omega) (hmh.out.keep ga) (r5.below ka)).mono ?_; rintro e w3 ⟨rfl, hb3⟩; have hX3 := hX2.keep hb3; have g3 := ga.trans (hb3.mono ga.size); clear x0 x1 x2; obtain ⟨x0, x1, x2⟩ := hX3.three; have tok3 := trivial)
      | (go_at_call 5; have _t := tok1; refine name_callsN ?_; intro wa hwa; have hX1 : Blk wa w1.heap.size #[.int .i64 k, .int .i64 n, .slice A1 ks.length c1] := (by rw [hwa]; exact Blk.new_ _ 25 _ rfl); have ka : Below w1.heap.size w1 wa := (by rw [hwa]; exact (Below.refl _ _).alloc (Nat.le_refl _) _); clear hwa; have ga := g1.trans (ka.mono g1.size); refine (hN.out A1 c1 _ (r1.below ka)).mono ?_; rintro e w2 ⟨A5, c5, rfl, r5, hb2⟩; have hX2' := hX1.keep hb2; have g2 := ga.trans (hb2.mono ga.size); obtain ⟨x0, x1, x2⟩ := hX2'.three; have tok2 := trivial)
      | (go_at_call 82; refine (hR.out _ hmh.out hx).mono ?_; rintro e w1 ⟨A1, c1, rfl, hl1, hf1, hb1⟩; have r1 := hf1.rd; have g1 := hb1; have tok1 := trivial))
    go_ret
    exact ⟨rfl, g3⟩
  · rw [if_neg hc0]
    have q0 : (cd != 0) = true := by simpa using hc0
    have hc1 : 1 ≤ cd ∧ cd ≤ 9 := by omega
    go_enter Tryz.func56, Tryz.ntmps56
    go_wp2_with (first
      | (go_at_call 81; have _t := tok3; refine name_callsN ?_; intro wb hwb; subst hwb; refine (toldN_any nmB (fmtT (.mk k5 n5 ks5)) cd _ (by decide) (by omega) (by omega)).mono ?_; rintro e w4 ⟨rfl, rfl⟩)
      | (go_at_call 7; have _t := tok2; refine name_callsN ?_; intro wa hwa; have hX2 : Blk wa w2.heap.size #[.int .i64 k5, .int .i64 n5, .slice A5 ks5.length c5] := (by rw [hwa]; exact Blk.new_ _ 25 _ rfl); have ka : Below w2.heap.size w2 wa := (by rw [hwa]; exact (Below.refl _ _).alloc (Nat.le_refl _) _); clear hwa; have ga := g2.trans (ka.mono g2.size); refine (iFormat_any k5 n5 ks5 A5 c5 _ (by omega) (hmh.out.keep ga) (r5.below ka)).mono ?_; rintro e w3 ⟨rfl, hb3⟩; have hX3 := hX2.keep hb3; have g3 := ga.trans (hb3.mono ga.size); clear x0 x1 x2; obtain ⟨x0, x1, x2⟩ := hX3.three; have tok3 := trivial)
      | (go_at_call 5; have _t := tok1; refine name_callsN ?_; intro wa hwa; have hX1 : Blk wa w1.heap.size #[.int .i64 k, .int .i64 n, .slice A1 ks.length c1] := (by rw [hwa]; exact Blk.new_ _ 25 _ rfl); have ka : Below w1.heap.size w1 wa := (by rw [hwa]; exact (Below.refl _ _).alloc (Nat.le_refl _) _); clear hwa; have ga := g1.trans (ka.mono g1.size); refine (hN.out A1 c1 _ (r1.below ka)).mono ?_; rintro e w2 ⟨A5, c5, rfl, r5, hb2⟩; have hX2' := hX1.keep hb2; have g2 := ga.trans (hb2.mono ga.size); obtain ⟨x0, x1, x2⟩ := hX2'.three; have tok2 := trivial)
      | (go_at_call 82; refine (hR.out _ hmh.out hx).mono ?_; rintro e w1 ⟨A1, c1, rfl, hl1, hf1, hb1⟩; have r1 := hf1.rd; have g1 := hb1; have tok1 := trivial))
    go_ret
    exact ⟨rfl, g3⟩
theorem below_drew {w : World} (n : Nat) : Below w.heap.size w (w.drewN n) := below_drewN (Below.refl _ _) n
set_option maxHeartbeats 8000000 in
set_option maxRecDepth 100000 in
theorem line_any (k n : Int) (ks : List Tm) (b : List UInt8) (x : Nat) (w : World) (hg : Tx 30 (.mk k n ks) b ∧ validT (.mk k n ks) = true ∧ b.length ≤ 4000) (hf : mfT (.mk k n ks) = 0) (hm : GM w) (hx : Blk w x #[.slice none 0 0]) :
    Calls Tryz.prog 28 #[.pointer (some ⟨x, 0, none⟩), .string (byt (nmB ++ 32 :: b))] w fun e w' => e = .returned (.string (byt (outB (nrmR (.mk k n ks))))) ∧ Below w.heap.size w w' := by
  have hO := hide (fun (w : World) (hm : GM w) (hx : Blk w x #[.slice none 0 0]) => one_any k n ks b x w hg hf hm hx)
  have hl4 := hg.2.2
  have hC := hide (fun (w : World) (hm : GM w) => (show Calls Tryz.prog 52 #[.string (byt (nmB ++ 32 :: b)), .string ⟨#[32]⟩] w fun e w' => e = .returned (.tuple #[.string (byt nmB), .string (byt b), .bool true]) ∧ Below w.heap.size w w' from by
    obtain ⟨m, hmm⟩ := hm
    refine (Tryz.strings_Cut (byt (nmB ++ 32 :: b)) ⟨#[32]⟩ m w (by rw [byt_sz]; simp [nmB]; omega) hmm).mono ?_
    rintro e w' ⟨rfl, q, rfl⟩
    have hcut : Lib.cut (byt (nmB ++ 32 :: b)).data.toList (⟨#[32]⟩ : ByteArray).data.toList = (nmB, b, true) := by
      have := cut_word (l := nmB) (r := b) (by decide)
      simpa [byt] using this
    rw [hcut]
    exact ⟨rfl, below_drew q⟩))
  have hmh := hide hm
  have qs : ((byt (nmB ++ 32 :: b)).toList == [115, 104, 111, 119]) = false := by rw [byt_toL]; simp [nmB]
  have qd : ((byt nmB).toList == [100, 101, 102]) = false := by rw [byt_toL]; decide
  have qm : ((byt nmB).toList == [115, 97, 109, 101]) = false := by rw [byt_toL]; decide
  have qk : ((byt nmB).toList == [99, 104, 101, 99, 107]) = false := by rw [byt_toL]; decide
  clear hg hf hm
  go_enter Tryz.func28, Tryz.ntmps28
  go_wp2_with (first
    | (go_at_call 56; have _t := tok1; refine (hO.out _ (hmh.out.keep hb1) (hx.keep hb1)).mono ?_; rintro e w2 ⟨rfl, hb2⟩)
    | (go_at_call 52; refine (hC.out _ hmh.out).mono ?_; rintro e w1 ⟨rfl, hb1⟩; have tok1 := trivial))
  go_ret
  exact ⟨rfl, hb1.trans (hb2.mono hb1.size)⟩
open Go.RowKit
theorem out_le (t : Tm) : (outB (nrmR t)).length ≤ 2500 := by
  have h := nrm_code t
  unfold outB
  split
  · have := fmt_le ((nrmR t).1.getD (.mk 0 0 [])); simp; omega
  · have := dig_len (n := (nrmR t).2) (by omega); simp [nmB]; omega
theorem below_grownB {B r : Nat} {w w' : World} (h : w.grownBy w' (some r)) (hB : B ≤ w.heap.size) (hr : B ≤ r) : Below B w w' := ⟨h.os, h.tape, h.output, h.size, fun k hk => h.block k (by omega) (fun e => by injection e; omega)⟩
set_option maxHeartbeats 8000000 in
set_option maxRecDepth 100000 in
theorem run_any (k n : Int) (ks : List Tm) (b : List UInt8) (w : World) (hg : Tx 30 (.mk k n ks) b ∧ validT (.mk k n ks) = true ∧ b.length ≤ 4000) (h10 : (10 : UInt8) ∉ b) (hf : mfT (.mk k n ks) = 0) (hm : GM w) :
    Calls Tryz.prog 10 #[.string (byt (nmB ++ 32 :: b ++ [10]))] w fun e w' => e = .returned (.string (byt (outB (nrmR (.mk k n ks))))) ∧ Below w.heap.size w w' := by
  have hl4 := hg.2.2
  obtain ⟨s, hs⟩ : ∃ s, s = nmB ++ 32 :: b := ⟨_, rfl⟩
  have hsl : 0 < s.length ∧ s.length ≤ 4010 := by rw [hs]; simp [nmB]; omega
  have hs10 : (10 : UInt8) ∉ s := by rw [hs]; simp [nmB]; exact h10
  have hL := hide (fun (x : Nat) (w : World) (hm : GM w) (hx : Blk w x #[.slice none 0 0]) => by have := line_any k n ks b x w hg hf hm hx; rwa [← hs] at this)
  rw [← hs]
  have hq := split_line hs10
  obtain ⟨z, hz⟩ : ∃ z, z = byt (s ++ [10]) := ⟨_, rfl⟩
  have hzs : z.size = s.length + 1 := by rw [hz, byt_sz]; simp
  have hSp := hide (fun (w : World) (hm : GM w) => (show Calls Tryz.prog 24 #[.string z, .string ⟨#[10]⟩] w fun e w' => e = .returned (.slice (some ⟨w.heap.size, 0, none⟩) 2 2) ∧ Blk w' w.heap.size #[.string (byt s), .string (byt [])] ∧ Below w.heap.size w w' from by
    obtain ⟨m, hmm⟩ := hm
    refine (Tryz.strings_Split z ⟨#[10]⟩ m w (by omega) hmm (by decide)).mono ?_
    rintro e w' ⟨rfl, rfl⟩
    rw [hz, show (⟨#[10]⟩ : ByteArray) = byt [10] from rfl, hq.1, hq.2]
    exact ⟨rfl, Blk.new_ _ 9 _ rfl, (Below.refl _ _).alloc (Nat.le_refl _) _⟩))
  have hO := out_le (.mk k n ks)
  generalize outB (nrmR (.mk k n ks)) = ob at hL hO ⊢
  rw [← hz]
  have qz : decide (20000 < (z.size : Int)) = false := by simp; omega
  have qe : ((byt s).toList == []) = false := by rw [byt_toL]; cases s with | nil => simp at hsl | cons a l => rfl
  have qe2 : (byt s).toList.isEmpty = false := by rw [byt_toL]; cases s with | nil => simp at hsl | cons a l => rfl
  have q0 : ((byt []).toList == []) = true ∧ (byt []).toList.isEmpty = true := by rw [byt_toL]; exact ⟨rfl, rfl⟩
  obtain ⟨q1, q2⟩ := q0
  have hmh := hide hm
  clear hg h10 hf hm hs hs10 hq hz
  go_enter Tryz.func10, Tryz.ntmps10
  go_wp2_with (go_at_call 24; refine name_callsN ?_; intro wa hwa; have hI : Blk wa w.heap.size #[.slice none 0 0] := (by rw [hwa]; exact (Blk.new_ _ 51 _ rfl).alloc _); have hU : wa.heap[w.heap.size + 1]? = some (.cells #[.pointer none, .slice none 0 0] 54 (0, 0)) := (by rw [hwa]; simpa using heap_alloc_new (w.alloc (.cells #[.slice none 0 0] 51)) (.cells #[.pointer none, .slice none 0 0] 54)); have ga : Below w.heap.size w wa := (by rw [hwa]; exact ((Below.refl _ _).alloc (Nat.le_refl _) _).alloc (by simp) _); have sa : wa.heap.size = w.heap.size + 2 := (by rw [hwa]; simp); clear hwa; refine (hSp.out _ (hmh.out.keep ga)).mono ?_; rintro e w1 ⟨rfl, hP, hb1⟩; replace hI := hI.keep hb1; replace hU := (hb1.block (w.heap.size + 1) (by omega)).trans hU; have g1 := ga.trans (hb1.mono ga.size); have s1 := hb1.size; have sx : w.heap.size + 1 < wa.heap.size := (by omega); clear sa)
  go_loopw [15] (fun i wr => ∃ j : Nat, j ≤ 2 ∧ i = .int .i64 j ∧ Blk wr wa.heap.size #[.string (byt s), .string (byt [])] ∧ Hid (j = 0 → Blk wr w.heap.size #[.slice none 0 0] ∧ wr.heap[w.heap.size + 1]? = some (.cells #[.pointer none, .slice none 0 0] 54 (0, 0))) ∧ Hid (1 ≤ j → Lib.BuilderAt 54 5 w.heap.size (w.heap.size + 1) (.pointer (some ⟨w.heap.size + 1, 0, none⟩)) (Lib.byteCells ob) wr) ∧ Below w.heap.size w wr) (fun i _ => 2 - (intOf i).toNat)
  case atStart => exact ⟨0, by omega, rfl, hP, hide (fun _ => ⟨hI, hU⟩), hide (fun h => absurd h (by omega)), g1⟩
  case round =>
    clear hP hI hU g1
    obtain ⟨j, hj, rfl, hP, hI, hB, hb⟩ := hrel
    have p0 : wr.cell? ⟨wa.heap.size, 0, none⟩ = some (.string (byt s)) := hP.at_ (i := 0) rfl
    have p1 : wr.cell? ⟨wa.heap.size, 1, none⟩ = some (.string (byt [])) := hP.at_ (i := 1) rfl
    by_cases h0 : j = 0
    · subst h0
      obtain ⟨hI0, hU0⟩ := hI.out rfl
      go_wp2_with (first
        | (go_at_call 27; have _t := tok2; refine (bldWrite_fresh w.heap.size (w.heap.size + 1) (byt ob) _ hU2 (by omega) (by rw [byt_sz]; omega) (by have := hb2.size; have := hb.size; omega)).mono ?_; rintro e w3 ⟨⟨v, rfl⟩, hB3, hg3⟩)
        | (go_at_call 28; have _t := tok1; refine (hL.out w.heap.size _ (hmh.out.keep hb) hI0).mono ?_; rintro e w2 ⟨rfl, hb2⟩; have hU2 := (hb2.block (w.heap.size + 1) (by have := hP.lt; omega)).trans hU0; have tok2 := trivial)
        | (go_at_call 25; refine (Tryz.Builder_Len w.heap.size (w.heap.size + 1) [] _ (.inl (bld_fresh hU0 (by omega)))).mono ?_; rintro e w1' ⟨rfl, rfl⟩; have tok1 := trivial))
      have sz2 := hb2.size
      have hlt := hP.lt
      go_roundw
      case rel => exact ⟨1, by omega, by go_num, (hP.keep hb2).grown hg3 (fun e => by injection e with e; omega), hide (fun h => absurd h (by omega)), hide (fun _ => by rw [← byt_list ob]; exact hB3), hb.trans ((hb2.mono hb.size).trans (below_grownB hg3 (by have := hb.size; omega) (by omega)))⟩
      case measure => simp [intOf]
    · by_cases h1 : j = 1
      · subst h1
        go_wp2_with fail
        go_roundw
        case rel => exact ⟨2, by omega, by go_num, hP, hide (fun h => absurd h (by omega)), hide (fun _ => hB.out (by omega)), hb⟩
        case measure => simp [intOf]
      · obtain rfl : j = 2 := by omega
        go_wp2_with (go_at_call 26; refine (Tryz.Builder_String_any w.heap.size (w.heap.size + 1) ob _ (.inr (hB.out (by omega))) (by have := hb.size; omega)).mono ?_; rintro e w3 ⟨rfl, hb3⟩)
        go_ret
        exact ⟨rfl, hb.trans hb3⟩
end Go.Proofs.YtodkpgkefjegnaaGreatDoor
