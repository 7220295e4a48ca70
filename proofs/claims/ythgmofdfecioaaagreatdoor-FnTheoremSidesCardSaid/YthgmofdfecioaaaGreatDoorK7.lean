/-
  Texts of this claim, merged: contracts of the functions that the law reaches. No condition.
-/
import Derived.Test.YthgmofdfecioaaaGreatDoorK1
import Derived.Test.YthgmofdfecioaaaGreatDoorK2
import Derived.Test.YthgmofdfecioaaaGreatDoorK5
import Derived.Test.YthgmofdfecioaaaGreatDoorK6
import Derived.WalkSpells
import Derived.WalkLawsBesides

namespace Go.Proofs.YthgmofdfecioaaaGreatDoor
open Go.RowKit
set_option linter.unusedSimpArgs false
set_option linter.unusedVariables false

/-- numbers that memory holds, in one row -/
def PathX (w : World) (A : Option Addr) (xs : List Int) : Prop :=
  0 < xs.length → ∃ b off, A = some ⟨b, off, none⟩ ∧ ∀ (i : Nat) (u : Value), (xs.map (Value.int .i64))[i]? = some u → w.cell? ⟨b, off + i, none⟩ = some u
theorem PathX.nil {w : World} {A : Option Addr} : PathX w A [] := fun h => absurd h (Nat.lt_irrefl _)
theorem PathX.alloc {w : World} {A : Option Addr} {xs : List Int} (h : PathX w A xs) (o : Obj) : PathX (w.alloc o) A xs := by
  intro hm
  obtain ⟨b, off, h3, h4⟩ := h hm
  exact ⟨b, off, h3, fun i u hu => Keeps.alloc w o _ _ (h4 i u hu)⟩
theorem PathX.rdi {w : World} {A : Option Addr} {xs : List Int} (h : PathX w A xs) : RdI w A xs := fun j hj => by
  obtain ⟨b, off, h3, h4⟩ := h (by omega)
  exact ⟨b, off, h3, h4 j _ (by rw [List.getElem?_map, List.getElem?_eq_getElem hj]; rfl)⟩
theorem PathX.below {w w' : World} {A : Option Addr} {xs : List Int} (h : PathX w A xs) (hb : Below w.heap.size w w') : PathX w' A xs := by
  intro hm
  obtain ⟨b, off, h3, h4⟩ := h hm
  exact ⟨b, off, h3, fun i u hu => (Keeps.of_below hb) _ _ (h4 i u hu)⟩

theorem run_append_pathX {w : World} {A : Option Addr} {xs : List Int} {m c : Nat} (h : PathX w A xs) (h1 : xs.length = m) (hm : m ≤ 1000) (x : Int) (ty : TypeId) :
    ∃ A' c' w', (Builtin.append_ #[46, 46] ty #[.slice (some ⟨w.heap.size, 0, none⟩) 1 1, .slice A m c]).run Tryz.prog (w.alloc (.cells #[.int .i64 x] 3)) = .ok (.slice A' (m + 1) c') w' ∧ m + 1 ≤ c' ∧ PathX w' A' (x :: xs) ∧ Below w.heap.size w w' := by
  obtain ⟨i0, hi, hz0, hz1, hz2⟩ := info_parts int_info
  have hown : (w.alloc (.cells #[.int .i64 x] 3)).ownsRow w.heap.size 3 1 (.slice (some ⟨w.heap.size, 0, none⟩) 1 1) 1 [.int .i64 x] :=
    ⟨rfl, .inr ⟨w.heap.size, 1, #[.int .i64 x], rfl, Nat.le_refl _, heap_alloc_new w _, Nat.le_refl _, by decide, rfl, rfl⟩⟩
  have h2 := h.alloc (.cells #[.int .i64 x] 3)
  have fin : ∀ (v' : Value) (w' : World), w'.ownsRow w.heap.size 3 1 v' (1 + m) (.int .i64 x :: xs.map (Value.int .i64)) → (w.alloc (.cells #[.int .i64 x] 3)).grownBy w' (some w.heap.size) →
      ∃ A' c', v' = .slice A' (m + 1) c' ∧ m + 1 ≤ c' ∧ PathX w' A' (x :: xs) ∧ Below w.heap.size w w' := by
    intro v' w' ho hg
    have hb : Below w.heap.size w w' := ((Below.refl _ _).alloc (Nat.le_refl _) _).grown hg (by simp) (fun k e => by cases e; omega)
    rcases ho.2 with ⟨_, h0⟩ | ⟨g, cap, cur, rfl, hgb, hgc, hn, hmx, hcs, htk⟩
    · omega
    · refine ⟨some ⟨g, 0, none⟩, cap, by rw [Nat.add_comm], by omega, fun _ => ⟨g, 0, rfl, fun i u hu => ?_⟩, hb⟩
      rw [List.map_cons, ← htk] at hu
      have hu2 : cur[i]? = some u := by
        rw [List.getElem?_take] at hu
        split at hu
        · simpa using hu
        · cases hu
      have hB : Blk w' g cur := ⟨3, hgc⟩
      rw [Nat.zero_add]
      exact hB.at_ hu2
  have hcells : ∀ (ad : Addr), A = some ad → ∀ j u, (xs.map (Value.int .i64))[j]? = some u → (w.alloc (.cells #[.int .i64 x] 3)).cell? (ad.add j) = some u := by
    intro ad e j u hu
    have hj : j < xs.length := by have := (List.getElem?_eq_some_iff.1 hu).1; simpa using this
    obtain ⟨b, off, e2, hc⟩ := h2 (by omega)
    rw [e2] at e
    cases e
    have := hc j u hu
    rwa [← Go.WideShapes.add_plain] at this
  rcases A with _ | ad
  · have hz : m = 0 := by
      rcases Nat.eq_zero_or_pos m with h0 | h0
      · exact h0
      · obtain ⟨b, off, e, _⟩ := h2 (by omega); cases e
    subst hz
    have hx : xs = [] := List.eq_nil_of_length_eq_zero h1
    subst hx
    obtain ⟨A', c', hv, hcc, hp, hb⟩ := fin _ _ hown (World.grownBy.refl _ _)
    refine ⟨A', c', _, ?_, hcc, hp, hb⟩
    rw [← hv]
    have hgc := heap_alloc_new w (.cells #[.int .i64 x] 3)
    simp [Builtin.append_, run_underlying Tryz.underlying46, sizeOf, typeInfo, hi, Builtin.lenOf, Builtin.firstCells, storeCells]
  · obtain ⟨v', w', hrun, ho, hg, _, hat⟩ := run_append_own_at (P := Tryz.prog) (w.alloc (.cells #[.int .i64 x] 3)) w.heap.size 46 ty 3 i0 _ 1 8 Tryz.underlying46 hi hz0 hz1 hz2 rfl (by omega) _ 1 _ hown ad m c (xs.map (Value.int .i64)) (by simp [h1]) (hcells ad rfl) (by
      intro u hu
      obtain ⟨z, _, rfl⟩ := List.mem_map.1 hu
      rfl) (by simp only [maxLen]; omega) (by omega) (by simp)
    obtain ⟨A', c', rfl, hcc, hp, hb⟩ := fin v' w' (by simpa using ho) hg
    exact ⟨A', c', w', hrun, hcc, hp, hb⟩

theorem wpList_append_pathX {w : World} {A : Option Addr} {xs : List Int} {m c : Nat} (h : PathX w A xs) (h1 : xs.length = m) (hm : m ≤ 1000) (x : Int)
    {ops : Array Oper} {rest : List Oper} {o : Oper} {a : Act} {Q : Exit → Act → World → Prop} (hgd : o.guard = none) (s t : Operand)
    (ho : o.op = .call { callee := .builtin .append, args := #[s, t], argTypes := #[46, 46] }) (hs : a.eval s = .slice (some ⟨w.heap.size, 0, none⟩) 1 1) (hx : a.eval t = .slice A m c)
    (hk : ∀ A' c' w', m + 1 ≤ c' → PathX w' A' (x :: xs) → Below w.heap.size w w' → wpList Tryz.prog ops Q rest (a.put o.dst (.slice A' (m + 1) c')) w') :
    wpList Tryz.prog ops Q (o :: rest) a (w.alloc (.cells #[.int .i64 x] 3)) := by
  refine wpList_plain hgd fun K hK => ?_
  obtain ⟨A', c', w', hrun, h0, h2, h3⟩ := run_append_pathX (c := c) h h1 hm x o.type
  unfold Oper.wp execOp
  simp only [ho, resolve, invoke, builtin, Sem.run_bind, Sem.run_pure, Result.andThen_ok, List.map_toArray, List.map_cons, List.map_nil, hs, hx, hrun]
  exact hK _ _ (hk A' c' w' h0 h2 h3)

/-- a way, or none -/
def WayPost (o : Option (List Int)) (d : Nat) (w : World) (e : Ending) (w' : World) : Prop :=
  ∃ A m c, e = .returned (.tuple #[.slice A m c, .bool o.isSome]) ∧ m ≤ d ∧ m ≤ c ∧ (∀ p, o = some p → m = p.length ∧ PathX w' A p) ∧ Below w.heap.size w w'
theorem WayPost.some_ {p : List Int} {d : Nat} {w : World} {e : Ending} {w' : World} (h : WayPost (some p) d w e w') :
    ∃ A m c, e = .returned (.tuple #[.slice A m c, .bool true]) ∧ m ≤ d ∧ m ≤ c ∧ m = p.length ∧ PathX w' A p ∧ Below w.heap.size w w' := by
  obtain ⟨A, m, c, he, h1, h2, h3, h4⟩ := h
  exact ⟨A, m, c, he, h1, h2, (h3 p rfl).1, (h3 p rfl).2, h4⟩
theorem WayPost.none_ {d : Nat} {w : World} {e : Ending} {w' : World} (h : WayPost none d w e w') :
    ∃ A m c, e = .returned (.tuple #[.slice A m c, .bool false]) ∧ Below w.heap.size w w' := by
  obtain ⟨A, m, c, he, h1, h2, h3, h4⟩ := h
  exact ⟨A, m, c, he, h4⟩
theorem outP_no : (∀ t, (outP t = none ↔ nrm t = true)) ∧ (∀ (ts : List Tm) (i : Int), (outPs i ts = none ↔ nrms ts = true)) := by
  refine Tm.ind2 (fun k n ks ih => ?_) (fun i => ?_) (fun t ts h1 h2 i => ?_)
  · rw [outP, nrm]
    split
    · rename_i h
      rw [ih 0, h]; simp
    · rename_i h
      simp [h]
  · simp [outPs, nrms]
  · rw [outPs, nrms, Bool.and_eq_true, ← h1, ← h2 (i + 1)]
    cases outP t <;> simp
theorem outPs_first {ks : List Tm} {p : List Int} : ∀ {j : Nat} {i : Int}, (∀ t, t ∈ ks.take j → nrm t = true) → (hj : j < ks.length) → outP ks[j] = some p → outPs i ks = some ((i + j) :: p) := by
  induction ks with
  | nil => intro j i _ hj; exact absurd hj (Nat.not_lt_zero _)
  | cons t ts ih =>
    intro j i hall hj hp
    cases j with
    | zero => rw [outPs]; simp at hp; rw [hp]; simp
    | succ j =>
      have h0 : outP t = none := (outP_no.1 t).2 (hall t (by simp))
      rw [outPs, h0]
      have := ih (j := j) (i := i + 1) (fun u hu => hall u (by simp [hu])) (by simpa using hj) (by simpa using hp)
      rw [this]
      simp; omega
set_option maxRecDepth 100000 in
set_option maxHeartbeats 2000000 in
theorem outX_any (N : Nat) : ∀ (d : Nat) (k n : Int) (ks : List Tm) (A : Option Addr) (c : Nat) (w : World), d ≤ 30 → sizes ks < N → shape d (.mk k n ks) = true → sizes ks ≤ 1099511627775 → Rd w A 0 ks →
    Calls Tryz.prog 46 #[.agg #[.int .i64 k, .int .i64 n, .slice A ks.length c]] w (WayPost (outP (.mk k n ks)) d w) := by
  induction N with
  | zero => intro d k n ks A c w _ hN; exact absurd hN (Nat.not_lt_zero _)
  | succ N ih =>
  intro d k n ks A c w hd hN hsh hM hr
  have hlen := length_le_sizes ks
  obtain ⟨d, rfl⟩ : ∃ d', d = d' + 1 := by cases d with | zero => simp [shape] at hsh | succ d => exact ⟨d, rfl⟩
  obtain ⟨ha, hm1, hm2, hkids⟩ := (shape_split d k n ks).1 hsh
  have hkids := hide hkids
  have ha' := hide ha
  clear ha hm1 hm2 hsh
  by_cases hrd : rdx k ks = 0
  · have hz : outP (.mk k n ks) = outPs 0 ks := by rw [outP, if_pos hrd]
    rw [hz]
    have hrd' := hide hrd
    clear hz
    generalize hoo : outPs 0 ks = oo
    have hoo' := hide hoo
    clear hoo
    go_enter Tryz.func46, Tryz.ntmps46
    go_wp2_with (go_at_call 75; refine (iRedex_any k n ks A c _ (by omega) ha'.out (hr.alloc _)).mono ?_; rw [hrd]; rintro e w1 ⟨rfl, hb1⟩; have hB1 := (Blk.new_ w 27 #[.int .i64 k, .int .i64 n, .slice A ks.length c] rfl).keep hb1; obtain ⟨p10, p11, p12⟩ := hB1.three; replace hb1 := ((Below.refl _ _).alloc (Nat.le_refl _) _).trans (hb1.mono (by simp)))
    go_loopw [14] (fun i wr => ∃ j : Nat, j ≤ ks.length ∧ i = .int .i64 j ∧ Hid (∀ t, t ∈ ks.take j → nrm t = true) ∧ Below w.heap.size w wr)
      (fun i _ => ks.length - (intOf i).toNat)
    case atStart => exact ⟨0, Nat.zero_le _, rfl, hide (by simp), hb1⟩
    case round =>
      obtain ⟨j, hj, rfl, hall, hb⟩ := hrel
      by_cases hlt : j < ks.length
      · obtain ⟨b, off, k1, n1, ks1, A1, c1, rfl, hkj, hc1, hc2, hc3, hl1, hr1⟩ := (hr.below hb).at_ hlt
        have hsz := sizes_le (List.getElem_mem hlt)
        have hs1 := hkids.out _ (List.getElem_mem hlt)
        rw [hkj] at hsz hs1
        simp only [Tm.size] at hsz
        have H3 := hide hkj
        have H4 := hide hs1
        clear hkj hs1
        cases ho1 : outP (.mk k1 n1 ks1) with
        | none =>
          have hn1 : nrm (.mk k1 n1 ks1) = true := (outP_no.1 _).1 ho1
          have hn1' := hide hn1
          have ho1' := hide ho1
          clear ho1 hn1
          go_wp2_with (go_at_call 46; refine (ih d k1 n1 ks1 A1 c1 _ (by omega) (by omega) H4.out (by omega) (hr1.alloc _)).mono ?_; rw [ho1'.out]; intro e w3 hp; obtain ⟨A3, m3, c3, rfl, hb3⟩ := hp.none_; replace hb3 := ((Below.refl _ _).alloc (Nat.le_refl _) _).trans (hb3.mono (by simp)))
          go_roundw
          case rel => exact ⟨j + 1, hlt, by go_num, hide (all_take hlt hall.out (by rw [H3.out]; exact hn1'.out)), hb.trans (hb3.mono hb.size)⟩
          case measure => simp [intOf]; omega
        | some p1 =>
          have ho1' := hide ho1
          clear ho1
          go_wp2_with (first | (go_at_call 46; refine (ih d k1 n1 ks1 A1 c1 _ (by omega) (by omega) H4.out (by omega) (hr1.alloc _)).mono ?_; rw [ho1'.out]; intro e w3 hp; obtain ⟨A3, m3, c3, rfl, hm3, hc3', hm3e, hp3, hb3⟩ := hp.some_; have hm3e' := hide hm3e.symm; clear hm3e; replace hb3 := ((Below.refl _ _).alloc (Nat.le_refl _) _).trans (hb3.mono (by simp))) | (at_builtin; refine wpList_append_pathX hp3 hm3e'.out (by omega) _ rfl _ _ rfl rfl rfl ?_; intro A4 c4 w4 hcc4 hp4 hb4))
          go_ret2
          have hfin := outPs_first (i := 0) hall.out hlt (by rw [H3.out]; exact ho1'.out)
          rw [hoo'.out] at hfin
          refine ⟨A4, m3 + 1, c4, by rw [hfin]; rfl, by omega, hcc4, ?_, hb.trans ((hb3.trans (hb4.mono hb3.size)).mono hb.size)⟩
          intro p hp
          rw [hfin] at hp
          injection hp with hp
          subst hp
          refine ⟨by rw [List.length_cons, hm3e'.out], by simpa using hp4⟩
      · have hje : j = ks.length := by omega
        go_wp2_with fail
        go_ret2
        have ha := hall.out
        rw [hje, List.take_length] at ha
        have h2 : oo = none := by rw [← hoo'.out]; exact (outP_no.2 ks 0).2 ((nrms_iff ks).2 ha)
        refine ⟨none, 0, 0, by rw [h2]; rfl, by omega, Nat.le_refl _, fun p hp => (by rw [h2] at hp; cases hp), hb⟩
  · have hne : (rdx k ks != 0) = true := by simpa using hrd
    have hz : outP (.mk k n ks) = some [] := by rw [outP, if_neg hrd]
    rw [hz]
    have H := hide hrd
    clear hrd hz
    go_enter Tryz.func46, Tryz.ntmps46
    go_wp2_with (go_at_call 75; refine (iRedex_any k n ks A c _ (by omega) ha'.out (hr.alloc _)).mono ?_; rintro e w1 ⟨rfl, hb1⟩; replace hb1 := ((Below.refl _ _).alloc (Nat.le_refl _) _).trans (hb1.mono (by simp)))
    go_ret2
    exact ⟨none, 0, 0, rfl, by omega, Nat.le_refl _, fun p hp => (by injection hp with hp; subst hp; exact ⟨rfl, PathX.nil⟩), hb1⟩
end Go.Proofs.YthgmofdfecioaaaGreatDoor

namespace Go.Proofs.YthgmofdfecioaaaGreatDoor
open Go.RowKit
set_option linter.unusedSimpArgs false
set_option linter.unusedVariables false

/-- a term that can be read -/
def GotQ (p : Nat → Prop) (w : World) (t : Tm) (e : Ending) (w' : World) : Prop :=
  ∃ A c, e = .returned (.agg #[.int .i64 t.k, .int .i64 t.n, .slice A t.ks.length c]) ∧ t.ks.length ≤ 9223372036854775807 ∧ RdP (fun b => p b ∨ w.heap.size ≤ b) w' A 0 t.ks ∧ Below w.heap.size w w'
theorem gotQ_mk {p : Nat → Prop} {w : World} {k n : Int} {ks : List Tm} {e : Ending} {w' : World} (h : GotQ p w (.mk k n ks) e w') : ∃ A c, e = .returned (.agg #[.int .i64 k, .int .i64 n, .slice A ks.length c]) ∧ ks.length ≤ 9223372036854775807 ∧ RdP (fun b => p b ∨ w.heap.size ≤ b) w' A 0 ks ∧ Below w.heap.size w w' := h
theorem run_tailX {b off cp : Nat} {is : List Int} {x : Int} {w0 : World} (hcp : is.length + 1 ≤ cp) (hi : RdI w0 (some ⟨b, off, none⟩) (x :: is)) :
    ∃ off', (∀ w, (Instr.sliceAt 46 (.slice (some ⟨b, off, none⟩) (is.length + 1) cp) (some (.int .i64 1)) none none).run Tryz.prog w = .ok (.slice (some ⟨b, off', none⟩) is.length (cp - 1)) w) ∧ RdI w0 (some ⟨b, off', none⟩) is := by
  have hu : Tryz.prog.underlying 46 = some (.slice (Tryz.prog.elem 46)) := by kernel_rfl
  have he : Tryz.prog.elem 46 = 3 := by kernel_rfl
  have hs : ∀ w, (sizeOf 3).run Tryz.prog w = .ok 1 w := fun w => by kernel_rfl
  refine ⟨if cp = 1 then off else off + 1, fun w => ?_, fun j hj => ?_⟩
  · rw [run_sliceAt_slice (t := 46) (h := hu), run_slice_l (t := 46) (ht := hu) (h0 := by omega) (h1 := by omega), he, hs]
    simp only [Result.andThen, sliced]
    by_cases h : cp = 1
    · simp [h]
    · simp [h, Addr.add]
  · obtain ⟨b1, off1, hA, hc⟩ := hi (j + 1) (by simpa using hj)
    injection hA with hA
    injection hA with e1 e2
    subst e1 e2
    refine ⟨_, _, rfl, ?_⟩
    rw [if_neg (by omega)]
    rw [show off + 1 + j = off + (j + 1) from by omega]
    simpa using hc
set_option maxHeartbeats 8000000 in
set_option maxRecDepth 100000 in
theorem iPut_any (p : Nat → Prop) (ku nu : Int) (us : List Tm) (hus : sizes us ≤ 1000000) : ∀ (xs : List Int) (k n : Int) (ks : List Tm) (A : Option Addr) (c : Nat) (P : Option Addr) (cp : Nat) (U : Option Addr) (cu : Nat) (w : World) (u0 : Tm), atT (.mk k n ks) xs = some u0 → xs.length ≤ cp → sizes ks ≤ 1000000 → RdP p w A 0 ks → RdI w P xs → RdP p w U 0 us → (∀ b, p b → b < w.heap.size) →
    Calls Tryz.prog 100 #[.agg #[.int .i64 k, .int .i64 n, .slice A ks.length c], .slice P xs.length cp, .agg #[.int .i64 ku, .int .i64 nu, .slice U us.length cu]] w (GotQ p w (putN (.mk k n ks) xs (.mk ku nu us)))
  | [], k, n, ks, A, c, P, cp, U, cu, w, u0, h, hcp, hM, hr, hi, hru, hpw => by
    have hlu := length_le_sizes us
    rw [putN]
    go_enter Tryz.func100, Tryz.ntmps100
    go_wp2_with fail
    refine bodyPost_ret (v := .agg #[.int .i64 ku, .int .i64 nu, .slice U us.length cu]) (by simp [results, Tryz.results100, go_sem]) rfl ⟨U, cu, rfl, by simp [Tm.ks]; omega, ?_, ?_⟩
    · exact (((hru.alloc _).alloc _).alloc _).mono (fun b h => Or.inl h)
    · exact (((Below.refl _ _).alloc (Nat.le_refl _) _).alloc (by simp) _).alloc (by simp; omega) _
  | x :: is, k, n, ks, A, c, P, cp, U, cu, w, u0, h, hcp, hM, hr, hi, hru, hpw => by
    have hlen := length_le_sizes ks
    have hlu := length_le_sizes us
    rw [atT] at h
    split at h
    case isFalse => cases h
    rename_i hh
    have hx2 : x < ks.length := hh.2
    obtain ⟨i, rfl⟩ : ∃ i : Nat, x = (i : Int) := ⟨x.toNat, by omega⟩
    have hik : i < ks.length := by omega
    have h0 := hide h
    clear h hh
    obtain ⟨b3, o3, k3, n3, ks3, A3, c3, rfl, hkj, hc1, hc2, hc3, hl3, hr3⟩ := hr.at_ hik
    have hsz := sizes_le (List.getElem_mem hik)
    rw [hkj] at hsz
    simp only [Tm.size] at hsz
    have e3 : ks.getD (i : Int).toNat default = .mk k3 n3 ks3 := by rw [Int.toNat_natCast, List.getD_eq_getElem?_getD, List.getElem?_eq_getElem hik, Option.getD_some, hkj]
    have h1 : atT (.mk k3 n3 ks3) is = some u0 := by have := h0.out; rw [show (Tm.mk k n ks).kids = ks from rfl, e3] at this; exact this
    have h1' := hide h1
    obtain ⟨b, off, rfl, hp0⟩ := hi 0 (by simp)
    obtain ⟨off', ht, hti⟩ := run_tailX (by simpa using hcp) hi
    simp only [List.getElem_cons_zero, Nat.add_zero] at hp0
    obtain ⟨pk, pn, pks, hput⟩ : ∃ pk pn pks, putN (.mk k3 n3 ks3) is (.mk ku nu us) = .mk pk pn pks := by cases putN (.mk k3 n3 ks3) is (.mk ku nu us) with | mk a b c => exact ⟨a, b, c, rfl⟩
    have hput' := hide hput
    have hres : putN (.mk k n ks) ((i : Int) :: is) (.mk ku nu us) = .mk k n (ks.set i (.mk pk pn pks)) := by rw [putN, e3, hput, Int.toNat_natCast]
    have hres' := hide hres
    have hcp' : is.length + 1 ≤ cp := by simpa using hcp
    have q3 : (((is.length : Nat) : Int) + 1 == 0) = false := by simp; omega
    have q4 : (0 : Int) < ((is.length : Nat) : Int) + 1 := by omega
    have hlk : (i : Int) < (ks.length : Int) := by omega
    clear h1 hput hres e3 hkj hx2
    rw [List.length_cons]
    go_enter Tryz.func100, Tryz.ntmps100
    go_wp2_with fail
    refine name_world ?_
    intro wx hwx
    have h0x : Blk wx w.heap.size #[.int .i64 k, .int .i64 n, .slice (some ⟨b3, o3, none⟩) ks.length c] := by rw [hwx]; exact ((Blk.new_ _ 27 _ rfl).alloc _).alloc _
    have h1x : Blk wx (w.heap.size + 1) #[.int .i64 ku, .int .i64 nu, .slice U us.length cu] := by rw [hwx]; exact (Blk.new_ _ 27 _ (by simp)).alloc _
    have h2x : Blk wx (w.heap.size + 1 + 1) #[.int .i64 0, .int .i64 0, .slice none 0 0] := by rw [hwx]; exact Blk.new_ _ 27 _ (by simp)
    have bx : Below w.heap.size w wx := by rw [hwx]; exact (((Below.refl _ _).alloc (Nat.le_refl _) _).alloc (by simp) _).alloc (by simp; omega) _
    have lx := h2x.lt
    clear hwx
    have rx := hr.below bx
    have g0 := rule_of h0x.three.1
    have g1 := rule_of h0x.three.2.1
    have g2 := rule_of h0x.three.2.2
    go_cut [7] (fun s7 wy => ∃ (g7 g c7 : Nat) (q : Nat → Prop), s7 = .pointer (some ⟨g7, 0, none⟩) ∧ Blk wy g7 #[.int .i64 k, .int .i64 n, .slice (some ⟨g, 0, none⟩) ks.length c7] ∧ RowT q wy g ks ∧ ¬ q g ∧ (∀ b, q b → p b ∨ wx.heap.size ≤ b) ∧ Below wx.heap.size wx wy ∧ wx.heap.size ≤ g7 ∧ wx.heap.size ≤ g ∧ g ≠ g7)
    case first =>
      obtain ⟨q0, hq0⟩ : ∃ q0, q0 = wx.drew := ⟨_, rfl⟩
      have bq0 : Below wx.heap.size wx q0 := by rw [hq0]; exact (Below.refl _ _).drew
      refine gC_start (fun w' => Below wx.heap.size wx w') [7, 9] 10 (by kernel_rfl) rfl ?_
      refine gC_take [0, 1, 2, 3, 4, 5] (f := 4) (l' := #[true, true, true, true, true, true, false, false, false, false]) (lT := [_, _, _, _, _, _]) (by rw [← hq0]; exact bq0) rfl (by kernel_rfl) (by kernel_rfl) (by kernel_rfl) rfl (fun _ _ d _ _ h => by cases d <;> exact h) ?_
      repeat (first | ((refine takeY_skip (a' := ?_) ?_ ?_ ?_); (rotate_left); (· (simp [Region.wanted, yielded, Go.undef]; done)); (· (simp only [List.getElem_toArray, List.getElem_cons_zero, List.getElem_cons_succ, Act.put, List.setIfInBounds_toArray, List.set_cons_zero, List.set_cons_succ]; exact rfl))) | ((refine takeY_step (v := ?_) (a' := ?_) ?_ ?_ ?_ ?_); (rotate_left 2); (· (simp [Region.wanted, yielded, Go.undef]; done)); (· (intro w' hS'; go_simp; try (with_reducible rfl))); (· (simp only [List.getElem_toArray, List.getElem_cons_zero, List.getElem_cons_succ, Act.put, List.setIfInBounds_toArray, List.set_cons_zero, List.set_cons_succ]; exact rfl))))
      refine takeY_nil ?_
      rw [← hq0]
      clear hq0
      refine gC_two (i := 6) (j := 8) (by kernel_rfl) rfl rfl ?_ ?_
      · have swq1 := bq0.size
        go_wp2_with (go_at_call 137; refine (iClone_any p ks _ c _ (by omega) (rx.below bq0) (fun b hb => by have := hpw b hb; omega)).mono ?_; rintro e q1 ⟨A7, c7, rfl, hPq1, hbq1⟩; obtain ⟨g, rfl, -, hBg, hgl, hRq1⟩ := hPq1.rowS (by omega))
        have bq1 : Below wx.heap.size wx q1 := bq0.trans (hbq1.mono bq0.size)
        have lq1 := hbq1.size
        refine mid_intro bq1 ?_
        refine gC_takeT [7] (f := 2) (l' := #[true, true, true, true, true, true, true, true, false, false]) (lT := [_]) rfl (by kernel_rfl) (by kernel_rfl) (by kernel_rfl) rfl (fun _ _ d _ _ h => by cases d <;> exact h) ?_
        repeat (first | ((refine takeY_skip (a' := ?_) ?_ ?_ ?_); (rotate_left); (· (simp [Region.wanted, yielded, Go.undef]; done)); (· (simp only [List.getElem_toArray, List.getElem_cons_zero, List.getElem_cons_succ, Act.put, List.setIfInBounds_toArray, List.set_cons_zero, List.set_cons_succ]; exact rfl))) | ((refine takeY_step (v := ?_) (a' := ?_) ?_ ?_ ?_ ?_); (rotate_left 2); (· (simp [Region.wanted, yielded, Go.undef]; done)); (· (intro w' hS'; go_simp; try (with_reducible rfl))); (· (simp only [List.getElem_toArray, List.getElem_cons_zero, List.getElem_cons_succ, Act.put, List.setIfInBounds_toArray, List.set_cons_zero, List.set_cons_succ]; exact rfl))))
        refine takeY_nil ?_
        refine gC_one (i := 8) (by kernel_rfl) rfl ?_
        · have szq2 := bq1.size
          go_wp2_with fail
          refine name_midw ?_
          intro q2 hn
          have bq2 : Below wx.heap.size wx q2 := by rw [hn]; exact bq1.alloc szq2 _
          have zq2 : Blk q2 q1.heap.size #[.int .i64 0, .int .i64 0, .slice none 0 0] := by rw [hn]; exact Blk.new_ _ 27 _ rfl
          have eq2 : q2.heap.size = q1.heap.size + 1 := by rw [hn]; simp
          have kq2 : Below q1.heap.size q1 q2 := by rw [hn]; exact (Below.refl _ _).alloc (Nat.le_refl _) _
          have seq2 : q1.heap.size < q2.heap.size := by omega
          clear hn eq2
          have Rq2 := hRq1.below kq2
          refine mid_intro bq2 ?_
          refine gC_end [9] (lB := [_]) (by simp) (by kernel_rfl) (by kernel_rfl) rfl ?_
          obtain ⟨d0, d1, d2⟩ := zq2.three
          have e0 := zq2.frozen 0
          have e1 := zq2.frozen 1
          have e2 := zq2.frozen 2
          have szl := zq2.lt
          have szb : wx.heap.size ≤ q1.heap.size := by first | exact bq0.size | exact bq1.size
          have sxx := bx.size
          have hgb : wx.heap.size ≤ g := by have := bq0.size; omega
          have hgz : g ≠ q1.heap.size := by omega
          have hnz : ¬ ((p q1.heap.size ∨ q0.heap.size ≤ q1.heap.size) ∧ q1.heap.size < q1.heap.size ∧ q1.heap.size ≠ g) := by
            rintro ⟨h | h, h2, -⟩
            · have := hpw _ h; omega
            · omega
          go_wp2_with fail
          go_meet
          exact ⟨q1.heap.size, g, c7, _, rfl, ((zq2.set_ 0 _).set_ 1 _).set_ 2 _, ((Rq2.setCell (a := ⟨q1.heap.size, 0, none⟩) hnz hgz _).setCell (a := ⟨q1.heap.size, 1, none⟩) hnz hgz _).setCell (a := ⟨q1.heap.size, 2, none⟩) hnz hgz _, (fun h => h.2.2 rfl), (fun b hb => hb.1.imp id fun h => Nat.le_trans (by have := bq0.size; omega) h), ((bq2.setCell (by simp <;> omega) _).setCell (by simp <;> omega) _).setCell (by simp <;> omega) _, szb, hgb, hgz⟩
      · have szq3 := bq0.size
        go_wp2_with fail
        refine name_midw ?_
        intro q3 hn
        have bq3 : Below wx.heap.size wx q3 := by rw [hn]; exact bq0.alloc szq3 _
        have zq3 : Blk q3 q0.heap.size #[.int .i64 0, .int .i64 0, .slice none 0 0] := by rw [hn]; exact Blk.new_ _ 27 _ rfl
        have eq3 : q3.heap.size = q0.heap.size + 1 := by rw [hn]; simp
        have kq3 : Below q0.heap.size q0 q3 := by rw [hn]; exact (Below.refl _ _).alloc (Nat.le_refl _) _
        have seq3 : q0.heap.size < q3.heap.size := by omega
        clear hn eq3
        refine mid_intro bq3 ?_
        refine gC_one (i := 6) (by kernel_rfl) rfl ?_
        · have swq4 := bq3.size
          have szzq4 := zq3.lt
          go_wp2_with (go_at_call 137; refine (iClone_any p ks _ c _ (by omega) (rx.below bq3) (fun b hb => by have := hpw b hb; omega)).mono ?_; rintro e q4 ⟨A7, c7, rfl, hPq4, hbq4⟩; obtain ⟨g, rfl, -, hBg, hgl, hRq4⟩ := hPq4.rowS (by omega))
          have zq4 := zq3.keep hbq4
          have bq4 : Below wx.heap.size wx q4 := bq3.trans (hbq4.mono bq3.size)
          have lq4 := hbq4.size
          refine mid_intro bq4 ?_
          refine gC_takeT [7] (f := 1) (l' := #[true, true, true, true, true, true, true, true, true, false]) (lT := [_]) rfl (by kernel_rfl) (by kernel_rfl) (by kernel_rfl) rfl (fun _ _ d _ _ h => by cases d <;> exact h) ?_
          repeat (first | ((refine takeY_skip (a' := ?_) ?_ ?_ ?_); (rotate_left); (· (simp [Region.wanted, yielded, Go.undef]; done)); (· (simp only [List.getElem_toArray, List.getElem_cons_zero, List.getElem_cons_succ, Act.put, List.setIfInBounds_toArray, List.set_cons_zero, List.set_cons_succ]; exact rfl))) | ((refine takeY_step (v := ?_) (a' := ?_) ?_ ?_ ?_ ?_); (rotate_left 2); (· (simp [Region.wanted, yielded, Go.undef]; done)); (· (intro w' hS'; go_simp; try (with_reducible rfl))); (· (simp only [List.getElem_toArray, List.getElem_cons_zero, List.getElem_cons_succ, Act.put, List.setIfInBounds_toArray, List.set_cons_zero, List.set_cons_succ]; exact rfl))))
          refine takeY_nil ?_
          refine gC_end [9] (lB := [_]) (by simp) (by kernel_rfl) (by kernel_rfl) rfl ?_
          obtain ⟨d0, d1, d2⟩ := zq4.three
          have e0 := zq4.frozen 0
          have e1 := zq4.frozen 1
          have e2 := zq4.frozen 2
          have szl := zq4.lt
          have szb : wx.heap.size ≤ q0.heap.size := by first | exact bq0.size | exact bq0.size
          have sxx := bx.size
          have hgb : wx.heap.size ≤ g := by have := bq3.size; omega
          have hgz : g ≠ q0.heap.size := by omega
          have hnz : ¬ ((p q0.heap.size ∨ q3.heap.size ≤ q0.heap.size) ∧ q0.heap.size < q4.heap.size ∧ q0.heap.size ≠ g) := by
            rintro ⟨h | h, h2, -⟩
            · have := hpw _ h; omega
            · omega
          go_wp2_with fail
          go_meet
          exact ⟨q0.heap.size, g, c7, _, rfl, ((zq4.set_ 0 _).set_ 1 _).set_ 2 _, ((hRq4.setCell (a := ⟨q0.heap.size, 0, none⟩) hnz hgz _).setCell (a := ⟨q0.heap.size, 1, none⟩) hnz hgz _).setCell (a := ⟨q0.heap.size, 2, none⟩) hnz hgz _, (fun h => h.2.2 rfl), (fun b hb => hb.1.imp id fun h => Nat.le_trans (by have := bq3.size; omega) h), ((bq4.setCell (by simp <;> omega) _).setCell (by simp <;> omega) _).setCell (by simp <;> omega) _, szb, hgb, hgz⟩
    case rest =>
      obtain ⟨g7, g, c7, q, rfl, hT7, hRow, hqg, hqp, hxy, hg7, hg, hgne⟩ := hcut
      clear g0 g1 g2
      go_upto_region 4 with fail
      refine name_world ?_
      intro wy hwy
      subst hwy
      have sxy := hxy.size
      have by_ : Below w.heap.size w wy := bx.trans (hxy.mono bx.size)
      have h0y := h0x.keep hxy
      have h1y := h1x.keep hxy
      have h2y := h2x.keep hxy
      have ruy := hru.below by_
      have r3y := hr3.below by_
      have hiy := hti.below by_
      have g0 := rule_of h0y.three.1
      have g1 := rule_of h0y.three.2.1
      have g2 := rule_of h0y.three.2.2
      have v0 := rule_of h1y.three.1
      have v1 := rule_of h1y.three.2.1
      have v2 := rule_of h1y.three.2.2
      have u0' := rule_of hT7.three.1
      have u1' := rule_of hT7.three.2.1
      have u2' := rule_of hT7.three.2.2
      have y0 := rule_of ((Keeps.of_below by_) _ _ hc1)
      have y1 := rule_of ((Keeps.of_below by_) _ _ hc2)
      have y2 := rule_of ((Keeps.of_below by_) _ _ hc3)
      have p0 := rule_of ((Keeps.of_below by_) _ _ hp0)
      have htk := hide (fun w => ht w)
      clear hc1 hc2 hc3 hp0
      refine wp_region_firstY (fun w' => Below wy.heap.size wy w') [0, 1, 2, 3, 4, 5, 6, 7, 8, 9, 10, 11, 12, 13, 14] [15] [16, 17] [_, _, _, _, _, _, _, _, _, _, _, _, _, _, _] [_] [_, _] (by kernel_rfl) (by kernel_rfl) rfl rfl rfl (fun _ _ d _ _ h => by cases d <;> exact h) (Below.refl _ _).drew ?_
      repeat (first | ((refine takeY_skip (a' := ?_) ?_ ?_ ?_); (rotate_left); (· (simp [Region.wanted, yielded, Go.undef]; done)); (· (simp only [List.getElem_toArray, List.getElem_cons_zero, List.getElem_cons_succ, Act.put, List.setIfInBounds_toArray, List.set_cons_zero, List.set_cons_succ]; exact rfl))) | ((refine takeY_step (v := ?_) (a' := ?_) ?_ ?_ ?_ ?_); (rotate_left 2); (· (simp [Region.wanted, yielded, Go.undef]; done)); (· (intro w' hS'; go_simp; try (with_reducible rfl))); (· (simp only [List.getElem_toArray, List.getElem_cons_zero, List.getElem_cons_succ, Act.put, List.setIfInBounds_toArray, List.set_cons_zero, List.set_cons_succ]; exact rfl))))
      refine takeY_nil (then_cons ?_)
      clear g0 g1 g2 v0 v1 v2 y0 y1 y2 p0 ht u0' u1' u2'
      have lg7 := hT7.lt
      have lg := hRow.1.lt
      go_wp2_with (go_at_call 100; refine (iPut_any p ku nu us hus is k3 n3 ks3 A3 c3 (some ⟨b, off', none⟩) (cp - 1) U cu wy.drew u0 h1'.out (by omega) (by omega) r3y.drew (hiy.below (Below.refl _ _).drew) ruy.drew (fun b hb => by have := hpw b hb; show b < wy.heap.size; omega)).mono ?_; rw [hput'.out]; intro e w1 hgo; obtain ⟨A1, c1, rfl, hl1, hq1, hb1⟩ := gotQ_mk hgo; have b1 : Below wy.heap.size wy w1 := (Below.refl _ _).drew.trans hb1)
      refine mid_intro b1 (then_nil ?_)
      have s1 := b1.size
      have hT7a := hT7.keep b1
      have h2a := h2y.keep b1
      have hRow1 := hRow.below b1
      obtain ⟨a0, ha0⟩ := hRow1.1.cell (j := i * 3) (by omega)
      obtain ⟨a1, ha1⟩ := hRow1.1.cell (j := i * 3 + 1) (by omega)
      obtain ⟨a2, ha2⟩ := hRow1.1.cell (j := i * 3 + 2) (by omega)
      have z0 := hRow1.1.frozen (i * 3)
      have z1 := hRow1.1.frozen (i * 3 + 1)
      have z2 := hRow1.1.frozen (i * 3 + 2)
      have q1 : ¬ (fun b => p b ∨ wy.heap.size ≤ b) g := by rintro (h | h); have := hpw _ h; have := bx.size; omega; omega
      have hfin := hRow1.1.set hqg hik (cu := c1) hl1 hq1 q1 (r := fun b => p b ∨ wx.heap.size ≤ b) (fun b hb => hqp b hb) (fun b hb => hb.imp id fun h => Nat.le_trans sxy h) (.inr hg) (ku := pk) (nu := pn)
      obtain ⟨t0, t1, t2⟩ := hT7a.three
      obtain ⟨d0, d1, d2⟩ := h2a.three
      have e0 := h2a.frozen 0
      have e1 := h2a.frozen 1
      have e2 := h2a.frozen 2
      have sx0 := bx.size
      have n1 : g ≠ w.heap.size + 1 + 1 := by omega
      have n2 : g7 ≠ w.heap.size + 1 + 1 := by omega
      go_wp2_with fail
      have hnr : ∀ o, ¬ (fun b => p b ∨ wx.heap.size ≤ b) (⟨w.heap.size + 1 + 1, o, none⟩ : Addr).block := by
        rintro o (h | h)
        · have := hpw _ h; simp at this; omega
        · simp at h; omega
      refine bodyPost_ret (v := .agg #[.int .i64 k, .int .i64 n, .slice (some ⟨g, 0, none⟩) ks.length c7]) (by simp [results, Tryz.results100, go_sem, d0, d1, d2, n1, n2]) rfl ?_
      rw [hres'.out]
      refine ⟨some ⟨g, 0, none⟩, c7, by simp [Tm.ks, Tm.k, Tm.n], by simp [Tm.ks]; omega, ?_, ?_⟩
      · exact (((hfin.setCell (hnr 0) _).setCell (hnr 1) _).setCell (hnr 2) _).mono (fun b h => h.imp id fun h => by omega)
      · have hbb := by_.trans (b1.mono by_.size)
        exact (((((hbb.setCell (by simp; omega) _).setCell (by simp; omega) _).setCell (by simp; omega) _).setCell (by simp; omega) _).setCell (by simp; omega) _).setCell (by simp; omega) _
end Go.Proofs.YthgmofdfecioaaaGreatDoor

namespace Go.Proofs.YthgmofdfecioaaaGreatDoor
open Go.RowKit
set_option linter.unusedSimpArgs false
set_option linter.unusedVariables false

theorem validT_shape {t : Tm} (h : validT t = true) : shape 30 t = true := by simp only [validT, Bool.and_eq_true] at h; exact h.1
theorem validT_arity {k n : Int} {ks : List Tm} (h : validT (.mk k n ks) = true) : arity k = (ks.length : Int) ∧ 0 ≤ n ∧ n ≤ mostN k := by
  have := (shape_split 29 k n ks).1 (validT_shape h)
  exact ⟨this.1, this.2.1, this.2.2.1⟩
theorem len1 {α : Type} : ∀ {l : List α}, l.length = 1 → ∃ a, l = [a]
  | [a], _ => ⟨a, rfl⟩
theorem len2 {α : Type} : ∀ {l : List α}, l.length = 2 → ∃ a b, l = [a, b]
  | [a, b], _ => ⟨a, b, rfl⟩
theorem len3 {α : Type} : ∀ {l : List α}, l.length = 3 → ∃ a b c, l = [a, b, c]
  | [a, b, c], _ => ⟨a, b, c, rfl⟩
theorem len4 {α : Type} : ∀ {l : List α}, l.length = 4 → ∃ a b c d, l = [a, b, c, d]
  | [a, b, c, d], _ => ⟨a, b, c, d, rfl⟩
theorem rdx_inv {k : Int} {ks : List Tm} (h : rdx k ks ≠ 0) :
    (rdx k ks = 1 ∧ k = 5 ∧ kat ks 0 = 4) ∨ (rdx k ks = 2 ∧ k = 9 ∧ kat ks 3 = 7) ∨ (rdx k ks = 3 ∧ k = 9 ∧ kat ks 3 = 8) ∨ (rdx k ks = 4 ∧ k = 12 ∧ kat ks 1 = 11) ∨ (rdx k ks = 5 ∧ k = 15 ∧ kat ks 0 = 14) ∨ (rdx k ks = 6 ∧ k = 16 ∧ kat ks 0 = 14) := by
  unfold rdx at h ⊢
  by_cases h5 : k = 5
  · rw [if_pos h5] at h ⊢
    by_cases h4 : kat ks 0 = 4
    · exact .inl ⟨by rw [if_pos h4], h5, h4⟩
    · rw [if_neg h4] at h; exact absurd rfl h
  rw [if_neg h5] at h ⊢
  by_cases h9 : k = 9
  · rw [if_pos h9] at h ⊢
    by_cases h7 : kat ks 3 = 7
    · exact .inr (.inl ⟨by rw [if_pos h7], h9, h7⟩)
    · rw [if_neg h7] at h ⊢
      by_cases h8 : kat ks 3 = 8
      · exact .inr (.inr (.inl ⟨by rw [if_pos h8], h9, h8⟩))
      · rw [if_neg h8] at h; exact absurd rfl h
  rw [if_neg h9] at h ⊢
  by_cases h12 : k = 12
  · rw [if_pos h12] at h ⊢
    by_cases h4 : kat ks 1 = 11
    · exact .inr (.inr (.inr (.inl ⟨by rw [if_pos h4], h12, h4⟩)))
    · rw [if_neg h4] at h; exact absurd rfl h
  rw [if_neg h12] at h ⊢
  by_cases h15 : k = 15
  · rw [if_pos h15] at h ⊢
    by_cases h4 : kat ks 0 = 14
    · exact .inr (.inr (.inr (.inr (.inl ⟨by rw [if_pos h4], h15, h4⟩))))
    · rw [if_neg h4] at h; exact absurd rfl h
  rw [if_neg h15] at h ⊢
  by_cases h16 : k = 16
  · rw [if_pos h16] at h ⊢
    by_cases h4 : kat ks 0 = 14
    · exact .inr (.inr (.inr (.inr (.inr ⟨by rw [if_pos h4], h16, h4⟩))))
    · rw [if_neg h4] at h; exact absurd rfl h
  rw [if_neg h16] at h
  exact absurd rfl h
section
variable {w : World} {g : Nat} {k0 n0 k1 n1 k2 n2 k3 n3 : Int} {s0 s1 s2 s3 : List Tm} {A0 A1 A2 A3 : Option Addr} {c0 c1 c2 c3 : Nat}
theorem rd_row1 (hB : Blk w g #[.int .i64 k0, .int .i64 n0, .slice A0 s0.length c0]) (l0 : s0.length ≤ 9223372036854775807) (r0 : Rd w A0 0 s0) : Rd w (some ⟨g, 0, none⟩) 0 [.mk k0 n0 s0] :=
  Rd.cons_iff.2 ⟨⟨g, 0, rfl, RdC.iff.2 ⟨hB.at_ (i := 0) rfl, hB.at_ (i := 1) rfl, A0, c0, hB.at_ (i := 2) rfl, l0, r0⟩⟩, Rd.nil⟩
theorem rd_row2 (hB : Blk w g #[.int .i64 k0, .int .i64 n0, .slice A0 s0.length c0, .int .i64 k1, .int .i64 n1, .slice A1 s1.length c1]) (l0 : s0.length ≤ 9223372036854775807) (l1 : s1.length ≤ 9223372036854775807) (r0 : Rd w A0 0 s0) (r1 : Rd w A1 0 s1) : Rd w (some ⟨g, 0, none⟩) 0 [.mk k0 n0 s0, .mk k1 n1 s1] :=
  Rd.cons_iff.2 ⟨⟨g, 0, rfl, RdC.iff.2 ⟨hB.at_ (i := 0) rfl, hB.at_ (i := 1) rfl, A0, c0, hB.at_ (i := 2) rfl, l0, r0⟩⟩,
    Rd.cons_iff.2 ⟨⟨g, 0, rfl, RdC.iff.2 ⟨hB.at_ (i := 3) rfl, hB.at_ (i := 4) rfl, A1, c1, hB.at_ (i := 5) rfl, l1, r1⟩⟩, Rd.nil⟩⟩
theorem rd_row3 (hB : Blk w g #[.int .i64 k0, .int .i64 n0, .slice A0 s0.length c0, .int .i64 k1, .int .i64 n1, .slice A1 s1.length c1, .int .i64 k2, .int .i64 n2, .slice A2 s2.length c2]) (l0 : s0.length ≤ 9223372036854775807) (l1 : s1.length ≤ 9223372036854775807) (l2 : s2.length ≤ 9223372036854775807) (r0 : Rd w A0 0 s0) (r1 : Rd w A1 0 s1) (r2 : Rd w A2 0 s2) : Rd w (some ⟨g, 0, none⟩) 0 [.mk k0 n0 s0, .mk k1 n1 s1, .mk k2 n2 s2] :=
  Rd.cons_iff.2 ⟨⟨g, 0, rfl, RdC.iff.2 ⟨hB.at_ (i := 0) rfl, hB.at_ (i := 1) rfl, A0, c0, hB.at_ (i := 2) rfl, l0, r0⟩⟩,
    Rd.cons_iff.2 ⟨⟨g, 0, rfl, RdC.iff.2 ⟨hB.at_ (i := 3) rfl, hB.at_ (i := 4) rfl, A1, c1, hB.at_ (i := 5) rfl, l1, r1⟩⟩,
    Rd.cons_iff.2 ⟨⟨g, 0, rfl, RdC.iff.2 ⟨hB.at_ (i := 6) rfl, hB.at_ (i := 7) rfl, A2, c2, hB.at_ (i := 8) rfl, l2, r2⟩⟩, Rd.nil⟩⟩⟩
theorem rd_row4 (hB : Blk w g #[.int .i64 k0, .int .i64 n0, .slice A0 s0.length c0, .int .i64 k1, .int .i64 n1, .slice A1 s1.length c1, .int .i64 k2, .int .i64 n2, .slice A2 s2.length c2, .int .i64 k3, .int .i64 n3, .slice A3 s3.length c3]) (l0 : s0.length ≤ 9223372036854775807) (l1 : s1.length ≤ 9223372036854775807) (l2 : s2.length ≤ 9223372036854775807) (l3 : s3.length ≤ 9223372036854775807) (r0 : Rd w A0 0 s0) (r1 : Rd w A1 0 s1) (r2 : Rd w A2 0 s2) (r3 : Rd w A3 0 s3) : Rd w (some ⟨g, 0, none⟩) 0 [.mk k0 n0 s0, .mk k1 n1 s1, .mk k2 n2 s2, .mk k3 n3 s3] :=
  Rd.cons_iff.2 ⟨⟨g, 0, rfl, RdC.iff.2 ⟨hB.at_ (i := 0) rfl, hB.at_ (i := 1) rfl, A0, c0, hB.at_ (i := 2) rfl, l0, r0⟩⟩,
    Rd.cons_iff.2 ⟨⟨g, 0, rfl, RdC.iff.2 ⟨hB.at_ (i := 3) rfl, hB.at_ (i := 4) rfl, A1, c1, hB.at_ (i := 5) rfl, l1, r1⟩⟩,
    Rd.cons_iff.2 ⟨⟨g, 0, rfl, RdC.iff.2 ⟨hB.at_ (i := 6) rfl, hB.at_ (i := 7) rfl, A2, c2, hB.at_ (i := 8) rfl, l2, r2⟩⟩,
    Rd.cons_iff.2 ⟨⟨g, 0, rfl, RdC.iff.2 ⟨hB.at_ (i := 9) rfl, hB.at_ (i := 10) rfl, A3, c3, hB.at_ (i := 11) rfl, l3, r3⟩⟩, Rd.nil⟩⟩⟩⟩
end
section
variable {P : Program} {ops : Array Oper} {Q : Exit → Act → World → Prop} {S : World → Prop} {B : List Nat}
theorem gC_three {i j m : Nat} {l : Array Bool} {a : Act} {w : World} {f : Nat} {o o2 o3 : Oper} (hr : Region.ready .any ops l = [i, j, m]) (ho : ops[i]? = some o) (ho2 : ops[j]? = some o2) (ho3 : ops[m]? = some o3)
    (h : wpList P ops (Mid S (gC P ops Q S B f (l.setIfInBounds i true)) Q) [o] a w) (h2 : wpList P ops (Mid S (gC P ops Q S B f (l.setIfInBounds j true)) Q) [o2] a w) (h3 : wpList P ops (Mid S (gC P ops Q S B f (l.setIfInBounds m true)) Q) [o3] a w) : gC P ops Q S B (f + 1) l a w := by
  refine gC_any (by rw [hr]; simp) fun i' hi o' ho' => ?_
  rw [hr] at hi
  simp only [List.mem_cons, List.not_mem_nil, or_false] at hi
  rcases hi with rfl | rfl | rfl
  · rw [ho] at ho'
    injection ho' with ho'
    subst ho'
    exact h
  · rw [ho2] at ho'
    injection ho' with ho'
    subst ho'
    exact h2
  · rw [ho3] at ho'
    injection ho' with ho'
    subst ho'
    exact h3
theorem gC_four {i j m q : Nat} {l : Array Bool} {a : Act} {w : World} {f : Nat} {o o2 o3 o4 : Oper} (hr : Region.ready .any ops l = [i, j, m, q]) (ho : ops[i]? = some o) (ho2 : ops[j]? = some o2) (ho3 : ops[m]? = some o3) (ho4 : ops[q]? = some o4)
    (h : wpList P ops (Mid S (gC P ops Q S B f (l.setIfInBounds i true)) Q) [o] a w) (h2 : wpList P ops (Mid S (gC P ops Q S B f (l.setIfInBounds j true)) Q) [o2] a w) (h3 : wpList P ops (Mid S (gC P ops Q S B f (l.setIfInBounds m true)) Q) [o3] a w) (h4 : wpList P ops (Mid S (gC P ops Q S B f (l.setIfInBounds q true)) Q) [o4] a w) : gC P ops Q S B (f + 1) l a w := by
  refine gC_any (by rw [hr]; simp) fun i' hi o' ho' => ?_
  rw [hr] at hi
  simp only [List.mem_cons, List.not_mem_nil, or_false] at hi
  rcases hi with rfl | rfl | rfl | rfl
  · rw [ho] at ho'
    injection ho' with ho'
    subst ho'
    exact h
  · rw [ho2] at ho'
    injection ho' with ho'
    subst ho'
    exact h2
  · rw [ho3] at ho'
    injection ho' with ho'
    subst ho'
    exact h3
  · rw [ho4] at ho'
    injection ho' with ho'
    subst ho'
    exact h4
end
end Go.Proofs.YthgmofdfecioaaaGreatDoor

namespace Go.Proofs.YthgmofdfecioaaaGreatDoor
open Go.RowKit
set_option linter.unusedSimpArgs false
set_option linter.unusedVariables false

theorem got_mono {w w' : World} {k n : Int} {ks : List Tm} {e : Ending} {w2 : World} (hb : Below w.heap.size w w') (h : GotT w' k n ks e w2) : GotT w k n ks e w2 := by
  obtain ⟨A, c, h1, h2, h3, h4⟩ := h
  exact ⟨A, c, h1, h2, h3.mono hb.size, hb.trans (h4.mono hb.size)⟩

set_option maxHeartbeats 1000000 in
set_option maxRecDepth 100000 in
theorem own_any (N : Nat) : ∀ (k n : Int) (ks : List Tm) (A : Option Addr) (c : Nat) (w : World), sizes ks < N → sizes ks ≤ 1099511627776 → Rd w A 0 ks →
    Calls Tryz.prog 73 #[.agg #[.int .i64 k, .int .i64 n, .slice A ks.length c]] w (GotT w k n ks) := by
  induction N with
  | zero => intro k n ks A c w hN; exact absurd hN (Nat.not_lt_zero _)
  | succ N ih =>
  intro k n ks A c w hN hM hr
  have hlen := length_le_sizes ks
  go_enter Tryz.func73, Tryz.ntmps73
  go_wp2_with fail
  go_loopw [14] (fun i wr => ∃ (j : Nat) (v : Value), j ≤ ks.length ∧ i = .int .i64 j ∧ Part (w.heap.size + 3) wr v (ks.take j) ∧ Blk wr (w.heap.size + 1 + 1) #[.int .i64 k, .int .i64 n, v] ∧ Blk wr (w.heap.size + 1) #[.int .i64 0, .int .i64 0, .slice none 0 0] ∧ Below w.heap.size w wr)
    (fun i _ => ks.length - (intOf i).toNat)
  case atStart => exact ⟨0, _, Nat.zero_le _, rfl, Part.nil, Blk.new_ _ _ _ (by simp), (Blk.new_ _ _ _ (by simp)).alloc _, (((Below.refl _ _).alloc (by simp) _).alloc (by simp) _).alloc (by simp; omega) _⟩
  case round =>
    obtain ⟨j, v, hj, rfl, hp, hB3, hB2, hb⟩ := hrel
    by_cases hlt : j < ks.length
    · obtain ⟨b, off, k', n', ks', A', c', rfl, hkj, hc1, hc2, hc3, hl', hr'⟩ := (hr.below hb).at_ hlt
      have hbl := World.block_lt_of_cell? _ _ hc1
      have hsz := sizes_le (List.getElem_mem hlt)
      rw [hkj] at hsz
      simp only [Tm.size] at hsz
      have H3 := hide hkj
      clear hkj
      have hz := hB3.lt
      have c2 : wr.cell? ⟨w.heap.size + 1 + 1, 2, none⟩ = some v := hB3.at_ rfl
      go_wp2_with fail
      refine name_world ?_
      intro wx hwx
      have hXB : Blk wx wr.heap.size #[.int .i64 k', .int .i64 n', .slice A' ks'.length c'] := by rw [hwx]; exact Blk.new_ _ _ _ rfl
      have hpx : Part (w.heap.size + 3) wx v (ks.take j) := by rw [hwx]; exact hp.alloc _
      have hrx : Rd wx A' 0 ks' := by rw [hwx]; exact hr'.alloc _
      have hB3x : Blk wx (w.heap.size + 1 + 1) #[.int .i64 k, .int .i64 n, v] := by rw [hwx]; exact hB3.alloc _
      have hB2x : Blk wx (w.heap.size + 1) #[.int .i64 0, .int .i64 0, .slice none 0 0] := by rw [hwx]; exact hB2.alloc _
      have hbx : Below w.heap.size w wx := by rw [hwx]; exact hb.alloc hb.size _
      have hs1 : wr.heap.size < wx.heap.size := by rw [hwx]; simp
      have hs2 : w.heap.size + 1 + 1 < wx.heap.size := by omega
      have x2 := hB3x.rule (i := 2) rfl
      have y0 := hXB.rule (i := 0) rfl
      have y1 := hXB.rule (i := 1) rfl
      have y2 := hXB.rule (i := 2) rfl
      clear hwx
      refine wp_region_first (fun w' => Below wx.heap.size wx w') [0, 1, 2] [3, 4] [5, 6, 7] [_, _, _] [_, _] [_, _, _] (by kernel_rfl) (by kernel_rfl) rfl rfl rfl (fun _ _ d _ _ h => by cases d <;> exact h) (Below.refl _ _).drew ?_
      repeat (first | ((refine take_skip (a' := ?_) ?_ ?_ ?_); (rotate_left); (· (simp [Region.wanted, yielded]; done)); (· (simp only [Act.put, List.setIfInBounds_toArray, List.set_cons_zero, List.set_cons_succ]; exact rfl))) | ((refine take_step (v := ?_) (a' := ?_) ?_ ?_ ?_ ?_); (rotate_left 2); (· (simp [Region.wanted, yielded]; done)); (· (intro w' hS'; go_simp; try (with_reducible rfl))); (· (simp only [Act.put, List.setIfInBounds_toArray, List.set_cons_zero, List.set_cons_succ]; exact rfl))))
      refine take_nil (then_cons ?_)
      go_wp2_with (go_at_call 73; refine (ih k' n' ks' A' c' _ (by omega) (by omega) hrx.drew).mono ?_; rintro e w1 ⟨A1, c1, rfl, hl1, hf1, hb1⟩)
      have hx1 : Below wx.heap.size wx w1 := (Below.refl wx.heap.size wx).drew.trans hb1
      refine mid_intro hx1 (then_cons ?_)
      go_wp2_with fail
      refine mid_intro (hx1.alloc hx1.size _) (then_nil ?_)
      refine wpList_append_built (B := w.heap.size + 3) (m := j) hpx.drew hb1 (by simp; omega) hf1 hl1 (by simp; omega) (by omega) rfl (.tmp 19) (.tmp 22) rfl rfl rfl ?_
      intro A2 c2 w2 hp2 hb2 hg2
      have q3 : Blk w2 (w.heap.size + 1 + 1) #[.int .i64 k, .int .i64 n, v] := (hB3x.below hx1 (by omega)).below hb2 (by omega)
      have q2 : Blk w2 (w.heap.size + 1) #[.int .i64 0, .int .i64 0, .slice none 0 0] := (hB2x.below hx1 (by omega)).below hb2 (by omega)
      have c3 : w2.cell? ⟨w.heap.size + 1 + 1, 2, none⟩ = some v := q3.at_ rfl
      have z3 := q3.frozen 2
      have hbf : Below w.heap.size w w2 := (hbx.trans (hx1.mono (by omega))).trans (hb2.mono (by omega))
      clear x2 y0 y1 y2 hpx hrx hB3x hB2x hbx
      go_wp2_with fail
      go_roundw
      case rel => exact ⟨j + 1, _, by omega, by go_num, by rw [List.take_succ_eq_append_getElem hlt, H3.out]; exact hp2.setCell (by simp) _, q3.set_ 2 _, q2.far (by simp) _, hbf.setCell (by simp; omega) _⟩
      case measure => simp [intOf]; omega
    · have hjl : j = ks.length := by omega
      subst hjl
      rw [List.take_length] at hp
      obtain ⟨Ar, cr, rfl, hfr⟩ := hp.fresh
      have c0 : wr.cell? ⟨w.heap.size + 1 + 1, 0, none⟩ = some (.int .i64 k) := hB3.at_ rfl
      have c1 : wr.cell? ⟨w.heap.size + 1 + 1, 1, none⟩ = some (.int .i64 n) := hB3.at_ rfl
      have c2 : wr.cell? ⟨w.heap.size + 1 + 1, 2, none⟩ = some (.slice Ar ks.length cr) := hB3.at_ rfl
      have d0 : wr.cell? ⟨w.heap.size + 1, 0, none⟩ = some (.int .i64 0) := hB2.at_ rfl
      have d1 : wr.cell? ⟨w.heap.size + 1, 1, none⟩ = some (.int .i64 0) := hB2.at_ rfl
      have d2 : wr.cell? ⟨w.heap.size + 1, 2, none⟩ = some (.slice none 0 0) := hB2.at_ rfl
      have e0 := hB2.frozen 0
      have e1 := hB2.frozen 1
      have e2 := hB2.frozen 2
      go_wp2_with fail
      refine bodyPost_ret (v := .agg #[.int .i64 k, .int .i64 n, .slice Ar ks.length cr]) (by simp [results, Tryz.results73, go_sem, d0, d1, d2]) rfl ⟨Ar, cr, rfl, by omega, ?_, ?_⟩
      · exact (((hfr.setCell (by simp) _).setCell (by simp) _).setCell (by simp) _).mono (by omega)
      · exact ((hb.setCell (by simp) _).setCell (by simp) _).setCell (by simp) _

end Go.Proofs.YthgmofdfecioaaaGreatDoor

namespace Go.Proofs.YthgmofdfecioaaaGreatDoor
open Go.RowKit
set_option linter.unusedSimpArgs false
set_option linter.unusedVariables false

theorem kat_cons {t : Tm} {ts : List Tm} : kat (t :: ts) 0 = t.k := rfl
theorem kat_cons3 {a b c d : Tm} : kat [a, b, c, d] 3 = d.k := rfl
theorem kat_cons1 {a b c : Tm} : kat [a, b, c] 1 = b.k := rfl
set_option maxHeartbeats 8000000 in
set_option maxRecDepth 100000 in
theorem ctr_1 (n n0 ka na : Int) (kas : List Tm) (kb nb : Int) (kbs : List Tm) (k1 n1 : Int) (s1 : List Tm) (A : Option Addr) (c : Nat) (w : World) (hv : validT (.mk 5 n [.mk 4 n0 [.mk ka na kas, .mk kb nb kbs], .mk k1 n1 s1]) = true) (hr : Rd w A 0 [.mk 4 n0 [.mk ka na kas, .mk kb nb kbs], .mk k1 n1 s1]) :
    Calls Tryz.prog 98 #[.agg #[.int .i64 5, .int .i64 n, .slice A 2 c]] w (GotO w (substI 0 (.mk k1 n1 s1) (.mk kb nb kbs))) := by
  have har := hide (validT_arity hv).1
  have hrx := hide (show rdx 5 [.mk 4 n0 [.mk ka na kas, .mk kb nb kbs], .mk k1 n1 s1] = 1 from rfl)
  have hv1 := validT_kid hv (t := .mk k1 n1 s1) (by simp)
  have hvb := validT_kid (validT_kid hv (t := .mk 4 n0 [.mk ka na kas, .mk kb nb kbs]) (by simp)) (t := .mk kb nb kbs) (by simp)
  have hsh1 := hide (validT_shape hv1)
  have hshb := hide (validT_shape hvb)
  have hz1 := validT_size' hv1
  have hzb := validT_size' hvb
  clear hv hv1 hvb
  obtain ⟨b0, o0, k0', n0', ks0', A0, c0, hA0, hk0, i1, i2, i3, hl0, hr0⟩ := hr.at_ (j := 0) (by simp)
  injection hk0 with e1 e2 e3
  subst e1 e2 e3 hA0
  obtain ⟨b0', o0', k1', n1', ks1', A1, c1, hA1, hk1, j1, j2, j3, hl1, hr1⟩ := hr.at_ (j := 1) (by simp)
  injection hk1 with e1 e2 e3
  injection hA1 with hA1
  injection hA1 with hA2 hA3
  subst e1 e2 e3 hA2 hA3
  obtain ⟨bb, ob, kb', nb', kbs', Ab, cb, hAb, hkb, m1, m2, m3, hlb, hrb⟩ := hr0.at_ (j := 1) (by simp)
  injection hkb with e1 e2 e3
  subst e1 e2 e3 hAb
  simp only [Nat.zero_mul, Nat.add_zero, Nat.one_mul] at i1 i2 i3 j1 j2 j3 m1 m2 m3
  cases hres : substI 0 (.mk k1 n1 s1) (.mk kb nb kbs) with
  | none =>
    replace hres := hide hres
    go_enter Tryz.func98, Tryz.ntmps98
    go_wp2_with (go_at_call 75; refine (iRedex_any 5 n [.mk 4 n0 [.mk ka na kas, .mk kb nb kbs], .mk k1 n1 s1] _ c _ (by simp) har.out ((hr.alloc _).alloc _)).mono ?_; rw [hrx.out]; rintro e w1 ⟨rfl, hb1⟩; have hX := ((Blk.new_ w 27 #[.int .i64 5, .int .i64 n, .slice (some ⟨b0, o0, none⟩) 2 c] rfl).alloc (.cells #[.int .i64 0, .int .i64 0, .slice none 0 0] 27)).keep hb1; have hZ : Blk w1 (w.heap.size + 1) #[.int .i64 0, .int .i64 0, .slice none 0 0] := (Blk.new_ _ 27 _ (by simp)).keep hb1; have g1 : Below w.heap.size w w1 := (((Below.refl _ _).alloc (Nat.le_refl _) _).alloc (by simp) _).trans (hb1.mono (by simp; omega)))
    refine name_world ?_
    intro wx hwx
    have hXx := (show Blk wx w.heap.size _ by rw [hwx]; exact hX)
    have hZx := (show Blk wx (w.heap.size + 1) _ by rw [hwx]; exact hZ)
    have gx : Below w.heap.size w wx := by rw [hwx]; exact g1
    clear hwx
    have lz := hZx.lt
    have g0 := rule_of hXx.three.1
    have g1' := rule_of hXx.three.2.1
    have g2 := rule_of hXx.three.2.2
    have y2 := rule_of ((Keeps.of_below gx) _ _ i3)
    have m0 := rule_of ((Keeps.of_below gx) _ _ m1)
    have m1' := rule_of ((Keeps.of_below gx) _ _ m2)
    have m2' := rule_of ((Keeps.of_below gx) _ _ m3)
    have v0 := rule_of ((Keeps.of_below gx) _ _ j1)
    have v1 := rule_of ((Keeps.of_below gx) _ _ j2)
    have v2 := rule_of ((Keeps.of_below gx) _ _ j3)
    have r1 := hr1.below gx
    have rb := hrb.below gx
    clear i1 i2 i3 j1 j2 j3 m1 m2 m3
    obtain ⟨q0, hq0⟩ : ∃ q0, q0 = wx.drew := ⟨_, rfl⟩
    have bq0 : Below wx.heap.size wx q0 := by rw [hq0]; exact (Below.refl _ _).drew
    refine gC_start (fun w' => Below wx.heap.size wx w') [12, 13, 14, 15] 16 (by kernel_rfl) rfl ?_
    refine gC_take [0, 1, 2, 3, 4, 5, 6, 7, 8, 9, 10] (f := 5) (l' := #[true, true, true, true, true, true, true, true, true, true, true, false, false, false, false, false]) (lT := [_, _, _, _, _, _, _, _, _, _, _]) (by rw [← hq0]; exact bq0) rfl (by kernel_rfl) (by kernel_rfl) (by kernel_rfl) rfl (fun _ _ d _ _ h => by cases d <;> exact h) ?_
    repeat (first | ((refine takeY_skip (a' := ?_) ?_ ?_ ?_); (rotate_left); (· (simp [Region.wanted, yielded, Go.undef]; done)); (· (simp only [List.getElem_toArray, List.getElem_cons_zero, List.getElem_cons_succ, Act.put, List.setIfInBounds_toArray, List.set_cons_zero, List.set_cons_succ]; exact rfl))) | ((refine takeY_step (v := ?_) (a' := ?_) ?_ ?_ ?_ ?_); (rotate_left 2); (· (simp [Region.wanted, yielded, Go.undef]; done)); (· (intro w' hS'; go_simp; try (with_reducible rfl))); (· (simp only [List.getElem_toArray, List.getElem_cons_zero, List.getElem_cons_succ, Act.put, List.setIfInBounds_toArray, List.set_cons_zero, List.set_cons_succ]; exact rfl))))
    refine takeY_nil ?_
    rw [← hq0]
    clear hq0
    refine gC_one (i := 11) (by kernel_rfl) rfl ?_
    · go_wp2_with (go_at_call 28; refine (subst_any kb nb kbs Ab cb 0 k1 n1 s1 A1 c1 _ (by omega) hsh1.out (by omega) (r1.below bq0) (by omega) hshb.out (rb.below bq0)).mono ?_; rw [hres.out]; intro e q1 hgo; obtain ⟨rfl, hbq1⟩ := (gotO_none hgo))
      have bq1 : Below wx.heap.size wx q1 := bq0.trans (hbq1.mono bq0.size)
      have lq1 := hbq1.size
      refine mid_intro bq1 ?_
      refine gC_takeT [12, 13] (f := 2) (l' := #[true, true, true, true, true, true, true, true, true, true, true, true, true, true, false, false]) (lT := [_, _]) rfl (by kernel_rfl) (by kernel_rfl) (by kernel_rfl) rfl (fun _ _ d _ _ h => by cases d <;> exact h) ?_
      repeat (first | ((refine takeY_skip (a' := ?_) ?_ ?_ ?_); (rotate_left); (· (simp [Region.wanted, yielded, Go.undef]; done)); (· (simp only [List.getElem_toArray, List.getElem_cons_zero, List.getElem_cons_succ, Act.put, List.setIfInBounds_toArray, List.set_cons_zero, List.set_cons_succ]; exact rfl))) | ((refine takeY_step (v := ?_) (a' := ?_) ?_ ?_ ?_ ?_); (rotate_left 2); (· (simp [Region.wanted, yielded, Go.undef]; done)); (· (intro w' hS'; go_simp; try (with_reducible rfl))); (· (simp only [List.getElem_toArray, List.getElem_cons_zero, List.getElem_cons_succ, Act.put, List.setIfInBounds_toArray, List.set_cons_zero, List.set_cons_succ]; exact rfl))))
      refine takeY_nil ?_
      refine gC_end [14, 15] (lB := [_, _]) (by simp) (by kernel_rfl) (by kernel_rfl) rfl ?_
      have hZ2 := hZx.keep bq1
      obtain ⟨d0, d1, d2⟩ := hZ2.three
      have e0 := hZ2.frozen 0
      have e1 := hZ2.frozen 1
      have e2 := hZ2.frozen 2
      have gf := gx.trans (bq1.mono gx.size)
      have sx := gx.size
      go_wp2_with fail
      refine bodyPost_ret (v := .tuple #[zeroV, .bool false]) (by simp [results, Tryz.results98, go_sem, d0, d1, d2, zeroV]) rfl ⟨rfl, ?_⟩
      exact ((gf.setCell (by simp) _).setCell (by simp) _).setCell (by simp) _
  | some r =>
    obtain ⟨kr, nr, rs⟩ := r
    replace hres := hide hres
    go_enter Tryz.func98, Tryz.ntmps98
    go_wp2_with (go_at_call 75; refine (iRedex_any 5 n [.mk 4 n0 [.mk ka na kas, .mk kb nb kbs], .mk k1 n1 s1] _ c _ (by simp) har.out ((hr.alloc _).alloc _)).mono ?_; rw [hrx.out]; rintro e w1 ⟨rfl, hb1⟩; have hX := ((Blk.new_ w 27 #[.int .i64 5, .int .i64 n, .slice (some ⟨b0, o0, none⟩) 2 c] rfl).alloc (.cells #[.int .i64 0, .int .i64 0, .slice none 0 0] 27)).keep hb1; have hZ : Blk w1 (w.heap.size + 1) #[.int .i64 0, .int .i64 0, .slice none 0 0] := (Blk.new_ _ 27 _ (by simp)).keep hb1; have g1 : Below w.heap.size w w1 := (((Below.refl _ _).alloc (Nat.le_refl _) _).alloc (by simp) _).trans (hb1.mono (by simp; omega)))
    refine name_world ?_
    intro wx hwx
    have hXx := (show Blk wx w.heap.size _ by rw [hwx]; exact hX)
    have hZx := (show Blk wx (w.heap.size + 1) _ by rw [hwx]; exact hZ)
    have gx : Below w.heap.size w wx := by rw [hwx]; exact g1
    clear hwx
    have lz := hZx.lt
    have g0 := rule_of hXx.three.1
    have g1' := rule_of hXx.three.2.1
    have g2 := rule_of hXx.three.2.2
    have y2 := rule_of ((Keeps.of_below gx) _ _ i3)
    have m0 := rule_of ((Keeps.of_below gx) _ _ m1)
    have m1' := rule_of ((Keeps.of_below gx) _ _ m2)
    have m2' := rule_of ((Keeps.of_below gx) _ _ m3)
    have v0 := rule_of ((Keeps.of_below gx) _ _ j1)
    have v1 := rule_of ((Keeps.of_below gx) _ _ j2)
    have v2 := rule_of ((Keeps.of_below gx) _ _ j3)
    have r1 := hr1.below gx
    have rb := hrb.below gx
    clear i1 i2 i3 j1 j2 j3 m1 m2 m3
    obtain ⟨q0, hq0⟩ : ∃ q0, q0 = wx.drew := ⟨_, rfl⟩
    have bq0 : Below wx.heap.size wx q0 := by rw [hq0]; exact (Below.refl _ _).drew
    refine gC_start (fun w' => Below wx.heap.size wx w') [12, 13, 14, 15] 16 (by kernel_rfl) rfl ?_
    refine gC_take [0, 1, 2, 3, 4, 5, 6, 7, 8, 9, 10] (f := 5) (l' := #[true, true, true, true, true, true, true, true, true, true, true, false, false, false, false, false]) (lT := [_, _, _, _, _, _, _, _, _, _, _]) (by rw [← hq0]; exact bq0) rfl (by kernel_rfl) (by kernel_rfl) (by kernel_rfl) rfl (fun _ _ d _ _ h => by cases d <;> exact h) ?_
    repeat (first | ((refine takeY_skip (a' := ?_) ?_ ?_ ?_); (rotate_left); (· (simp [Region.wanted, yielded, Go.undef]; done)); (· (simp only [List.getElem_toArray, List.getElem_cons_zero, List.getElem_cons_succ, Act.put, List.setIfInBounds_toArray, List.set_cons_zero, List.set_cons_succ]; exact rfl))) | ((refine takeY_step (v := ?_) (a' := ?_) ?_ ?_ ?_ ?_); (rotate_left 2); (· (simp [Region.wanted, yielded, Go.undef]; done)); (· (intro w' hS'; go_simp; try (with_reducible rfl))); (· (simp only [List.getElem_toArray, List.getElem_cons_zero, List.getElem_cons_succ, Act.put, List.setIfInBounds_toArray, List.set_cons_zero, List.set_cons_succ]; exact rfl))))
    refine takeY_nil ?_
    rw [← hq0]
    clear hq0
    refine gC_one (i := 11) (by kernel_rfl) rfl ?_
    · go_wp2_with (go_at_call 28; refine (subst_any kb nb kbs Ab cb 0 k1 n1 s1 A1 c1 _ (by omega) hsh1.out (by omega) (r1.below bq0) (by omega) hshb.out (rb.below bq0)).mono ?_; rw [hres.out]; intro e q1 hgo; obtain ⟨A7, c7, rfl, hl7, hfq1, hbq1⟩ := gotO_some hgo)
      have bq1 : Below wx.heap.size wx q1 := bq0.trans (hbq1.mono bq0.size)
      have lq1 := hbq1.size
      refine mid_intro bq1 ?_
      refine gC_takeT [12, 13] (f := 2) (l' := #[true, true, true, true, true, true, true, true, true, true, true, true, true, true, false, false]) (lT := [_, _]) rfl (by kernel_rfl) (by kernel_rfl) (by kernel_rfl) rfl (fun _ _ d _ _ h => by cases d <;> exact h) ?_
      repeat (first | ((refine takeY_skip (a' := ?_) ?_ ?_ ?_); (rotate_left); (· (simp [Region.wanted, yielded, Go.undef]; done)); (· (simp only [List.getElem_toArray, List.getElem_cons_zero, List.getElem_cons_succ, Act.put, List.setIfInBounds_toArray, List.set_cons_zero, List.set_cons_succ]; exact rfl))) | ((refine takeY_step (v := ?_) (a' := ?_) ?_ ?_ ?_ ?_); (rotate_left 2); (· (simp [Region.wanted, yielded, Go.undef]; done)); (· (intro w' hS'; go_simp; try (with_reducible rfl))); (· (simp only [List.getElem_toArray, List.getElem_cons_zero, List.getElem_cons_succ, Act.put, List.setIfInBounds_toArray, List.set_cons_zero, List.set_cons_succ]; exact rfl))))
      refine takeY_nil ?_
      refine gC_end [14, 15] (lB := [_, _]) (by simp) (by kernel_rfl) (by kernel_rfl) rfl ?_
      have hZ2 := hZx.keep bq1
      obtain ⟨d0, d1, d2⟩ := hZ2.three
      have e0 := hZ2.frozen 0
      have e1 := hZ2.frozen 1
      have e2 := hZ2.frozen 2
      have gf := gx.trans (bq1.mono gx.size)
      have sx := gx.size
      go_wp2_with fail
      refine bodyPost_ret (v := .tuple #[.agg #[.int .i64 kr, .int .i64 nr, .slice A7 rs.length c7], .bool true]) (by simp [results, Tryz.results98, go_sem, d0, d1, d2, zeroV]) rfl ⟨A7, c7, rfl, hl7, ?_, ?_⟩
      · exact ((((hfq1.mono (by have := bq0.size; omega)).setCell (by simp; omega) _).setCell (by simp; omega) _).setCell (by simp; omega) _).mono (by omega)
      · exact ((gf.setCell (by simp) _).setCell (by simp) _).setCell (by simp) _
set_option maxHeartbeats 8000000 in
set_option maxRecDepth 100000 in
theorem ctr_2 (n : Int) (t0 : Tm) (k1 n1 : Int) (s1 : List Tm) (t2 : Tm) (n3 : Int) (s3 : List Tm) (A : Option Addr) (c : Nat) (w : World) (hv : validT (.mk 9 n [t0, .mk k1 n1 s1, t2, .mk 7 n3 s3]) = true) (hr : Rd w A 0 [t0, .mk k1 n1 s1, t2, .mk 7 n3 s3]) :
    Calls Tryz.prog 98 #[.agg #[.int .i64 9, .int .i64 n, .slice A 4 c]] w (GotO w (some (.mk k1 n1 s1))) := by
  have har := hide (validT_arity hv).1
  have hrx := hide (show rdx 9 [t0, .mk k1 n1 s1, t2, .mk 7 n3 s3] = 2 from rfl)
  have hv1 := hide (validT_kid hv (t := .mk k1 n1 s1) (by simp))
  have hz1 := validT_size' hv1.out
  clear hv
  obtain ⟨b0, o0, k0', n0', ks0', A0, c0, hA0, hk0, i1, i2, i3, hl0, hr0⟩ := hr.at_ (j := 1) (by simp)
  injection hk0 with e1 e2 e3
  subst e1 e2 e3 hA0
  simp only [Nat.zero_mul, Nat.add_zero, Nat.one_mul, Nat.reduceMul] at i1 i2 i3
  have q5 := ((Keeps.alloc w (.cells #[.int .i64 9, .int .i64 n, .slice (some ⟨b0, o0, none⟩) 4 c] 27)).trans (Keeps.alloc _ (.cells #[.int .i64 0, .int .i64 0, .slice none 0 0] 27)))
  go_enter Tryz.func98, Tryz.ntmps98
  go_wp2_with (first
    | (go_at_call 25; have _t := tok2; refine (valid_yes k1 n1 s1 A8 c8 _ (by omega) hf8.rd hv1.out).mono ?_; rintro e w9 ⟨rfl, hb9⟩; have hZ9 := hZ8.keep hb9; have g9 := g8.trans (hb9.mono g8.size); have hf9 := hf8.below hb9; obtain ⟨d0, d1, d2⟩ := hZ9.three; have e0 := hZ9.frozen 0; have e1 := hZ9.frozen 1; have e2 := hZ9.frozen 2)
    | (go_at_call 73; have _t := tok1; refine (own_any (s1.length + sizes s1 + 1) k1 n1 s1 A0 c0 _ (by omega) (by omega) rP).mono ?_; rintro e w8 ⟨A8, c8, rfl, hl8, hf8, hb8⟩; have hZ8 := hZ.keep hb8; have g8 := g1.trans (hb8.mono g1.size); have tok2 := trivial)
    | (go_at_call 75; refine (iRedex_any 9 n [t0, .mk k1 n1 s1, t2, .mk 7 n3 s3] _ c _ (by simp) har.out ((hr.alloc _).alloc _)).mono ?_; rw [hrx.out]; rintro e w1 ⟨rfl, hb1⟩; have hX := ((Blk.new_ w 27 #[.int .i64 9, .int .i64 n, .slice (some ⟨b0, o0, none⟩) 4 c] rfl).alloc (.cells #[.int .i64 0, .int .i64 0, .slice none 0 0] 27)).keep hb1; have hZ : Blk w1 (w.heap.size + 1) #[.int .i64 0, .int .i64 0, .slice none 0 0] := (Blk.new_ _ 27 _ (by simp)).keep hb1; have g1 : Below w.heap.size w w1 := (((Below.refl _ _).alloc (Nat.le_refl _) _).alloc (by simp) _).trans (hb1.mono (by simp; omega)); obtain ⟨x0, x1, x2⟩ := hX.three; have y0 := (Keeps.of_below g1) _ _ i1; have y1 := (Keeps.of_below g1) _ _ i2; have y2 := (Keeps.of_below g1) _ _ i3;  have rP := hr0.below g1; have tok1 := trivial))
  have sz := g1.size
  have s8 := hb8.size
  refine bodyPost_ret (v := .tuple #[.agg #[.int .i64 k1, .int .i64 n1, .slice A8 s1.length c8], .bool true]) (by simp [results, Tryz.results98, go_sem, d0, d1, d2]) rfl ⟨A8, c8, rfl, hl8, ?_, ?_⟩
  · exact (((hf9.setCell (by have := hZ.lt; simp; omega) _).setCell (by have := hZ.lt; simp; omega) _).setCell (by have := hZ.lt; simp; omega) _).mono sz
  · exact ((g9.setCell (by simp) _).setCell (by simp) _).setCell (by simp) _
set_option maxHeartbeats 8000000 in
set_option maxRecDepth 100000 in
theorem ctr_4 (n : Int) (t0 : Tm) (n3 : Int) (s3 : List Tm) (k1 n1 : Int) (s1 : List Tm) (A : Option Addr) (c : Nat) (w : World) (hv : validT (.mk 12 n [t0, .mk 11 n3 s3, .mk k1 n1 s1]) = true) (hr : Rd w A 0 [t0, .mk 11 n3 s3, .mk k1 n1 s1]) :
    Calls Tryz.prog 98 #[.agg #[.int .i64 12, .int .i64 n, .slice A 3 c]] w (GotO w (some (.mk k1 n1 s1))) := by
  have har := hide (validT_arity hv).1
  have hrx := hide (show rdx 12 [t0, .mk 11 n3 s3, .mk k1 n1 s1] = 4 from rfl)
  have hv1 := hide (validT_kid hv (t := .mk k1 n1 s1) (by simp))
  have hz1 := validT_size' hv1.out
  clear hv
  obtain ⟨b0, o0, k0', n0', ks0', A0, c0, hA0, hk0, i1, i2, i3, hl0, hr0⟩ := hr.at_ (j := 2) (by simp)
  injection hk0 with e1 e2 e3
  subst e1 e2 e3 hA0
  simp only [Nat.zero_mul, Nat.add_zero, Nat.one_mul, Nat.reduceMul] at i1 i2 i3
  have q5 := ((Keeps.alloc w (.cells #[.int .i64 12, .int .i64 n, .slice (some ⟨b0, o0, none⟩) 3 c] 27)).trans (Keeps.alloc _ (.cells #[.int .i64 0, .int .i64 0, .slice none 0 0] 27)))
  go_enter Tryz.func98, Tryz.ntmps98
  go_wp2_with (first
    | (go_at_call 25; have _t := tok2; refine (valid_yes k1 n1 s1 A8 c8 _ (by omega) hf8.rd hv1.out).mono ?_; rintro e w9 ⟨rfl, hb9⟩; have hZ9 := hZ8.keep hb9; have g9 := g8.trans (hb9.mono g8.size); have hf9 := hf8.below hb9; obtain ⟨d0, d1, d2⟩ := hZ9.three; have e0 := hZ9.frozen 0; have e1 := hZ9.frozen 1; have e2 := hZ9.frozen 2)
    | (go_at_call 73; have _t := tok1; refine (own_any (s1.length + sizes s1 + 1) k1 n1 s1 A0 c0 _ (by omega) (by omega) rP).mono ?_; rintro e w8 ⟨A8, c8, rfl, hl8, hf8, hb8⟩; have hZ8 := hZ.keep hb8; have g8 := g1.trans (hb8.mono g1.size); have tok2 := trivial)
    | (go_at_call 75; refine (iRedex_any 12 n [t0, .mk 11 n3 s3, .mk k1 n1 s1] _ c _ (by simp) har.out ((hr.alloc _).alloc _)).mono ?_; rw [hrx.out]; rintro e w1 ⟨rfl, hb1⟩; have hX := ((Blk.new_ w 27 #[.int .i64 12, .int .i64 n, .slice (some ⟨b0, o0, none⟩) 3 c] rfl).alloc (.cells #[.int .i64 0, .int .i64 0, .slice none 0 0] 27)).keep hb1; have hZ : Blk w1 (w.heap.size + 1) #[.int .i64 0, .int .i64 0, .slice none 0 0] := (Blk.new_ _ 27 _ (by simp)).keep hb1; have g1 : Below w.heap.size w w1 := (((Below.refl _ _).alloc (Nat.le_refl _) _).alloc (by simp) _).trans (hb1.mono (by simp; omega)); obtain ⟨x0, x1, x2⟩ := hX.three; have y0 := (Keeps.of_below g1) _ _ i1; have y1 := (Keeps.of_below g1) _ _ i2; have y2 := (Keeps.of_below g1) _ _ i3;  have rP := hr0.below g1; have tok1 := trivial))
  have sz := g1.size
  have s8 := hb8.size
  refine bodyPost_ret (v := .tuple #[.agg #[.int .i64 k1, .int .i64 n1, .slice A8 s1.length c8], .bool true]) (by simp [results, Tryz.results98, go_sem, d0, d1, d2]) rfl ⟨A8, c8, rfl, hl8, ?_, ?_⟩
  · exact (((hf9.setCell (by have := hZ.lt; simp; omega) _).setCell (by have := hZ.lt; simp; omega) _).setCell (by have := hZ.lt; simp; omega) _).mono sz
  · exact ((g9.setCell (by simp) _).setCell (by simp) _).setCell (by simp) _
set_option maxHeartbeats 8000000 in
set_option maxRecDepth 100000 in
theorem ctr_5 (n : Int) (n3 : Int) (t0 : Tm) (k1 n1 : Int) (s1 : List Tm) (t2 : Tm) (A : Option Addr) (c : Nat) (w : World) (hv : validT (.mk 15 n [.mk 14 n3 [t0, .mk k1 n1 s1, t2]]) = true) (hr : Rd w A 0 [.mk 14 n3 [t0, .mk k1 n1 s1, t2]]) :
    Calls Tryz.prog 98 #[.agg #[.int .i64 15, .int .i64 n, .slice A 1 c]] w (GotO w (some (.mk k1 n1 s1))) := by
  have har := hide (validT_arity hv).1
  have hrx := hide (show rdx 15 [.mk 14 n3 [t0, .mk k1 n1 s1, t2]] = 5 from rfl)
  have hv1 := hide (validT_kid (validT_kid hv (t := .mk 14 n3 [t0, .mk k1 n1 s1, t2]) (by simp)) (t := .mk k1 n1 s1) (by simp))
  have hz1 := validT_size' hv1.out
  clear hv
  obtain ⟨b0, o0, k0', n0', ks0', A0, c0, hA0, hk0, i1, i2, i3, hl0, hr0⟩ := hr.at_ (j := 0) (by simp)
  injection hk0 with e1 e2 e3
  subst e1 e2 e3 hA0
  simp only [Nat.zero_mul, Nat.add_zero, Nat.one_mul, Nat.reduceMul] at i1 i2 i3
  obtain ⟨bb, ob, kb', nb', kbs', Ab, cb, hAb, hkb, m1, m2, m3, hlb, hrb⟩ := hr0.at_ (j := 1) (by simp)
  injection hkb with e1 e2 e3
  subst e1 e2 e3 hAb
  simp only [Nat.zero_mul, Nat.add_zero, Nat.one_mul, Nat.reduceMul] at m1 m2 m3
  have q5 := ((Keeps.alloc w (.cells #[.int .i64 15, .int .i64 n, .slice (some ⟨b0, o0, none⟩) 1 c] 27)).trans (Keeps.alloc _ (.cells #[.int .i64 0, .int .i64 0, .slice none 0 0] 27)))
  go_enter Tryz.func98, Tryz.ntmps98
  go_wp2_with (first
    | (go_at_call 25; have _t := tok2; refine (valid_yes k1 n1 s1 A8 c8 _ (by omega) hf8.rd hv1.out).mono ?_; rintro e w9 ⟨rfl, hb9⟩; have hZ9 := hZ8.keep hb9; have g9 := g8.trans (hb9.mono g8.size); have hf9 := hf8.below hb9; obtain ⟨d0, d1, d2⟩ := hZ9.three; have e0 := hZ9.frozen 0; have e1 := hZ9.frozen 1; have e2 := hZ9.frozen 2)
    | (go_at_call 73; have _t := tok1; refine (own_any (s1.length + sizes s1 + 1) k1 n1 s1 Ab cb _ (by omega) (by omega) rP).mono ?_; rintro e w8 ⟨A8, c8, rfl, hl8, hf8, hb8⟩; have hZ8 := hZ.keep hb8; have g8 := g1.trans (hb8.mono g1.size); have tok2 := trivial)
    | (go_at_call 75; refine (iRedex_any 15 n [.mk 14 n3 [t0, .mk k1 n1 s1, t2]] _ c _ (by simp) har.out ((hr.alloc _).alloc _)).mono ?_; rw [hrx.out]; rintro e w1 ⟨rfl, hb1⟩; have hX := ((Blk.new_ w 27 #[.int .i64 15, .int .i64 n, .slice (some ⟨b0, o0, none⟩) 1 c] rfl).alloc (.cells #[.int .i64 0, .int .i64 0, .slice none 0 0] 27)).keep hb1; have hZ : Blk w1 (w.heap.size + 1) #[.int .i64 0, .int .i64 0, .slice none 0 0] := (Blk.new_ _ 27 _ (by simp)).keep hb1; have g1 : Below w.heap.size w w1 := (((Below.refl _ _).alloc (Nat.le_refl _) _).alloc (by simp) _).trans (hb1.mono (by simp; omega)); obtain ⟨x0, x1, x2⟩ := hX.three; have y0 := (Keeps.of_below g1) _ _ i1; have y1 := (Keeps.of_below g1) _ _ i2; have y2 := (Keeps.of_below g1) _ _ i3; have z0 := (Keeps.of_below g1) _ _ m1; have z1 := (Keeps.of_below g1) _ _ m2; have z2 := (Keeps.of_below g1) _ _ m3; have rP := hrb.below g1; have tok1 := trivial))
  have sz := g1.size
  have s8 := hb8.size
  refine bodyPost_ret (v := .tuple #[.agg #[.int .i64 k1, .int .i64 n1, .slice A8 s1.length c8], .bool true]) (by simp [results, Tryz.results98, go_sem, d0, d1, d2]) rfl ⟨A8, c8, rfl, hl8, ?_, ?_⟩
  · exact (((hf9.setCell (by have := hZ.lt; simp; omega) _).setCell (by have := hZ.lt; simp; omega) _).setCell (by have := hZ.lt; simp; omega) _).mono sz
  · exact ((g9.setCell (by simp) _).setCell (by simp) _).setCell (by simp) _
set_option maxHeartbeats 8000000 in
set_option maxRecDepth 100000 in
theorem ctr_6 (n : Int) (n3 : Int) (t0 t1 : Tm) (k1 n1 : Int) (s1 : List Tm) (A : Option Addr) (c : Nat) (w : World) (hv : validT (.mk 16 n [.mk 14 n3 [t0, t1, .mk k1 n1 s1]]) = true) (hr : Rd w A 0 [.mk 14 n3 [t0, t1, .mk k1 n1 s1]]) :
    Calls Tryz.prog 98 #[.agg #[.int .i64 16, .int .i64 n, .slice A 1 c]] w (GotO w (some (.mk k1 n1 s1))) := by
  have har := hide (validT_arity hv).1
  have hrx := hide (show rdx 16 [.mk 14 n3 [t0, t1, .mk k1 n1 s1]] = 6 from rfl)
  have hv1 := hide (validT_kid (validT_kid hv (t := .mk 14 n3 [t0, t1, .mk k1 n1 s1]) (by simp)) (t := .mk k1 n1 s1) (by simp))
  have hz1 := validT_size' hv1.out
  clear hv
  obtain ⟨b0, o0, k0', n0', ks0', A0, c0, hA0, hk0, i1, i2, i3, hl0, hr0⟩ := hr.at_ (j := 0) (by simp)
  injection hk0 with e1 e2 e3
  subst e1 e2 e3 hA0
  simp only [Nat.zero_mul, Nat.add_zero, Nat.one_mul, Nat.reduceMul] at i1 i2 i3
  obtain ⟨bb, ob, kb', nb', kbs', Ab, cb, hAb, hkb, m1, m2, m3, hlb, hrb⟩ := hr0.at_ (j := 2) (by simp)
  injection hkb with e1 e2 e3
  subst e1 e2 e3 hAb
  simp only [Nat.zero_mul, Nat.add_zero, Nat.one_mul, Nat.reduceMul] at m1 m2 m3
  have q5 := ((Keeps.alloc w (.cells #[.int .i64 16, .int .i64 n, .slice (some ⟨b0, o0, none⟩) 1 c] 27)).trans (Keeps.alloc _ (.cells #[.int .i64 0, .int .i64 0, .slice none 0 0] 27)))
  go_enter Tryz.func98, Tryz.ntmps98
  go_wp2_with (first
    | (go_at_call 25; have _t := tok2; refine (valid_yes k1 n1 s1 A8 c8 _ (by omega) hf8.rd hv1.out).mono ?_; rintro e w9 ⟨rfl, hb9⟩; have hZ9 := hZ8.keep hb9; have g9 := g8.trans (hb9.mono g8.size); have hf9 := hf8.below hb9; obtain ⟨d0, d1, d2⟩ := hZ9.three; have e0 := hZ9.frozen 0; have e1 := hZ9.frozen 1; have e2 := hZ9.frozen 2)
    | (go_at_call 73; have _t := tok1; refine (own_any (s1.length + sizes s1 + 1) k1 n1 s1 Ab cb _ (by omega) (by omega) rP).mono ?_; rintro e w8 ⟨A8, c8, rfl, hl8, hf8, hb8⟩; have hZ8 := hZ.keep hb8; have g8 := g1.trans (hb8.mono g1.size); have tok2 := trivial)
    | (go_at_call 75; refine (iRedex_any 16 n [.mk 14 n3 [t0, t1, .mk k1 n1 s1]] _ c _ (by simp) har.out ((hr.alloc _).alloc _)).mono ?_; rw [hrx.out]; rintro e w1 ⟨rfl, hb1⟩; have hX := ((Blk.new_ w 27 #[.int .i64 16, .int .i64 n, .slice (some ⟨b0, o0, none⟩) 1 c] rfl).alloc (.cells #[.int .i64 0, .int .i64 0, .slice none 0 0] 27)).keep hb1; have hZ : Blk w1 (w.heap.size + 1) #[.int .i64 0, .int .i64 0, .slice none 0 0] := (Blk.new_ _ 27 _ (by simp)).keep hb1; have g1 : Below w.heap.size w w1 := (((Below.refl _ _).alloc (Nat.le_refl _) _).alloc (by simp) _).trans (hb1.mono (by simp; omega)); obtain ⟨x0, x1, x2⟩ := hX.three; have y0 := (Keeps.of_below g1) _ _ i1; have y1 := (Keeps.of_below g1) _ _ i2; have y2 := (Keeps.of_below g1) _ _ i3; have z0 := (Keeps.of_below g1) _ _ m1; have z1 := (Keeps.of_below g1) _ _ m2; have z2 := (Keeps.of_below g1) _ _ m3; have rP := hrb.below g1; have tok1 := trivial))
  have sz := g1.size
  have s8 := hb8.size
  refine bodyPost_ret (v := .tuple #[.agg #[.int .i64 k1, .int .i64 n1, .slice A8 s1.length c8], .bool true]) (by simp [results, Tryz.results98, go_sem, d0, d1, d2]) rfl ⟨A8, c8, rfl, hl8, ?_, ?_⟩
  · exact (((hf9.setCell (by have := hZ.lt; simp; omega) _).setCell (by have := hZ.lt; simp; omega) _).setCell (by have := hZ.lt; simp; omega) _).mono sz
  · exact ((g9.setCell (by simp) _).setCell (by simp) _).setCell (by simp) _
end Go.Proofs.YthgmofdfecioaaaGreatDoor
