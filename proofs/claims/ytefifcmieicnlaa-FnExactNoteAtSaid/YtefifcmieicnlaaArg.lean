/-
  An argument of a law that is a term, or a list of terms, opened: what the row's reading says of memory. No condition.
-/
import Derived.Test.YtefifcmieicnlaaMem
import Derived.WalkKit
import Derived.ProofKit
import Derived.OpenShut
import Derived.JoinedCond
import Derived.Deep.Slices
import Derived.Deep.Fields
import Derived.ChangeSame
import Derived.Below
import Derived.Carry
import Derived.Lib.SmallJoins
namespace Go.Proofs.Ytefifcmieicnlaa
open Go.ChangeShapes Go.WideShapes Go.ChangeAt Go.RowKit Go.Deep Go.Joins
set_option linter.unusedSimpArgs false
set_option linter.unusedVariables false

section
variable {H : Type} {enc : TypeId × Value → H} {W : World} {base : Nat} {spare : Nat → Bool} {held : Bool}

theorem struct3_down {P : Program} {t : TypeId} {f0 f1 f2 : Field} {fuel : Nat} {cs : List Value} {x : DataW H × List MemPlace} (ht : P.underlying t = some (.struct #[f0, f1, f2])) (h : DataW.trod enc P W base spare held fuel t cs = some x) :
    ∃ y0 y1 y2 n, n < fuel ∧ cs.length = P.cellsOf t ∧ DataW.trod enc P W base spare held n f0.type ((cs.drop f0.offset).take (P.cellsOf f0.type)) = some y0 ∧
      DataW.trod enc P W base spare held n f1.type ((cs.drop f1.offset).take (P.cellsOf f1.type)) = some y1 ∧ DataW.trod enc P W base spare held n f2.type ((cs.drop f2.offset).take (P.cellsOf f2.type)) = some y2 := by
  obtain ⟨xs, n, rfl, rfl, hl, hlen, hf⟩ := DataW.trod_struct ht h
  match xs, hlen with
  | [y0, y1, y2], _ => exact ⟨y0, y1, y2, n, Nat.lt_succ_self _, hl, by simpa using hf 0 f0 rfl, by simpa using hf 1 f1 rfl, by simpa using hf 2 f2 rfl⟩

set_option maxRecDepth 100000 in
theorem open_node {n : Nat} {cs : List Value} {y : DataW H × List MemPlace} (h : DataW.trod enc Try.prog W base spare held n 24 cs = some y) :
    ∃ (k m : Int) (v : Value) (z : DataW H × List MemPlace) (n' : Nat), cs = [.int .i64 k, .int .i64 m, v] ∧ n' < n ∧ DataW.trod enc Try.prog W base spare held n' 22 [v] = some z := by
  obtain ⟨y0, y1, y2, n', hn, hl, h0, h1, h2⟩ := struct3_down Try.underlying24 h
  have hC : Try.prog.cellsOf 24 = 3 := by kernel_rfl
  have hC3 : Try.prog.cellsOf 3 = 1 := by kernel_rfl
  have hC22 : Try.prog.cellsOf 22 = 1 := by kernel_rfl
  rw [hC] at hl
  match cs, hl with
  | [c0, c1, c2], _ =>
    dsimp only at h0 h1 h2
    rw [hC3] at h0 h1
    rw [hC22] at h2
    obtain ⟨k, hk, _⟩ := DataW.trod_int Try.underlying3 h0
    obtain ⟨m, hm, _⟩ := DataW.trod_int Try.underlying3 h1
    simp at hk hm
    subst hk
    subst hm
    exact ⟨k, m, c2, _, n', rfl, hn, by simpa using h2⟩

set_option maxRecDepth 100000 in
theorem open_terms : ∀ (fuel : Nat) (v : Value) (x : DataW H × List MemPlace), DataW.trod enc Try.prog W base spare held fuel 22 [v] = some x →
    ∃ (ks : List Tm) (A : Option Addr) (c : Nat), v = .slice A ks.length c ∧ ks.length ≤ 9223372036854775807 ∧ Rd W A 0 ks := by
  intro fuel
  induction fuel using Nat.strongRecOn with
  | _ fuel ih =>
  intro v x h
  rcases DataW.trod_slice Try.underlying22 h with ⟨hv, _⟩ | ⟨a, len, cap, elems, rest, n, rfl, hv, rfl, hb, hl, hm, hlen, hel, _, _⟩
  · simp at hv
    subst hv
    exact ⟨[], none, 0, rfl, by simp, by rw [Rd]; trivial⟩
  · simp at hv
    subst hv
    have hC : Try.prog.cellsOf 24 = 3 := by kernel_rfl
    simp only [hC] at hel
    have hmax : maxLen ≤ 9223372036854775807 := by decide
    have hat : ∀ i, i < len → ∃ (k m : Int) (u : Value) (z : DataW H × List MemPlace) (n' : Nat), n' < n + 1 ∧ DataW.trod enc Try.prog W base spare held n' 22 [u] = some z ∧
        W.cell? ((a.add (i * 3)).add 0) = some (.int .i64 k) ∧ W.cell? ((a.add (i * 3)).add 1) = some (.int .i64 m) ∧ W.cell? ((a.add (i * 3)).add 2) = some u := by
      intro i hi
      have hx := hel i hi
      rw [List.getElem?_eq_getElem (by omega)] at hx
      obtain ⟨cs', h1, h2⟩ := Option.bind_eq_some_iff.1 hx
      obtain ⟨k, m, u, z, n', rfl, hn, hz⟩ := open_node h2
      obtain ⟨_, _, hc⟩ := World.cells?_some h1
      exact ⟨k, m, u, z, n', by omega, hz, hc 0 (by omega), hc 1 (by omega), hc 2 (by omega)⟩
    obtain ⟨b, off, spot⟩ := a
    by_cases hz : len = 0
    · subst hz
      exact ⟨[], some ⟨b, off, spot⟩, cap, rfl, by simp, by rw [Rd]; trivial⟩
    · have hspot : spot = none := by
        obtain ⟨k, m, u, z, n', _, _, h0, _⟩ := hat 0 (by omega)
        have := World.cell?_spot h0
        simpa [Addr.add] using this
      subst hspot
      have hall : ∀ m i, i + m = len → ∃ ks : List Tm, ks.length = m ∧ Rd W (some ⟨b, off, none⟩) i ks := by
        intro m
        induction m with
        | zero => intro i _; exact ⟨[], rfl, by rw [Rd]; trivial⟩
        | succ m ihm =>
          intro i hi
          obtain ⟨ts, hts, hrs⟩ := ihm (i + 1) (by omega)
          obtain ⟨k, q, u, z, n', hn, hz', h0, h1, h2⟩ := hat i (by omega)
          rw [add_plain, add_plain] at h0 h1 h2
          obtain ⟨ks, A, c, rfl, hlk, hrk⟩ := ih n' hn u z hz'
          exact ⟨.mk k q ks :: ts, by simp [hts], Rd.cons_iff.2 ⟨⟨b, off, rfl, RdC.iff.2 ⟨h0, h1, A, c, h2, hlk, hrk⟩⟩, hrs⟩⟩
      obtain ⟨ks, hks, hrk⟩ := hall len 0 (by omega)
      subst hks
      exact ⟨ks, some ⟨b, off, none⟩, cap, rfl, by omega, hrk⟩

set_option maxRecDepth 100000 in
/-- an argument that is a term -/
theorem open_term {r : Reach} {b0 : Nat} {v : Value} {d : DataW H} {p : List MemPlace} (hv : Value.okWide Try.prog W r b0 24 v) (h : DataW.Trod enc Try.prog W base spare held 24 v d p) :
    ∃ (k n : Int) (ks : List Tm) (A : Option Addr) (c : Nat), v = .agg #[.int .i64 k, .int .i64 n, .slice A ks.length c] ∧ ks.length ≤ 9223372036854775807 ∧ Rd W A 0 ks := by
  obtain ⟨cs, rfl, hsz⟩ := okWide_struct Try.underlying24 hv
  obtain ⟨fuel, hf⟩ := h
  obtain ⟨k, n, u, z, n', hcs, _, hz⟩ := open_node hf
  obtain ⟨ks, A, c, rfl, hl, hr⟩ := open_terms n' u z hz
  refine ⟨k, n, ks, A, c, ?_, hl, hr⟩
  have : cs.toList = [.int .i64 k, .int .i64 n, .slice A ks.length c] := by simpa [Value.cells] using hcs
  cases cs
  simp at this
  rw [this]
end

section
variable {H : Type} {enc : TypeId × Value → H} {P : Program}
/-- the row's last step, where of the world behind the call 'Below' alone is known -/
theorem post_below {f : Func} {s : ChangeSpec} {apart fresh handsOn again : Bool} {W W' : World} {args : Array Value} {v : Value} {ds gs : List (DataW H)} {before pa pv : List MemPlace}
    (hW : DataW.Whole enc P f.params.toList s.vars apart W args.toList ds gs before)
    (hres : ∀ (b : Nat) (sp : Nat → Bool) (hd : Bool), DataW.TrodAll enc P W' b sp hd f.resultTypes.toList (v.resultList f.resultTypes.size) (s.fn H (ds ++ gs)).results [])
    (hargs : ∀ sp : Nat → Bool, (∀ p ∈ before, sp p.block = true) → DataW.TrodAll enc P W' 0 sp true f.params.toList args.toList (s.fn H (ds ++ gs)).args pa)
    (hvars : ∀ sp : Nat → Bool, (∀ p ∈ before, sp p.block = true) → DataW.TrodVars enc P W' sp s.vars (s.fn H (ds ++ gs)).vars pv)
    (hps : before = pa ++ pv) (hb : Below W.heap.size W W')
    (hok : ∀ (j : Nat) (t : TypeId) (r : Value), f.resultTypes[j]? = some t → (v.resultList f.resultTypes.size)[j]? = some r → Value.okWide P W' .any 0 t r) :
    s.post enc P f apart fresh handsOn again W args v W' := by
  have hlt : ∀ p ∈ before, p.block < W.heap.size := fun p hp => hW.lt p hp
  have hold : ∀ p ∈ before, (fun b => decide (b < W.heap.size)) p.block = true := fun p hp => by simpa using hlt p hp
  refine ⟨ds, gs, before, [], pa, pv, hW, hres _ _ _, hargs _ hold, hvars _ hold, World.keptBut_mono (fun p hp => ⟨hp, ?_⟩) (hb.frame (· ∈ before)), fun _ => ?_⟩
  · rw [hps, List.mem_append] at hp
    exact Or.inr hp
  · obtain ⟨_, _, _, _, _, hz, hn⟩ := hW
    refine ⟨hok, _, _, ([] ++ pa) ++ pv, ⟨[] ++ pa, pv, trodAll_append (hargs _ (fun _ _ => rfl)) (hres _ _ _), hvars _ (fun _ _ => rfl), rfl, ?_, ?_⟩, ?_⟩
    · intro b off hp
      have hin : MemPlace.cell b off ∈ before := by rw [hps]; simpa using hp
      rw [hb.frozen (hlt _ hin)]
      exact hz b off hin
    · intro ha
      have := hn ha
      rw [hps] at this
      simpa using this
    · intro p hp _
      rw [hps]
      simpa using hp
end
end Go.Proofs.Ytefifcmieicnlaa
