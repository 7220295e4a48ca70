/-
  The statement FnCommonPatternSaid, proved.
-/
import Derived.Test.YtodkenpmhhbppaaK3
import Derived.Test.YtodkenpmhhbppaaK12
import Derived.Test.YtodkenpmhhbppaaK36

namespace Go.Proofs.Ytodkenpmhhbppaa
open Go.RowKit
set_option linter.unusedSimpArgs false
set_option linter.unusedVariables false

set_option maxHeartbeats 8000000 in
set_option maxRecDepth 100000 in
theorem lawCommonPattern_any (bs : List Int) (A : Option Addr) (c : Nat) (w : World) (hl : bs.length ≤ 9223372036854775807) (hc : bs.length ≤ c) (hr : RdY w A bs) :
    Calls Try.prog 14 #[.slice A bs.length c] w fun e w' => e = .returned (.bool true) ∧ Below w.heap.size w w' := by
  by_cases hbig : 1048576 < bs.length
  · go_enter Try.func14, Try.ntmps14
    go_wp2_with fail
    go_ret
    exact ⟨rfl, Below.refl _ _⟩
  · go_enter Try.func14, Try.ntmps14
    go_upto_region 4 with (go_at_call 39; refine (drawCmp_any bs A c _ hl hc hr).mono ?_; rintro e w1 ⟨k, n, ks, A1, c1, ku, nu, us, U1, cu, rfl, hlk, hlu, hsk, hsu, hrk, hru, hb1⟩)
    refine name_world ?_
    intro w2 hw2
    have hX : Blk w2 w1.heap.size #[.int .i64 k, .int .i64 n, .slice A1 ks.length c1] := by rw [hw2]; exact (Blk.new_ _ 25 _ rfl).alloc _
    have hU : Blk w2 (w1.heap.size + 1) #[.int .i64 ku, .int .i64 nu, .slice U1 us.length cu] := by rw [hw2]; exact Blk.new_ _ 25 _ (by simp)
    have rk : Rd w2 A1 0 ks := by rw [hw2]; exact (hrk.alloc _).alloc _
    have ru : Rd w2 U1 0 us := by rw [hw2]; exact (hru.alloc _).alloc _
    have g2 : Below w.heap.size w w2 := by rw [hw2]; exact by_alloc (by_alloc hb1 _) _
    clear hw2
    have lX := hX.lt
    have lU := hU.lt
    obtain ⟨p0, p1, p2⟩ := hX.three
    obtain ⟨u0, u1, u2⟩ := hU.three
    obtain ⟨res, hres⟩ : ∃ res, cpI (.mk k n ks) (.mk ku nu us) = res := ⟨_, rfl⟩
    have hcs := hide ((cp_eq (.mk k n ks) (.mk ku nu us)).trans hres)
    have hcp := hide hres
    clear hres
    cases res with
    | none =>
      go_upto_region 6 with (first
        | (go_at_call 41; have _t := tok3; refine (sCommonPattern_any k n ks A1 c1 ku nu us U1 cu _ (by omega) (by omega) ((rk.keeps K23).alloc _) ((ru.keeps K23).alloc _)).mono ?_; rw [hcs.out]; intro e w4 hgo; obtain ⟨X4, c4, rfl, hb4⟩ := cpS_noneE hgo; clear hgo)
        | (go_at_call 40; refine (iCommonPattern_any k n ks A1 c1 ku nu us U1 cu _ (by omega) (by omega) rk ru).mono ?_; rw [hcp.out]; intro e w3 hgo; obtain ⟨rfl, hb3⟩ := hgo; have g3 := g2.trans (hb3.mono g2.size); have K23 := Keeps.of_below hb3; have hX3 := hX.keep hb3; have hU3 := hU.keep hb3; clear p0 p1 p2 u0 u1 u2; obtain ⟨p0, p1, p2⟩ := hX3.three; obtain ⟨u0, u1, u2⟩ := hU3.three; have lX3 := hX3.lt; have lU3 := hU3.lt; have tok3 := trivial))
      refine name_world ?_
      intro wx hwx
      have g : Below w.heap.size w wx := by rw [hwx]; exact by_alloc ((by_alloc g3 _).trans (hb4.mono (by have := g3.size; simp; omega))) _
      have hY : Blk wx w3.heap.size #[.int .i64 0, .int .i64 0, .slice none 0 0] := by rw [hwx]; exact ((Blk.new_ w3 25 #[.int .i64 0, .int .i64 0, .slice none 0 0] rfl).keep hb4).alloc _
      have hZ : Blk wx w4.heap.size #[.int .i64 0, .int .i64 0, .slice none 0 0] := by rw [hwx]; exact Blk.new_ _ 25 _ rfl
      have K : Keeps wx wx := Keeps.refl _
      clear hwx p0 p1 p2 u0 u1 u2
      obtain ⟨q0, q1, q2⟩ := hY.three
      obtain ⟨z0, z1, z2⟩ := hZ.three
      have smz : ∀ w', Calls Try.prog 19 #[.agg #[.int .i64 0, .int .i64 0, .slice none 0 0], .agg #[.int .i64 0, .int .i64 0, .slice none 0 0]] w' fun e w'' => e = .returned (.bool true) ∧ Below w'.heap.size w' w'' := fun w' => by
        have h := iSame_any 0 0 [] none 0 0 0 [] none 0 w' (by simp) (by simp) Rd.nil Rd.nil
        rwa [tmEq_self] at h
      have dkz : ∀ w', Calls Try.prog 31 #[.slice none 0 0, .slice X4 0 c4] w' fun e w'' => e = .returned (.bool true) ∧ Below w'.heap.size w' w'' := fun w' => dk_same [] none 0 X4 c4 w' (by simp) Rd.nil Rd.nil
      have tok0 := trivial
      go_wp2_with (first
        | (go_at_call 31; have _t := tok5; refine (dkz _).mono ?_; rintro e w' ⟨rfl, hb'⟩; replace g := g.trans (hb'.mono g.size); replace K := K.trans (Keeps.of_below hb'); replace hY := hY.keep hb'; replace hZ := hZ.keep hb'; clear q0 q1 q2 z0 z1 z2; obtain ⟨q0, q1, q2⟩ := hY.three; obtain ⟨z0, z1, z2⟩ := hZ.three; clear tok5 _t; have tok6 := trivial)
        | (go_at_call 31; have _t := tok4; refine (dkz _).mono ?_; rintro e w' ⟨rfl, hb'⟩; replace g := g.trans (hb'.mono g.size); replace K := K.trans (Keeps.of_below hb'); replace hY := hY.keep hb'; replace hZ := hZ.keep hb'; clear q0 q1 q2 z0 z1 z2; obtain ⟨q0, q1, q2⟩ := hY.three; obtain ⟨z0, z1, z2⟩ := hZ.three; clear tok4 _t; have tok5 := trivial)
        | (go_at_call 19; have _t := tok3; refine (smz _).mono ?_; rintro e w' ⟨rfl, hb'⟩; replace g := g.trans (hb'.mono g.size); replace K := K.trans (Keeps.of_below hb'); replace hY := hY.keep hb'; replace hZ := hZ.keep hb'; clear q0 q1 q2 z0 z1 z2; obtain ⟨q0, q1, q2⟩ := hY.three; obtain ⟨z0, z1, z2⟩ := hZ.three; clear tok3 _t; have tok4 := trivial)
        | (go_at_call 31; have _t := tok2; refine (dkz _).mono ?_; rintro e w' ⟨rfl, hb'⟩; replace g := g.trans (hb'.mono g.size); replace K := K.trans (Keeps.of_below hb'); replace hY := hY.keep hb'; replace hZ := hZ.keep hb'; clear q0 q1 q2 z0 z1 z2; obtain ⟨q0, q1, q2⟩ := hY.three; obtain ⟨z0, z1, z2⟩ := hZ.three; clear tok2 _t; have tok3 := trivial)
        | (go_at_call 31; have _t := tok1; refine (dkz _).mono ?_; rintro e w' ⟨rfl, hb'⟩; replace g := g.trans (hb'.mono g.size); replace K := K.trans (Keeps.of_below hb'); replace hY := hY.keep hb'; replace hZ := hZ.keep hb'; clear q0 q1 q2 z0 z1 z2; obtain ⟨q0, q1, q2⟩ := hY.three; obtain ⟨z0, z1, z2⟩ := hZ.three; clear tok1 _t; have tok2 := trivial)
        | (go_at_call 19; have _t := tok0; refine (smz _).mono ?_; rintro e w' ⟨rfl, hb'⟩; replace g := g.trans (hb'.mono g.size); replace K := K.trans (Keeps.of_below hb'); replace hY := hY.keep hb'; replace hZ := hZ.keep hb'; clear q0 q1 q2 z0 z1 z2; obtain ⟨q0, q1, q2⟩ := hY.three; obtain ⟨z0, z1, z2⟩ := hZ.three; clear tok0 _t; have tok1 := trivial))
      go_ret
      exact ⟨rfl, g⟩
    | some pr =>
      obtain ⟨⟨kt, nt, kts⟩, l, r⟩ := pr
      obtain ⟨hvt, hva, hvb, h6, hrl, hval, hf1, hf2⟩ := cp_fill hcp.out
      simp only at h6 hrl hf1 hf2
      have hst := validT_size' hvt
      have hll := sizes_mul (fun x hx => validT_size (hval.1 x hx))
      have hlr := sizes_mul (fun x hx => validT_size (hval.2 x hx))
      simp only at hll hlr
      have hl6 : sizes l ≤ 2400 := by omega
      have hr6 : sizes r ≤ 2400 := by omega
      have hf1' := hide hf1
      have hf2' := hide hf2
      have hrl' := hide hrl
      have hlt := length_le_sizes kts
      clear hf1 hf2 hval hll hlr hrl hvt hva hvb
      go_upto_region 6 with (first
        | (go_at_call 41; have _t := tok3; refine (sCommonPattern_any k n ks A1 c1 ku nu us U1 cu _ (by omega) (by omega) ((rk.keeps K23).alloc _) ((ru.keeps K23).alloc _)).mono ?_; rw [hcs.out]; intro e w4 hgo; obtain ⟨A4, c4, L4, cl4, R4, cr4, rfl, -, r4, rl4, rr4, hb4⟩ := cpS_someE hgo; clear hgo)
        | (go_at_call 40; refine (iCommonPattern_any k n ks A1 c1 ku nu us U1 cu _ (by omega) (by omega) rk ru).mono ?_; rw [hcp.out]; intro e w3 hgo; obtain ⟨A3, c3, L3, cl3, R3, cr3, rfl, -, r3, rl3, rr3, hb3⟩ := cpS_someE hgo.cpS; clear hgo; have g3 := g2.trans (hb3.mono g2.size); have K23 := Keeps.of_below hb3; have hX3 := hX.keep hb3; have hU3 := hU.keep hb3; clear p0 p1 p2 u0 u1 u2; obtain ⟨p0, p1, p2⟩ := hX3.three; obtain ⟨u0, u1, u2⟩ := hU3.three; have lX3 := hX3.lt; have lU3 := hU3.lt; have tok3 := trivial))
      refine name_world ?_
      intro wx hwx
      have K3x : Keeps w3 wx := by rw [hwx]; exact ((Keeps.alloc _ _).trans (Keeps.of_below hb4)).trans (Keeps.alloc _ _)
      have K2x := K23.trans K3x
      have g : Below w.heap.size w wx := by rw [hwx]; exact by_alloc ((by_alloc g3 _).trans (hb4.mono (by have := g3.size; simp; omega))) _
      have hY : Blk wx w3.heap.size #[.int .i64 kt, .int .i64 nt, .slice A3 kts.length c3] := by rw [hwx]; exact ((Blk.new_ w3 25 _ rfl).keep hb4).alloc _
      have hZ : Blk wx w4.heap.size #[.int .i64 kt, .int .i64 nt, .slice A4 kts.length c4] := by rw [hwx]; exact Blk.new_ _ 25 _ rfl
      replace hX : Blk wx w1.heap.size #[.int .i64 k, .int .i64 n, .slice A1 ks.length c1] := by rw [hwx]; exact ((hX3.alloc _).keep hb4).alloc _
      replace hU : Blk wx (w1.heap.size + 1) #[.int .i64 ku, .int .i64 nu, .slice U1 us.length cu] := by rw [hwx]; exact ((hU3.alloc _).keep hb4).alloc _
      have s4 : Rd wx A4 0 kts := by rw [hwx]; exact r4.alloc _
      have t4 : Rd wx L4 0 l := by rw [hwx]; exact rl4.alloc _
      have v4 : Rd wx R4 0 r := by rw [hwx]; exact rr4.alloc _
      have s3 := r3.keeps K3x
      have t3 := rl3.keeps K3x
      have v3 := rr3.keeps K3x
      have ska := rk.keeps K2x
      have sub := ru.keeps K2x
      have K : Keeps wx wx := Keeps.refl _
      clear hwx p0 p1 p2 u0 u1 u2
      obtain ⟨p0, p1, p2⟩ := hX.three
      obtain ⟨u0, u1, u2⟩ := hU.three
      obtain ⟨q0, q1, q2⟩ := hY.three
      obtain ⟨z0, z1, z2⟩ := hZ.three
      have sm : ∀ w', Keeps wx w' → Calls Try.prog 19 #[.agg #[.int .i64 kt, .int .i64 nt, .slice A3 kts.length c3], .agg #[.int .i64 kt, .int .i64 nt, .slice A4 kts.length c4]] w' fun e w'' => e = .returned (.bool true) ∧ Below w'.heap.size w' w'' := fun w' K => by
        have h := iSame_any kt nt kts A3 c3 kt nt kts A4 c4 w' (by omega) (by omega) (s3.keeps K) (s4.keeps K)
        rwa [tmEq_self] at h
      have dkl : ∀ w', Keeps wx w' → Calls Try.prog 31 #[.slice L3 l.length cl3, .slice L4 l.length cl4] w' fun e w'' => e = .returned (.bool true) ∧ Below w'.heap.size w' w'' := fun w' K => dk_same l L3 cl3 L4 cl4 w' (by omega) (t3.keeps K) (t4.keeps K)
      have dkr : ∀ w', Keeps wx w' → Calls Try.prog 31 #[.slice R3 r.length cr3, .slice R4 r.length cr4] w' fun e w'' => e = .returned (.bool true) ∧ Below w'.heap.size w' w'' := fun w' K => dk_same r R3 cr3 R4 cr4 w' (by have := hrl'.out; omega) (v3.keeps K) (v4.keeps K)
      have fll : ∀ w', Keeps wx w' → Calls Try.prog 17 #[.agg #[.int .i64 kt, .int .i64 nt, .slice A3 kts.length c3], .slice L3 l.length cl3] w' (GotO w' (some (.mk k n ks))) := fun w' K => by
        have h := iFillTerm_any kt nt kts A3 c3 l L3 cl3 w' (by omega) (by omega) (s3.keeps K) (t3.keeps K)
        rwa [hf1'.out] at h
      have flr : ∀ w', Keeps wx w' → Calls Try.prog 17 #[.agg #[.int .i64 kt, .int .i64 nt, .slice A3 kts.length c3], .slice R3 r.length cr3] w' (GotO w' (some (.mk ku nu us))) := fun w' K => by
        have h := iFillTerm_any kt nt kts A3 c3 r R3 cr3 w' (by omega) (by omega) (s3.keeps K) (v3.keeps K)
        rwa [hf2'.out] at h
      rw [← hrl'.out] at dkr flr
      have tok0 := trivial
      go_upto_region 8 with (first
        | (go_at_call 31; have _t := tok2; refine (dkr _ K).mono ?_; rintro e w' ⟨rfl, hb'⟩; replace g := g.trans (hb'.mono g.size); replace K := K.trans (Keeps.of_below hb'); replace hX := hX.keep hb'; replace hU := hU.keep hb'; replace hY := hY.keep hb'; replace hZ := hZ.keep hb'; clear p0 p1 p2 u0 u1 u2 q0 q1 q2 z0 z1 z2; obtain ⟨p0, p1, p2⟩ := hX.three; obtain ⟨u0, u1, u2⟩ := hU.three; obtain ⟨q0, q1, q2⟩ := hY.three; obtain ⟨z0, z1, z2⟩ := hZ.three; clear tok2 _t; have tok3 := trivial)
        | (go_at_call 31; have _t := tok1; refine (dkl _ K).mono ?_; rintro e w' ⟨rfl, hb'⟩; replace g := g.trans (hb'.mono g.size); replace K := K.trans (Keeps.of_below hb'); replace hX := hX.keep hb'; replace hU := hU.keep hb'; replace hY := hY.keep hb'; replace hZ := hZ.keep hb'; clear p0 p1 p2 u0 u1 u2 q0 q1 q2 z0 z1 z2; obtain ⟨p0, p1, p2⟩ := hX.three; obtain ⟨u0, u1, u2⟩ := hU.three; obtain ⟨q0, q1, q2⟩ := hY.three; obtain ⟨z0, z1, z2⟩ := hZ.three; clear tok1 _t; have tok2 := trivial)
        | (go_at_call 19; have _t := tok0; refine (sm _ K).mono ?_; rintro e w' ⟨rfl, hb'⟩; replace g := g.trans (hb'.mono g.size); replace K := K.trans (Keeps.of_below hb'); replace hX := hX.keep hb'; replace hU := hU.keep hb'; replace hY := hY.keep hb'; replace hZ := hZ.keep hb'; clear p0 p1 p2 u0 u1 u2 q0 q1 q2 z0 z1 z2; obtain ⟨p0, p1, p2⟩ := hX.three; obtain ⟨u0, u1, u2⟩ := hU.three; obtain ⟨q0, q1, q2⟩ := hY.three; obtain ⟨z0, z1, z2⟩ := hZ.three; clear tok0 _t; have tok1 := trivial))
      go_upto_region 9 with (go_at_call 17; refine (fll _ K).mono ?_; intro e w' hgo; obtain ⟨A5, c5, rfl, -, hf5, hb'⟩ := gotO_someF hgo; clear hgo; replace g := g.trans (hb'.mono g.size); replace K := K.trans (Keeps.of_below hb'); replace hX := hX.keep hb'; replace hU := hU.keep hb'; replace hY := hY.keep hb'; replace hZ := hZ.keep hb'; have r5 := hf5.rd; clear hf5)
      refine name_world ?_
      intro wy hwy
      have Ky : Keeps w' wy := by rw [hwy]; exact Keeps.alloc _ _
      have gy : Below w.heap.size w wy := by rw [hwy]; exact by_alloc g _
      have h13 : Blk wy w'.heap.size #[.int .i64 k, .int .i64 n, .slice A5 ks.length c5] := by rw [hwy]; exact Blk.new_ _ 25 _ rfl
      replace hX : Blk wy w1.heap.size #[.int .i64 k, .int .i64 n, .slice A1 ks.length c1] := by rw [hwy]; exact hX.alloc _
      replace hU : Blk wy (w1.heap.size + 1) #[.int .i64 ku, .int .i64 nu, .slice U1 us.length cu] := by rw [hwy]; exact hU.alloc _
      replace hY : Blk wy w3.heap.size #[.int .i64 kt, .int .i64 nt, .slice A3 kts.length c3] := by rw [hwy]; exact hY.alloc _
      replace r5 : Rd wy A5 0 ks := by rw [hwy]; exact r5.alloc _
      replace K := K.trans Ky
      clear hwy p0 p1 p2 u0 u1 u2 q0 q1 q2 z0 z1 z2
      obtain ⟨q0, q1, q2⟩ := hY.three
      go_upto_region 10 with (go_at_call 17; refine (flr _ K).mono ?_; intro e w6 hgo; obtain ⟨A6, c6, rfl, -, hf6, hb6⟩ := gotO_someF hgo; clear hgo)
      refine name_world ?_
      intro wz hwz
      have Bz : Below wy.heap.size wy wz := by rw [hwz]; exact by_alloc hb6 _
      have h15 : Blk wz w6.heap.size #[.int .i64 ku, .int .i64 nu, .slice A6 us.length c6] := by rw [hwz]; exact Blk.new_ _ 25 _ rfl
      have r6 : Rd wz A6 0 us := by rw [hwz]; exact hf6.rd.alloc _
      clear hwz q0 q1 q2
      have gz := gy.trans (Bz.mono gy.size)
      have r5z := r5.below Bz
      have Kz := K.trans (Keeps.of_below Bz)
      have h13z := h13.keep Bz
      have hXz := hX.keep Bz
      have hUz := hU.keep Bz
      obtain ⟨p0, p1, p2⟩ := hXz.three
      obtain ⟨u0, u1, u2⟩ := hUz.three
      obtain ⟨q0, q1, q2⟩ := h13z.three
      obtain ⟨z0, z1, z2⟩ := h15.three
      go_wp2_with (first
        | (go_at_call 19; have _t := tok9; refine (iSame_any ku nu us A6 c6 ku nu us U1 cu _ hlu hlu (r6.below hb8) ((sub.keeps Kz).below hb8)).mono ?_; rw [tmEq_self]; rintro e w9 ⟨rfl, hb9⟩; have g9 := g8.trans (hb9.mono g8.size))
        | (go_at_call 19; refine (iSame_any k n ks A5 c5 k n ks A1 c1 _ hlk hlk r5z (ska.keeps Kz)).mono ?_; rw [tmEq_self]; rintro e w8 ⟨rfl, hb8⟩; have g8 := gz.trans (hb8.mono gz.size); have h15w := h15.keep hb8; have hUw := hUz.keep hb8; clear p0 p1 p2 u0 u1 u2 q0 q1 q2 z0 z1 z2; obtain ⟨u0, u1, u2⟩ := hUw.three; obtain ⟨z0, z1, z2⟩ := h15w.three; have tok9 := trivial))
      go_ret
      exact ⟨rfl, g9⟩
end Go.Proofs.Ytodkenpmhhbppaa

namespace Go.Proofs.Ytodkenpmhhbppaa.lCommonPattern
open Go.ChangeShapes Go.WideShapes Go.ChangeAt Go.RowKit
set_option linter.unusedVariables false
set_option linter.unusedSimpArgs false

theorem own : ownKnob Try.prog.godebug = none := by kernel_rfl
theorem laidOut : laidOutB Try.prog = true := by kernel_rfl

set_option maxRecDepth 100000 in
theorem lifted (os : Os) (started : os.Started) (H : Type) (enc : TypeId × Value → H) :
    ReturnsInHanded {} Try.checked os 14 .any (Rows.fnCommonPatternSpec.pre6 enc Try.prog Try.f14 Rows.fnCommonPatternRow.domain false) (Rows.fnCommonPatternSpec.post enc Try.prog Try.f14 false true false false) := by
  refine returnsInHanded_of_change (C := Try.checked) own started (by kernel_rfl) Try.func14
    (ChangeSpec.witness6 (enc := enc) (C := Try.checked) false ⟨#[], #[.slice none 0 0], []⟩ 8 (by kernel_rfl) (by kernel_rfl) (by kernel_rfl) (by kernel_rfl)) ?_
  intro W base args ds gs before hval0 hW hcnd _
  have hval : ∀ (j : Nat) t v, Try.f14.params[j]? = some t → args[j]? = some v → Value.okWide Try.prog W .any base t v := hval0
  have hW' := hW
  obtain ⟨p, q, hA0, hV, rfl, hfz, hnd⟩ := hW
  have hA : DataW.TrodAll enc Try.prog W 0 (fun _ => true) true Try.f14.params.toList args.toList ds p := hA0
  rw [Try.params14] at hA hval
  obtain ⟨v0, vs0, d0, ds0, p0, q0, hargs0, rfl, rfl, h0, r0⟩ := trodAll_cons hA
  obtain ⟨rfl, rfl, rfl⟩ := trodAll_nil r0
  obtain rfl : args = #[v0] := by cases args; simp_all
  obtain ⟨rfl, rfl⟩ := trodVars_none hV
  obtain ⟨xs0, P0, cp0, rfl, hl0, hc0, hr0⟩ := open_code (hval 0 22 v0 rfl rfl) h0
  clear hA0 hval0
  simp only [List.append_nil] at hW' hfz
  have hlt : ∀ x ∈ p0, x.block < W.heap.size := fun x hx => hW'.lt x hx
  refine (lawCommonPattern_any xs0 P0 cp0 W hl0 hc0 hr0).mono fun e W' ⟨he, hb⟩ => ?_
  subst he
  exact ⟨_, rfl, post_below (pa := p0) (pv := []) hW' (fun _ _ _ => (trodAll_cons_mk (shut_bool Try.underlying4 _) trodAll_mk0)) (fun sp hsp => by
      have := (trodAll_cons_mk (WideElems.Trod_stays (sp' := sp) laidOut (by kernel_rfl) (of_decide_eq_true (by kernel_rfl)) h0 (fun x hx => hb.same (hlt x (by simp [hx]))) (fun x hx => hsp x (by simp [hx]))) trodAll_mk0)
      show DataW.TrodAll enc Try.prog W' 0 sp true Try.f14.params.toList [_] [d0] (p0)
      rw [Try.params14]
      simpa using this) (fun _ _ => rfl) (by simp)
    hb (ok_one (by kernel_rfl) rfl (okWide_bool_mk Try.underlying4 _))⟩

theorem holds : Rows.FnCommonPatternSaid :=
  OpenClaim.holds_of_wide 14 Try.f14 rfl rfl rfl rfl rfl rfl rfl ⟨rfl, rfl, rfl, rfl, rfl⟩ rfl rfl rfl rfl rfl (by kernel_rfl) Try.func14 (by kernel_rfl)
    (of_decide_eq_true (by kernel_rfl)) (by unfold Func.isWrapper; first | (rw [if_pos (by decide +kernel)]; kernel_rfl) | (rw [if_neg (by decide +kernel)]; exact ⟨rfl, rfl⟩))
    (fun os started H enc _ => lifted os started H enc)
end Go.Proofs.Ytodkenpmhhbppaa.lCommonPattern
