/-
 Contracts of the functions that the law reaches, and plain lemmas. No condition.
-/
import Derived.Test.YtddkehjdjfmhmaaK2
import Derived.Test.YtddkehjdjfmhmaaK3
import Derived.Test.YtddkehjdjfmhmaaK13
namespace Go.Proofs.Ytddkehjdjfmhmaa
set_option linter.unusedSimpArgs false
set_option linter.unusedVariables false
open Go.RowKit
theorem add_strE {a b r : List UInt8} (hr : r = a ++ b) (h : a.length + b.length ≤ 1000000) (w : World) : (Op.stringOp .add (byt a) (byt b)).run Try.prog w = .ok (.string (byt r)) w := by subst hr; exact add_str a b h w
set_option maxHeartbeats 4000000 in
set_option maxRecDepth 100000 in
theorem text_rnd {k : Int} {c : UInt8} {k1 n1 : Int} {ks1 : List Tm} {x : List UInt8} {k2 n2 : Int} {ks2 : List Tm} {y : List UInt8} (h : RndK k c) (ih1 : TextOk k1 n1 ks1 x) (ih2 : TextOk k2 n2 ks2 y) : TextOk k 0 [.mk k1 n1 ks1, .mk k2 n2 ks2] (40 :: (x ++ c :: (y ++ [41]))) := by
 intro A cc w hl hr
 obtain ⟨bb, off, k', n', ks', A', c', rfl, hk, hc1, hc2, hc3, hl', hr'⟩ := hr.at_ (j := 0) (by simp)
 obtain ⟨b2, o2, k3, n3, ks3, A2, c2, hA, hk2, hd1, hd2, hd3, hl2, hr2⟩ := hr.at_ (j := 1) (by simp)
 injection hA with hA
 injection hA with h8 h9
 subst h8 h9
 injection hk with h1 h2 h3
 subst h1 h2 h3
 injection hk2 with h1 h2 h3
 subst h1 h2 h3
 simp only [Nat.zero_mul, Nat.add_zero, Nat.one_mul] at hc1 hc2 hc3 hd1 hd2 hd3
 have hbx1 : x.length ≤ 100000 := by simp at hl; omega
 have hby1 : y.length ≤ 100000 := by simp at hl; omega
 have ih1' := hide ih1
 have ih2' := hide ih2
 have bl : bb < w.heap.size := World.block_lt_of_cell? w _ hc1
 clear ih1 ih2 hr
 rcases h with ⟨rfl, rfl⟩ | ⟨rfl, rfl⟩ | ⟨rfl, rfl⟩
 ·have a1 : ∀ w, (Op.stringOp .add ⟨#[40]⟩ (byt x)).run Try.prog w = .ok (.string (byt (40 :: x))) w := fun w => add_strE (a := [40]) rfl (by simp; omega) w
  have a2 : ∀ w, (Op.stringOp .add (byt (40 :: x)) ⟨#[62]⟩).run Try.prog w = .ok (.string (byt (40 :: (x ++ [62])))) w := fun w => add_strE (a := 40 :: x) (b := [62]) rfl (by simp; omega) w
  have a3 : ∀ w, (Op.stringOp .add (byt (40 :: (x ++ [62]))) (byt y)).run Try.prog w = .ok (.string (byt (40 :: (x ++ 62 :: y)))) w := fun w => add_strE (a := 40 :: (x ++ [62])) (b := y) (by simp) (by simp; omega) w
  have a4 : ∀ w, (Op.stringOp .add (byt (40 :: (x ++ 62 :: y))) ⟨#[41]⟩).run Try.prog w = .ok (.string (byt (40 :: (x ++ 62 :: (y ++ [41]))))) w := fun w => add_strE (a := 40 :: (x ++ 62 :: y)) (b := [41]) (by simp) (by simp; omega) w
  go_enter Try.func69, Try.ntmps69
  go_wp2_with fail
  refine name_world ?_
  intro wx hwx
  have hbx : Below w.heap.size w wx := by rw [hwx]; exact (Below.refl _ _).alloc (Nat.le_refl _) _
  have hX : Blk wx w.heap.size #[.int .i64 3, .int .i64 0, .slice (some ⟨bb, off, none⟩) 2 cc] := by rw [hwx]; exact Blk.new_ _ _ _ rfl
  have y0 := rule_of ((Keeps.of_below hbx) _ _ hc1)
  have y1 := rule_of ((Keeps.of_below hbx) _ _ hc2)
  have y2 := rule_of ((Keeps.of_below hbx) _ _ hc3)
  have z0 := rule_of ((Keeps.of_below hbx) _ _ hd1)
  have z1 := rule_of ((Keeps.of_below hbx) _ _ hd2)
  have z2 := rule_of ((Keeps.of_below hbx) _ _ hd3)
  have x2 := hX.rule (i := 2) rfl
  have sm1 := fun (w' : World) (hw' : Below wx.heap.size wx w') => ih1'.out A' c' w' hbx1 ((hr'.below hbx).below hw')
  have sm2 := fun (w' : World) (hw' : Below wx.heap.size wx w') => ih2'.out A2 c2 w' hby1 ((hr2.below hbx).below hw')
  clear hwx
  refine wp_region_class (fun w' => Below (wx).heap.size wx w') (by kernel_rfl) (by kernel_rfl) (Below.refl _ _).drew ?_
  repeat (first | ((refine quiet_skip (a' := ?_) ?_ ?_ ?_); (rotate_left); (· (simp [Region.wanted, yielded]; done)); (· (simp only [List.getElem_toArray, List.getElem_cons_zero, List.getElem_cons_succ, Act.put, List.setIfInBounds_toArray, List.set_cons_zero, List.set_cons_succ]; exact rfl))) | ((refine quiet_one (v := ?_) (a' := ?_) ?_ ?_ ?_ ?_); (rotate_left 2); (· (simp [Region.wanted, yielded]; done)); (· (intro w' hS'; go_simp; try (with_reducible rfl))); (· (simp only [List.getElem_toArray, List.getElem_cons_zero, List.getElem_cons_succ, Act.put, List.setIfInBounds_toArray, List.set_cons_zero, List.set_cons_succ]; exact rfl))) | ((refine quiet_below (v := ?_) (a' := ?_) 69 ?_ ?_ ?_ ?_ ?_ ?_); (rotate_left 3); (· (simp [Region.wanted, yielded]; done)); (· (intro w' hS'; go_simp; try (with_reducible rfl))); (· (intro w' hS'; with_reducible exact sm1 w' hS')); (· (simp only [List.getElem_toArray, List.getElem_cons_zero, List.getElem_cons_succ, Act.put, List.setIfInBounds_toArray, List.set_cons_zero, List.set_cons_succ]; exact rfl))) | ((refine quiet_below (v := ?_) (a' := ?_) 69 ?_ ?_ ?_ ?_ ?_ ?_); (rotate_left 3); (· (simp [Region.wanted, yielded]; done)); (· (intro w' hS'; go_simp; try (with_reducible rfl))); (· (intro w' hS'; with_reducible exact sm2 w' hS')); (· (simp only [List.getElem_toArray, List.getElem_cons_zero, List.getElem_cons_succ, Act.put, List.setIfInBounds_toArray, List.set_cons_zero, List.set_cons_succ]; exact rfl))))
  refine quiet_nil ?_
  intro wa hx1
  clear sm1 sm2 y0 y1 y2 z0 z1 z2 x2
  go_wp2_with fail
  go_ret
  exact ⟨ret_str (by simp [byt]), hbx.trans (hx1.mono hbx.size)⟩
 ·have a1 : ∀ w, (Op.stringOp .add ⟨#[40]⟩ (byt x)).run Try.prog w = .ok (.string (byt (40 :: x))) w := fun w => add_strE (a := [40]) rfl (by simp; omega) w
  have a2 : ∀ w, (Op.stringOp .add (byt (40 :: x)) ⟨#[42]⟩).run Try.prog w = .ok (.string (byt (40 :: (x ++ [42])))) w := fun w => add_strE (a := 40 :: x) (b := [42]) rfl (by simp; omega) w
  have a3 : ∀ w, (Op.stringOp .add (byt (40 :: (x ++ [42]))) (byt y)).run Try.prog w = .ok (.string (byt (40 :: (x ++ 42 :: y)))) w := fun w => add_strE (a := 40 :: (x ++ [42])) (b := y) (by simp) (by simp; omega) w
  have a4 : ∀ w, (Op.stringOp .add (byt (40 :: (x ++ 42 :: y))) ⟨#[41]⟩).run Try.prog w = .ok (.string (byt (40 :: (x ++ 42 :: (y ++ [41]))))) w := fun w => add_strE (a := 40 :: (x ++ 42 :: y)) (b := [41]) (by simp) (by simp; omega) w
  go_enter Try.func69, Try.ntmps69
  go_wp2_with fail
  refine name_world ?_
  intro wx hwx
  have hbx : Below w.heap.size w wx := by rw [hwx]; exact (Below.refl _ _).alloc (Nat.le_refl _) _
  have hX : Blk wx w.heap.size #[.int .i64 13, .int .i64 0, .slice (some ⟨bb, off, none⟩) 2 cc] := by rw [hwx]; exact Blk.new_ _ _ _ rfl
  have y0 := rule_of ((Keeps.of_below hbx) _ _ hc1)
  have y1 := rule_of ((Keeps.of_below hbx) _ _ hc2)
  have y2 := rule_of ((Keeps.of_below hbx) _ _ hc3)
  have z0 := rule_of ((Keeps.of_below hbx) _ _ hd1)
  have z1 := rule_of ((Keeps.of_below hbx) _ _ hd2)
  have z2 := rule_of ((Keeps.of_below hbx) _ _ hd3)
  have x2 := hX.rule (i := 2) rfl
  have sm1 := fun (w' : World) (hw' : Below wx.heap.size wx w') => ih1'.out A' c' w' hbx1 ((hr'.below hbx).below hw')
  have sm2 := fun (w' : World) (hw' : Below wx.heap.size wx w') => ih2'.out A2 c2 w' hby1 ((hr2.below hbx).below hw')
  clear hwx
  refine wp_region_class (fun w' => Below (wx).heap.size wx w') (by kernel_rfl) (by kernel_rfl) (Below.refl _ _).drew ?_
  repeat (first | ((refine quiet_skip (a' := ?_) ?_ ?_ ?_); (rotate_left); (· (simp [Region.wanted, yielded]; done)); (· (simp only [List.getElem_toArray, List.getElem_cons_zero, List.getElem_cons_succ, Act.put, List.setIfInBounds_toArray, List.set_cons_zero, List.set_cons_succ]; exact rfl))) | ((refine quiet_one (v := ?_) (a' := ?_) ?_ ?_ ?_ ?_); (rotate_left 2); (· (simp [Region.wanted, yielded]; done)); (· (intro w' hS'; go_simp; try (with_reducible rfl))); (· (simp only [List.getElem_toArray, List.getElem_cons_zero, List.getElem_cons_succ, Act.put, List.setIfInBounds_toArray, List.set_cons_zero, List.set_cons_succ]; exact rfl))) | ((refine quiet_below (v := ?_) (a' := ?_) 69 ?_ ?_ ?_ ?_ ?_ ?_); (rotate_left 3); (· (simp [Region.wanted, yielded]; done)); (· (intro w' hS'; go_simp; try (with_reducible rfl))); (· (intro w' hS'; with_reducible exact sm1 w' hS')); (· (simp only [List.getElem_toArray, List.getElem_cons_zero, List.getElem_cons_succ, Act.put, List.setIfInBounds_toArray, List.set_cons_zero, List.set_cons_succ]; exact rfl))) | ((refine quiet_below (v := ?_) (a' := ?_) 69 ?_ ?_ ?_ ?_ ?_ ?_); (rotate_left 3); (· (simp [Region.wanted, yielded]; done)); (· (intro w' hS'; go_simp; try (with_reducible rfl))); (· (intro w' hS'; with_reducible exact sm2 w' hS')); (· (simp only [List.getElem_toArray, List.getElem_cons_zero, List.getElem_cons_succ, Act.put, List.setIfInBounds_toArray, List.set_cons_zero, List.set_cons_succ]; exact rfl))))
  refine quiet_nil ?_
  intro wa hx1
  clear sm1 sm2 y0 y1 y2 z0 z1 z2 x2
  go_wp2_with fail
  go_ret
  exact ⟨ret_str (by simp [byt]), hbx.trans (hx1.mono hbx.size)⟩
 ·have a1 : ∀ w, (Op.stringOp .add ⟨#[40]⟩ (byt x)).run Try.prog w = .ok (.string (byt (40 :: x))) w := fun w => add_strE (a := [40]) rfl (by simp; omega) w
  have a2 : ∀ w, (Op.stringOp .add (byt (40 :: x)) ⟨#[32]⟩).run Try.prog w = .ok (.string (byt (40 :: (x ++ [32])))) w := fun w => add_strE (a := 40 :: x) (b := [32]) rfl (by simp; omega) w
  have a3 : ∀ w, (Op.stringOp .add (byt (40 :: (x ++ [32]))) (byt y)).run Try.prog w = .ok (.string (byt (40 :: (x ++ 32 :: y)))) w := fun w => add_strE (a := 40 :: (x ++ [32])) (b := y) (by simp) (by simp; omega) w
  have a4 : ∀ w, (Op.stringOp .add (byt (40 :: (x ++ 32 :: y))) ⟨#[41]⟩).run Try.prog w = .ok (.string (byt (40 :: (x ++ 32 :: (y ++ [41]))))) w := fun w => add_strE (a := 40 :: (x ++ 32 :: y)) (b := [41]) (by simp) (by simp; omega) w
  go_enter Try.func69, Try.ntmps69
  go_wp2_with fail
  refine name_world ?_
  intro wx hwx
  have hbx : Below w.heap.size w wx := by rw [hwx]; exact (Below.refl _ _).alloc (Nat.le_refl _) _
  have hX : Blk wx w.heap.size #[.int .i64 5, .int .i64 0, .slice (some ⟨bb, off, none⟩) 2 cc] := by rw [hwx]; exact Blk.new_ _ _ _ rfl
  have y0 := rule_of ((Keeps.of_below hbx) _ _ hc1)
  have y1 := rule_of ((Keeps.of_below hbx) _ _ hc2)
  have y2 := rule_of ((Keeps.of_below hbx) _ _ hc3)
  have z0 := rule_of ((Keeps.of_below hbx) _ _ hd1)
  have z1 := rule_of ((Keeps.of_below hbx) _ _ hd2)
  have z2 := rule_of ((Keeps.of_below hbx) _ _ hd3)
  have x2 := hX.rule (i := 2) rfl
  have sm1 := fun (w' : World) (hw' : Below wx.heap.size wx w') => ih1'.out A' c' w' hbx1 ((hr'.below hbx).below hw')
  have sm2 := fun (w' : World) (hw' : Below wx.heap.size wx w') => ih2'.out A2 c2 w' hby1 ((hr2.below hbx).below hw')
  clear hwx
  refine wp_region_class (fun w' => Below (wx).heap.size wx w') (by kernel_rfl) (by kernel_rfl) (Below.refl _ _).drew ?_
  repeat (first | ((refine quiet_skip (a' := ?_) ?_ ?_ ?_); (rotate_left); (· (simp [Region.wanted, yielded]; done)); (· (simp only [List.getElem_toArray, List.getElem_cons_zero, List.getElem_cons_succ, Act.put, List.setIfInBounds_toArray, List.set_cons_zero, List.set_cons_succ]; exact rfl))) | ((refine quiet_one (v := ?_) (a' := ?_) ?_ ?_ ?_ ?_); (rotate_left 2); (· (simp [Region.wanted, yielded]; done)); (· (intro w' hS'; go_simp; try (with_reducible rfl))); (· (simp only [List.getElem_toArray, List.getElem_cons_zero, List.getElem_cons_succ, Act.put, List.setIfInBounds_toArray, List.set_cons_zero, List.set_cons_succ]; exact rfl))) | ((refine quiet_below (v := ?_) (a' := ?_) 69 ?_ ?_ ?_ ?_ ?_ ?_); (rotate_left 3); (· (simp [Region.wanted, yielded]; done)); (· (intro w' hS'; go_simp; try (with_reducible rfl))); (· (intro w' hS'; with_reducible exact sm1 w' hS')); (· (simp only [List.getElem_toArray, List.getElem_cons_zero, List.getElem_cons_succ, Act.put, List.setIfInBounds_toArray, List.set_cons_zero, List.set_cons_succ]; exact rfl))) | ((refine quiet_below (v := ?_) (a' := ?_) 69 ?_ ?_ ?_ ?_ ?_ ?_); (rotate_left 3); (· (simp [Region.wanted, yielded]; done)); (· (intro w' hS'; go_simp; try (with_reducible rfl))); (· (intro w' hS'; with_reducible exact sm2 w' hS')); (· (simp only [List.getElem_toArray, List.getElem_cons_zero, List.getElem_cons_succ, Act.put, List.setIfInBounds_toArray, List.set_cons_zero, List.set_cons_succ]; exact rfl))))
  refine quiet_nil ?_
  intro wa hx1
  clear sm1 sm2 y0 y1 y2 z0 z1 z2 x2
  go_wp2_with fail
  go_ret
  exact ⟨ret_str (by simp [byt]), hbx.trans (hx1.mono hbx.size)⟩
set_option maxHeartbeats 4000000 in
set_option maxRecDepth 100000 in
theorem text_lam {k1 n1 : Int} {ks1 : List Tm} {x : List UInt8} {k2 n2 : Int} {ks2 : List Tm} {y : List UInt8} (ih1 : TextOk k1 n1 ks1 x) (ih2 : TextOk k2 n2 ks2 y) : TextOk 4 0 [.mk k1 n1 ks1, .mk k2 n2 ks2] (91 :: (x ++ 93 :: y)) := by
 intro A cc w hl hr
 obtain ⟨bb, off, k', n', ks', A', c', rfl, hk, hc1, hc2, hc3, hl', hr'⟩ := hr.at_ (j := 0) (by simp)
 obtain ⟨b2, o2, k3, n3, ks3, A2, c2, hA, hk2, hd1, hd2, hd3, hl2, hr2⟩ := hr.at_ (j := 1) (by simp)
 injection hA with hA
 injection hA with h8 h9
 subst h8 h9
 injection hk with h1 h2 h3
 subst h1 h2 h3
 injection hk2 with h1 h2 h3
 subst h1 h2 h3
 simp only [Nat.zero_mul, Nat.add_zero, Nat.one_mul] at hc1 hc2 hc3 hd1 hd2 hd3
 have hbx1 : x.length ≤ 100000 := by simp at hl; omega
 have hby1 : y.length ≤ 100000 := by simp at hl; omega
 have ih1' := hide ih1
 have ih2' := hide ih2
 have bl : bb < w.heap.size := World.block_lt_of_cell? w _ hc1
 clear ih1 ih2 hr
 have a1 : ∀ w, (Op.stringOp .add ⟨#[91]⟩ (byt x)).run Try.prog w = .ok (.string (byt (91 :: x))) w := fun w => add_strE (a := [91]) rfl (by simp; omega) w
 have a2 : ∀ w, (Op.stringOp .add (byt (91 :: x)) ⟨#[93]⟩).run Try.prog w = .ok (.string (byt (91 :: (x ++ [93])))) w := fun w => add_strE (a := 91 :: x) (b := [93]) rfl (by simp; omega) w
 have a3 : ∀ w, (Op.stringOp .add (byt (91 :: (x ++ [93]))) (byt y)).run Try.prog w = .ok (.string (byt (91 :: (x ++ 93 :: y)))) w := fun w => add_strE (a := 91 :: (x ++ [93])) (b := y) (by simp) (by simp; omega) w
 go_enter Try.func69, Try.ntmps69
 go_wp2_with fail
 refine name_world ?_
 intro wx hwx
 have hbx : Below w.heap.size w wx := by rw [hwx]; exact (Below.refl _ _).alloc (Nat.le_refl _) _
 have hX : Blk wx w.heap.size #[.int .i64 4, .int .i64 0, .slice (some ⟨bb, off, none⟩) 2 cc] := by rw [hwx]; exact Blk.new_ _ _ _ rfl
 have y0 := rule_of ((Keeps.of_below hbx) _ _ hc1)
 have y1 := rule_of ((Keeps.of_below hbx) _ _ hc2)
 have y2 := rule_of ((Keeps.of_below hbx) _ _ hc3)
 have z0 := rule_of ((Keeps.of_below hbx) _ _ hd1)
 have z1 := rule_of ((Keeps.of_below hbx) _ _ hd2)
 have z2 := rule_of ((Keeps.of_below hbx) _ _ hd3)
 have x2 := hX.rule (i := 2) rfl
 have sm1 := fun (w' : World) (hw' : Below wx.heap.size wx w') => ih1'.out A' c' w' hbx1 ((hr'.below hbx).below hw')
 have sm2 := fun (w' : World) (hw' : Below wx.heap.size wx w') => ih2'.out A2 c2 w' hby1 ((hr2.below hbx).below hw')
 clear hwx
 refine wp_region_class (fun w' => Below (wx).heap.size wx w') (by kernel_rfl) (by kernel_rfl) (Below.refl _ _).drew ?_
 repeat (first | ((refine quiet_skip (a' := ?_) ?_ ?_ ?_); (rotate_left); (· (simp [Region.wanted, yielded]; done)); (· (simp only [List.getElem_toArray, List.getElem_cons_zero, List.getElem_cons_succ, Act.put, List.setIfInBounds_toArray, List.set_cons_zero, List.set_cons_succ]; exact rfl))) | ((refine quiet_one (v := ?_) (a' := ?_) ?_ ?_ ?_ ?_); (rotate_left 2); (· (simp [Region.wanted, yielded]; done)); (· (intro w' hS'; go_simp; try (with_reducible rfl))); (· (simp only [List.getElem_toArray, List.getElem_cons_zero, List.getElem_cons_succ, Act.put, List.setIfInBounds_toArray, List.set_cons_zero, List.set_cons_succ]; exact rfl))) | ((refine quiet_below (v := ?_) (a' := ?_) 69 ?_ ?_ ?_ ?_ ?_ ?_); (rotate_left 3); (· (simp [Region.wanted, yielded]; done)); (· (intro w' hS'; go_simp; try (with_reducible rfl))); (· (intro w' hS'; with_reducible exact sm1 w' hS')); (· (simp only [List.getElem_toArray, List.getElem_cons_zero, List.getElem_cons_succ, Act.put, List.setIfInBounds_toArray, List.set_cons_zero, List.set_cons_succ]; exact rfl))) | ((refine quiet_below (v := ?_) (a' := ?_) 69 ?_ ?_ ?_ ?_ ?_ ?_); (rotate_left 3); (· (simp [Region.wanted, yielded]; done)); (· (intro w' hS'; go_simp; try (with_reducible rfl))); (· (intro w' hS'; with_reducible exact sm2 w' hS')); (· (simp only [List.getElem_toArray, List.getElem_cons_zero, List.getElem_cons_succ, Act.put, List.setIfInBounds_toArray, List.set_cons_zero, List.set_cons_succ]; exact rfl))))
 refine quiet_nil ?_
 intro wa hx1
 clear sm1 sm2 y0 y1 y2 z0 z1 z2 x2
 go_wp2_with fail
 go_ret
 exact ⟨ret_str (by simp [byt]), hbx.trans (hx1.mono hbx.size)⟩
open Go.RowKit
def jn : List (List UInt8) → List UInt8
 | [] => []
 | [b] => b
 | b :: bs => b ++ 44 :: jn bs
theorem jn_two (b d : List UInt8) (bs : List (List UInt8)) : jn (b :: d :: bs) = b ++ 44 :: jn (d :: bs) := by simp [jn]
theorem jn_snoc (x : List UInt8) : ∀ {xs : List (List UInt8)}, xs ≠ [] → jn (xs ++ [x]) = jn xs ++ 44 :: x
 | [], h => absurd rfl h
 | [b], _ => by simp [jn]
 | b :: d :: bs, _ => by
  have := jn_snoc x (xs := d :: bs) (by simp)
  rw [List.cons_append, List.cons_append, jn_two, jn_two, ← List.cons_append, this]; simp
theorem ser_jn (c : UInt8) : ∀ {xs : List (List UInt8)}, xs ≠ [] → ser c xs = jn xs ++ [c]
 | [], h => absurd rfl h
 | [b], _ => by simp [ser, jn]
 | b :: d :: bs, _ => by rw [ser_more, jn_two, ser_jn c (xs := d :: bs) (by simp)]; simp
theorem jn_le (x : List UInt8) (xs : List (List UInt8)) : (jn xs).length + x.length ≤ (jn (xs ++ [x])).length := by
 by_cases h : xs = []
 ·subst h; simp [jn]
 ·rw [jn_snoc x h]; simp only [List.length_append, List.length_cons]; omega
theorem jn_take {xs : List (List UInt8)} {j : Nat} (hj : j < xs.length) : (jn (xs.take j)).length + xs[j].length ≤ (jn xs).length := by
 have h : ∀ m, j + 1 + m ≤ xs.length → (jn (xs.take j)).length + xs[j].length ≤ (jn (xs.take (j + 1 + m))).length := by
  intro m
  induction m with
  | zero => intro _; rw [Nat.add_zero, List.take_succ_eq_append_getElem hj]; exact jn_le _ _
  | succ m ih =>
   intro hm
   have := ih (by omega)
   rw [show j + 1 + (m + 1) = (j + 1 + m) + 1 from by omega, List.take_succ_eq_append_getElem (by omega : j + 1 + m < xs.length)]
   have := jn_le (xs[j + 1 + m]'(by omega)) (xs.take (j + 1 + m))
   omega
 have := h (xs.length - (j + 1)) (by omega)
 rw [show j + 1 + (xs.length - (j + 1)) = xs.length from by omega, List.take_length] at this
 exact this
set_option maxHeartbeats 4000000 in
set_option maxRecDepth 100000 in
theorem list_any (ts : List Tm) (xs : List (List UInt8)) (hl : xs.length = ts.length) (hl4 : ts.length ≤ 1000) (hj : (jn xs).length ≤ 100000)
  (ih : ∀ (j : Nat) (k n : Int) (ks : List Tm) (x : List UInt8), ts[j]? = some (.mk k n ks) → xs[j]? = some x → TextOk k n ks x) (A : Option Addr) (c : Nat) (w : World) (hr : Rd w A 0 ts) :
  Calls Try.prog 82 #[.slice A ts.length c] w fun e w' => e = .returned (.string (byt (jn xs))) ∧ Below w.heap.size w w' := by
 have hl' := hide hl
 have ih' := hide ih
 clear hl ih
 go_enter Try.func82, Try.ntmps82
 go_wp2
 go_loopw [3, 4] (fun v jv wr => ∃ j : Nat, j ≤ ts.length ∧ jv = .int .i64 j ∧ v = .string (byt (jn (xs.take j))) ∧ Below w.heap.size w wr) (fun _ jv _ => ts.length - (intOf jv).toNat)
 case atStart => exact ⟨0, Nat.zero_le _, rfl, rfl, Below.refl _ _⟩
 case round =>
  obtain ⟨j, hjl, rfl, rfl, hb⟩ := hrel
  by_cases hlt : j < ts.length
  ·have hlx : j < xs.length := by have := hl'.out; omega
   obtain ⟨bb, off, k', n', ks', A', c', rfl, hk, hc1, hc2, hc3, hln, hr'⟩ := (hr.below hb).at_ hlt
   obtain ⟨x, hx⟩ : ∃ x, xs[j] = x := ⟨_, rfl⟩
   have htk := jn_take hlx
   rw [hx] at htk
   have htx := hide (show ts[j]? = some (.mk k' n' ks') by rw [List.getElem?_eq_getElem hlt, hk])
   have hxx := hide (show xs[j]? = some x by rw [List.getElem?_eq_getElem hlx, hx])
   have hnext := hide (show xs.take (j + 1) = xs.take j ++ [x] by rw [List.take_succ_eq_append_getElem hlx, hx])
   have hne := hide (show 0 < j → xs.take j ≠ [] from fun h e => by have := congrArg List.length e; rw [List.length_take] at this; simp only [List.length_nil] at this; omega)
   have hj0 := hide (show j = 0 → xs.take j = [] from fun h => by rw [h]; rfl)
   have hx1 : x.length ≤ 100000 := by omega
   have hsub := hide (fun (w : World) (hr : Rd w A' 0 ks') => ih'.out j k' n' ks' x htx.out hxx.out A' c' w hx1 hr)
   clear hk hx
   generalize xs.take j = pr at *
   generalize hJ : jn pr = J at *
   have hJ' := hide hJ
   clear hJ
   by_cases h0 : j = 0
   ·have q0 : decide (0 < j) = false := decide_eq_false (by omega)
    have q1 : ¬ 0 < j := by omega
    have hJn : J = [] := by rw [← hJ'.out, hj0.out h0]; rfl
    subst hJn
    have h0' := hide h0
    clear h0
    have a2 : ∀ w, (Op.stringOp .add (byt []) (byt x)).run Try.prog w = .ok (.string (byt x)) w := fun w => add_strE (a := []) rfl (by simp; omega) w
    go_wp2_with (go_at_call 69; refine (hsub.out _ hr').mono ?_; rintro e w1 ⟨rfl, hb1⟩)
    go_roundw
    case rel => exact ⟨j + 1, by omega, by go_num, by rw [hnext.out, hj0.out h0'.out]; rfl, hb.trans (hb1.mono hb.size)⟩
    case measure => simp [intOf]; omega
   ·have q0 : decide (0 < (j : Int)) = true := decide_eq_true (by omega)
    have a1 : ∀ w, (Op.stringOp .add (byt J) ⟨#[44]⟩).run Try.prog w = .ok (.string (byt (J ++ [44]))) w := fun w => add_strE (b := [44]) rfl (by simp; omega) w
    have a2 : ∀ w, (Op.stringOp .add (byt (J ++ [44])) (byt x)).run Try.prog w = .ok (.string (byt (J ++ 44 :: x))) w := fun w => add_strE (a := J ++ [44]) (by simp) (by simp; omega) w
    go_wp2_with (go_at_call 69; refine (hsub.out _ hr').mono ?_; rintro e w1 ⟨rfl, hb1⟩)
    go_roundw
    case rel => exact ⟨j + 1, by omega, by go_num, by rw [hnext.out, jn_snoc x (hne.out (by omega)), hJ'.out], hb.trans (hb1.mono hb.size)⟩
    case measure => simp [intOf]; omega
  ·have hjl : j = ts.length := by omega
   subst hjl
   have hall := hide (show xs.take ts.length = xs from List.take_of_length_le (by have := hl'.out; omega))
   go_wp2
   go_ret
   exact ⟨by rw [hall.out]; rfl, hb⟩
set_option maxHeartbeats 4000000 in
set_option maxRecDepth 100000 in
theorem text_blk {k : Int} {m : Nat} {o : List UInt8} {c : UInt8} (h : BlkK k m o c) (ts : List Tm) (xs : List (List UInt8)) (hm : ts.length = m) (hx : xs.length = m)
  (ih : ∀ (j : Nat) (k n : Int) (ks : List Tm) (x : List UInt8), ts[j]? = some (.mk k n ks) → xs[j]? = some x → TextOk k n ks x) : TextOk k 0 ts (o ++ ser c xs) := by
 intro A cc w hl hr
 have hne : xs ≠ [] := fun e => by subst e; rcases h with ⟨_, rfl, _, _⟩ | ⟨_, rfl, _, _⟩ | ⟨_, rfl, _, _⟩ | ⟨_, rfl, _, _⟩ <;> simp at hx
 have hm4 : ts.length ≤ 4 := by rcases h with ⟨_, rfl, _, _⟩ | ⟨_, rfl, _, _⟩ | ⟨_, rfl, _, _⟩ | ⟨_, rfl, _, _⟩ <;> omega
 rw [ser_jn c hne] at hl ⊢
 have hjl : (jn xs).length ≤ 100000 := by simp only [List.length_append, List.length_cons] at hl; omega
 have hlist := hide (fun w (hr : Rd w A 0 ts) => list_any ts xs (by omega) (by omega) hjl ih A cc w hr)
 clear ih hx hne hl
 generalize jn xs = J at *
 have hm' := hide hm
 rcases h with ⟨rfl, rfl, rfl, rfl⟩ | ⟨rfl, rfl, rfl, rfl⟩ | ⟨rfl, rfl, rfl, rfl⟩ | ⟨rfl, rfl, rfl, rfl⟩
 ·clear hm
  have a1 : ∀ w, (Op.stringOp .add ⟨#[60]⟩ (byt J)).run Try.prog w = .ok (.string (byt (60 :: J))) w := fun w => add_strE (a := [60]) rfl (by simp; omega) w
  have a2 : ∀ w, (Op.stringOp .add (byt (60 :: J)) ⟨#[62]⟩).run Try.prog w = .ok (.string (byt (60 :: (J ++ [62])))) w := fun w => add_strE (a := 60 :: J) (b := [62]) rfl (by simp; omega) w
  go_enter Try.func69, Try.ntmps69
  go_wp2_with (go_at_call 82; refine (hlist.out _ (hr.alloc _)).mono ?_; rintro e w1 ⟨rfl, hb1⟩)
  go_ret
  exact ⟨ret_str (by simp [byt]), ((Below.refl _ _).alloc (Nat.le_refl _) _).trans (hb1.mono (by simp))⟩
 ·clear hm
  have a1 : ∀ w, (Op.stringOp .add ⟨#[123]⟩ (byt J)).run Try.prog w = .ok (.string (byt (123 :: J))) w := fun w => add_strE (a := [123]) rfl (by simp; omega) w
  have a2 : ∀ w, (Op.stringOp .add (byt (123 :: J)) ⟨#[125]⟩).run Try.prog w = .ok (.string (byt (123 :: (J ++ [125])))) w := fun w => add_strE (a := 123 :: J) (b := [125]) rfl (by simp; omega) w
  go_enter Try.func69, Try.ntmps69
  go_wp2_with (go_at_call 82; refine (hlist.out _ (hr.alloc _)).mono ?_; rintro e w1 ⟨rfl, hb1⟩)
  go_ret
  exact ⟨ret_str (by simp [byt]), ((Below.refl _ _).alloc (Nat.le_refl _) _).trans (hb1.mono (by simp))⟩
 ·clear hm
  have a1 : ∀ w, (Op.stringOp .add ⟨#[124]⟩ (byt J)).run Try.prog w = .ok (.string (byt (124 :: J))) w := fun w => add_strE (a := [124]) rfl (by simp; omega) w
  have a2 : ∀ w, (Op.stringOp .add (byt (124 :: J)) ⟨#[124]⟩).run Try.prog w = .ok (.string (byt (124 :: (J ++ [124])))) w := fun w => add_strE (a := 124 :: J) (b := [124]) rfl (by simp; omega) w
  go_enter Try.func69, Try.ntmps69
  go_wp2_with (go_at_call 82; refine (hlist.out _ (hr.alloc _)).mono ?_; rintro e w1 ⟨rfl, hb1⟩)
  go_ret
  exact ⟨ret_str (by simp [byt]), ((Below.refl _ _).alloc (Nat.le_refl _) _).trans (hb1.mono (by simp))⟩
 ·clear hm
  have a1 : ∀ w, (Op.stringOp .add ⟨#[64, 60]⟩ (byt J)).run Try.prog w = .ok (.string (byt (64 :: 60 :: J))) w := fun w => add_strE (a := [64, 60]) rfl (by simp; omega) w
  have a2 : ∀ w, (Op.stringOp .add (byt (64 :: 60 :: J)) ⟨#[62]⟩).run Try.prog w = .ok (.string (byt (64 :: 60 :: (J ++ [62])))) w := fun w => add_strE (a := 64 :: 60 :: J) (b := [62]) rfl (by simp; omega) w
  go_enter Try.func69, Try.ntmps69
  go_wp2_with (go_at_call 82; refine (hlist.out _ (hr.alloc _)).mono ?_; rintro e w1 ⟨rfl, hb1⟩)
  go_ret
  exact ⟨ret_str (by simp [byt]), ((Below.refl _ _).alloc (Nat.le_refl _) _).trans (hb1.mono (by simp))⟩
theorem text_any {d : Nat} {t : Tm} {b : List UInt8} (h : Tx d t b) : ∀ (k n : Int) (ks : List Tm), t = .mk k n ks → TextOk k n ks b := by
 induction h with
 | var d n c h => rintro k' n' ks' ⟨⟩; exact text_var n c h
 | sort d n c h => rintro k' n' ks' ⟨⟩; exact text_sort n c h
 | nat d => rintro k' n' ks' ⟨⟩; exact text_nat
 | zero d => rintro k' n' ks' ⟨⟩; exact text_zero
 | pre d k c t b h ht ih => rintro k' n' ks' ⟨⟩; obtain ⟨k1, n1, ks1⟩ := t; exact text_pre h (ih k1 n1 ks1 rfl)
 | rnd d k c t u x y h ht hu i1 i2 => rintro k' n' ks' ⟨⟩; obtain ⟨k1, n1, ks1⟩ := t; obtain ⟨k2, n2, ks2⟩ := u; exact text_rnd h (i1 k1 n1 ks1 rfl) (i2 k2 n2 ks2 rfl)
 | lam d t u x y ht hu i1 i2 => rintro k' n' ks' ⟨⟩; obtain ⟨k1, n1, ks1⟩ := t; obtain ⟨k2, n2, ks2⟩ := u; exact text_lam (i1 k1 n1 ks1 rfl) (i2 k2 n2 ks2 rfl)
 | blk d k m o c ts xs h hm hx ht ih => rintro k' n' ks' ⟨⟩; exact text_blk h ts xs hm hx fun j k n ks x h1 h2 => ih j (.mk k n ks) x h1 h2 k n ks rfl
open Go.RowKit
theorem validT_size' {k n : Int} {ks : List Tm} (h : validT (.mk k n ks) = true) : sizes ks ≤ 400 := by
 simp only [validT, Bool.and_eq_true, decide_eq_true_eq] at h
 have := h.2
 rw [Tm.size] at this
 omega
set_option maxHeartbeats 4000000 in
set_option maxRecDepth 100000 in
theorem format_any {t : Tm} {b : List UInt8} {d : Nat} (h : Tx d t b) (k n : Int) (ks : List Tm) (ht : t = .mk k n ks) (hv : validT t = true) (hb : b.length ≤ 100000) (A : Option Addr) (c : Nat) (w : World) (hr : Rd w A 0 ks) :
  Calls Try.prog 61 #[.agg #[.int .i64 k, .int .i64 n, .slice A ks.length c]] w fun e w' => e = .returned (.string (byt b)) ∧ Below w.heap.size w w' := by
 have htx := hide (text_any h k n ks ht)
 subst ht
 have hM := validT_size' hv
 have hv' := hide hv
 clear hv h
 go_enter Try.func61, Try.ntmps61
 go_wp2_with (first
  | (go_at_call 69; refine (htx.out A c _ hb ((hr.alloc _).below hb1)).mono ?_; rintro e w2 ⟨rfl, hb2⟩)
  | (go_at_call 30; refine (sTermValid_any k n ks A c _ (by omega) (hr.alloc _)).mono ?_; rw [hv'.out]; rintro e w1 ⟨rfl, hb1⟩; have hB := (Blk.new_ w 25 #[.int .i64 k, .int .i64 n, .slice A ks.length c] rfl).keep hb1; have x0 := hB.at_ (i := 0) rfl; have x1 := hB.at_ (i := 1) rfl; have x2 := hB.at_ (i := 2) rfl))
 go_ret
 exact ⟨rfl, (((Below.refl _ _).alloc (Nat.le_refl _) _).trans (hb1.mono (by simp))).trans (hb2.mono (by have := hb1.size; simp at this; omega))⟩
def Good (t : Tm) (b : List UInt8) : Prop := Tx 30 t b ∧ validT t = true ∧ b.length ≤ 1000
def GotPT (w : World) (k n : Int) (ks : List Tm) (e : Ending) (w' : World) : Prop :=
 ∃ A c, e = .returned (.tuple #[.agg #[.int .i64 k, .int .i64 n, .slice A ks.length c], .bool true]) ∧ ks.length ≤ 9223372036854775807 ∧ Fresh w.heap.size w' A ks ∧ Below w.heap.size w w'
set_option maxHeartbeats 4000000 in
set_option maxRecDepth 100000 in
theorem parseTerm_any {k n : Int} {ks : List Tm} {b : List UInt8} (h : Good (.mk k n ks) b) (w : World) : Calls Try.prog 48 #[.string (byt b)] w (GotPT w k n ks) := by
 obtain ⟨htx, hv, hb⟩ := h
 have hs : (byt b).size = b.length := by simp [byt, ByteArray.size]
 have hpar := hide (fun w => parse_any htx k n ks rfl (byt b) 0 0 30 w (by rw [hs]; omega) rfl (Has.all b) (Nd.out (by rw [hs]; omega)) (by omega) (by omega))
 have hfm := hide (fun A c w hr => format_any htx k n ks rfl hv (by omega) A c w hr)
 have q1 : ((byt b).toList == []) = false := by
  have := htx.ne
  cases b with
  | nil => exact absurd rfl this
  | cons x xs => simp [byt]
 have q2 : (byt b).toList.isEmpty = false := by
  have := htx.ne
  cases b with
  | nil => exact absurd rfl this
  | cons x xs => simp [byt]
 have q3 : ((byt b).toList == (byt b).toList) = true := by simp
 have hpos : 0 < b.length := List.length_pos_iff.2 htx.ne
 clear htx hv
 go_enter Try.func48, Try.ntmps48
 go_wp2_with (first
  | (go_at_call 61; refine (hfm.out A1 c1 _ (hf1.rd.alloc _)).mono ?_; rintro e w2 ⟨rfl, hb2⟩; replace hX := hX.keep hb2; replace hZ := (hZ.alloc _).keep hb2; have x0 := hX.at_ (i := 0) rfl; have x1 := hX.at_ (i := 1) rfl; have x2 := hX.at_ (i := 2) rfl; have d0 := hZ.at_ (i := 0) rfl; have d1 := hZ.at_ (i := 1) rfl; have d2 := hZ.at_ (i := 2) rfl; have e0 := hZ.frozen 0; have e1 := hZ.frozen 1; have e2 := hZ.frozen 2; have lx := hX.lt; have lz := hZ.lt)
  | (go_at_call 60; refine (hpar.out _).mono ?_; rintro e w1 ⟨m, A1, c1, hm, rfl, hl1, hf1, hb1⟩; rw [Nat.zero_add] at hm; subst hm; have hZ := (Blk.new_ w 25 #[.int .i64 0, .int .i64 0, .slice none 0 0] rfl).keep hb1; have g1 : Below w.heap.size w w1 := ((Below.refl _ _).alloc (Nat.le_refl _) _).trans (hb1.mono (by simp)); have s1 := g1.size; have hX := Blk.new_ w1 25 #[.int .i64 k, .int .i64 n, .slice A1 ks.length c1] rfl; have lz1 := hZ.lt))
 have hf2 := (hf1.alloc (.cells #[.int .i64 k, .int .i64 n, .slice A1 ks.length c1] 25)).below hb2
 have g2 : Below w.heap.size w w2 := (g1.alloc (by omega) _).trans (hb2.mono (by simp; omega))
 refine bodyPost_ret (v := .tuple #[.agg #[.int .i64 k, .int .i64 n, .slice A1 ks.length c1], .bool true]) (by simp [results, Try.results48, go_sem, d0, d1, d2]) rfl ⟨A1, c1, rfl, hl1, ?_, ((g2.setCell (by simp) _).setCell (by simp) _).setCell (by simp) _⟩
 exact (((hf2.setCell (by simp) _).setCell (by simp) _).setCell (by simp) _).mono (by simp)
def strs (xs : List (List UInt8)) : Array Value := (xs.map fun x => Value.string (byt x)).toArray
theorem strs_get {xs : List (List UInt8)} {j : Nat} (h : j < xs.length) : (strs xs)[j]? = some (.string (byt xs[j])) := by simp [strs, List.getElem?_eq_getElem h]
set_option maxHeartbeats 4000000 in
set_option maxRecDepth 100000 in
theorem read_any (ts : List Tm) (xs : List (List UInt8)) (hl : xs.length = ts.length) (hl4 : ts.length ≤ 1000) (hg : ∀ (j : Nat) (t : Tm) (x : List UInt8), ts[j]? = some t → xs[j]? = some x → Good t x) (g : Nat) (w : World) (hB : Blk w g (strs xs)) :
  Calls Try.prog 32 #[.slice (some ⟨g, 0, none⟩) ts.length ts.length] w (GotL w ts) := by
 have hl' := hide hl
 have hg' := hide hg
 have hgl := hB.lt
 clear hl hg
 go_enter Try.func32, Try.ntmps32
 go_wp2_with fail
 go_loopw [3, 4] (fun v jv wr => ∃ j : Nat, j ≤ ts.length ∧ jv = .int .i64 j ∧ Part w.heap.size wr v (ts.take j) ∧ Below w.heap.size w wr) (fun _ jv _ => ts.length - (intOf jv).toNat)
 case atStart => exact ⟨0, Nat.zero_le _, rfl, Part.empty_ rfl (Nat.le_refl _), (Below.refl _ _).alloc (Nat.le_refl _) _⟩
 case round =>
  obtain ⟨j, hjl, rfl, hp, hb⟩ := hrel
  by_cases hlt : j < ts.length
  ·have hlx : j < xs.length := by have := hl'.out; omega
   obtain ⟨k1, n1, ks1, hk1⟩ : ∃ k n ks, ts[j] = .mk k n ks := by cases h : ts[j]; exact ⟨_, _, _, rfl⟩
   obtain ⟨x, hx⟩ : ∃ x, xs[j] = x := ⟨_, rfl⟩
   have hc := (hB.below hb hgl).at_ (strs_get hlx)
   rw [hx] at hc
   have hgood := hide (fun w => parseTerm_any (hg'.out j (.mk k1 n1 ks1) x (by rw [List.getElem?_eq_getElem hlt, hk1]) (by rw [List.getElem?_eq_getElem hlx, hx])) w)
   have hk1' := hide hk1
   clear hk1 hx hlx
   go_wp2_with (first
    | (at_builtin; refine wpList_append_built (B := w.heap.size) (m := j) (k := k1) (n := n1) (c := c1) hp (hb1.alloc hb1.size _) (by have := hb.size; omega) (hf1.alloc _) hl1 (by rw [List.length_take]; omega) (by omega) rfl _ _ rfl rfl (by show Value.slice (some ⟨w1.heap.size + 1, 0, none⟩) 1 1 = _; simp) ?_; intro A2 c2 w2 hp2 hb2 hg2)
    | (go_at_call 48; refine (hgood.out _).mono ?_; rintro e w1 ⟨A1, c1, rfl, hl1, hf1, hb1⟩))
   go_roundw
   case rel => exact ⟨j + 1, by omega, by go_num, by rw [List.take_succ_eq_append_getElem hlt, hk1'.out]; exact hp2, (hb.trans (hb1.mono hb.size)).trans (((Below.refl _ _).alloc (by have := hb.size; have := hb1.size; omega) _).trans hb2)⟩
   case measure => simp [intOf]; omega
  ·have hje : j = ts.length := by omega
   subst hje
   rw [List.take_length] at hp
   obtain ⟨Ar, cr, rfl, hfr⟩ := hp.fresh
   go_wp2_with fail
   go_ret
   exact ⟨Ar, cr, rfl, hfr, hb⟩
open Go.RowKit
theorem Tx.cast {d : Nat} {t : Tm} {b b' : List UInt8} (h : Tx d t b) (e : b = b') : Tx d t b' := e ▸ h
def GoodL : List Tm → List (List UInt8) → Prop
 | [], [] => True
 | t :: ts, x :: xs => Good t x ∧ GoodL ts xs
 | _, _ => False
theorem GoodL.at_ : ∀ {ts : List Tm} {xs : List (List UInt8)}, GoodL ts xs → ∀ (j : Nat) (t : Tm) (x : List UInt8), ts[j]? = some t → xs[j]? = some x → Good t x
 | [], _, _, j, t, x, h1, _ => by simp at h1
 | _ :: _, [], h, _, _, _, _, _ => h.elim
 | a :: ts, b :: xs, h, 0, t, x, h1, h2 => by
  simp only [List.getElem?_cons_zero, Option.some.injEq] at h1 h2
  subst h1 h2; exact h.1
 | a :: ts, b :: xs, h, j + 1, t, x, h1, h2 => by
  simp only [List.getElem?_cons_succ] at h1 h2
  exact h.2.at_ j t x h1 h2
end Go.Proofs.Ytddkehjdjfmhmaa
