/-
  What the walks of the laws need of marks and footprints. No condition.
-/
import Derived.Test.YtefifcmieicnlaaMark2
import Derived.Test.YtefifcmieicnlaaArg
namespace Go.Proofs.Ytefifcmieicnlaa
open Go.RowKit
set_option linter.unusedSimpArgs false
set_option linter.unusedVariables false

/-- a list in blocks of its own, which lie between two numbers -/
structure OwF (w : World) (A : Option Addr) (ks : List Tm) (fp : List Nat) (lo hi : Nat) : Prop where
  ow : Ow w A ks fp
  nodup : fp.Nodup
  lo : ∀ b, b ∈ fp → lo ≤ b
  hi : ∀ b, b ∈ fp → b < hi
theorem Fresh.owf {B : Nat} {w : World} {A : Option Addr} {ks : List Tm} (h : Fresh B w A ks) : ∃ fp, OwF w A ks fp B w.heap.size := by
  obtain ⟨fp, h1, h2, h3⟩ := h; exact ⟨fp, h1, h2, h3, h1.lt⟩
variable {w w' : World} {A : Option Addr} {ks : List Tm} {fp fq : List Nat} {lo hi : Nat}
theorem OwF.rd (h : OwF w A ks fp lo hi) : Rd w A 0 ks := h.ow.rd
theorem OwF.keep (h : OwF w A ks fp lo hi) (hb : Below w.heap.size w w') : OwF w' A ks fp lo hi := ⟨h.ow.frame fun b hm => hb.block b (h.ow.lt b hm), h.nodup, h.lo, h.hi⟩
theorem OwF.alloc (h : OwF w A ks fp lo hi) (o : Obj) : OwF (w.alloc o) A ks fp lo hi := ⟨h.ow.frame fun b hm => Below.heap_alloc w o b (h.ow.lt b hm), h.nodup, h.lo, h.hi⟩
theorem OwF.drew (h : OwF w A ks fp lo hi) : OwF w.drew A ks fp lo hi := ⟨h.ow.frame fun b hm => rfl, h.nodup, h.lo, h.hi⟩
theorem OwF.only (h : OwF w A ks fp lo hi) (ho : OnlyIn fq w w') (hd : ∀ b, b ∈ fp → b ∉ fq) : OwF w' A ks fp lo hi := ⟨h.ow.frame fun b hm => ho.block b (h.ow.lt b hm) (hd b hm), h.nodup, h.lo, h.hi⟩
theorem OwF.marked {m : Int} (h : OwF w A ks fp lo hi) (ho : Ow w' A (markL m ks) fp) : OwF w' A (markL m ks) fp lo hi := ⟨ho, h.nodup, h.lo, h.hi⟩
/-- blocks that end where others begin -/
theorem OwF.apart {A' : Option Addr} {ks' : List Tm} {lo' hi' : Nat} (h : OwF w A ks fp lo hi) (h' : OwF w' A' ks' fq lo' hi') (hh : hi ≤ lo') : ∀ b, b ∈ fp → b ∉ fq := fun b h1 h2 => by have := h.hi b h1; have := h'.lo b h2; omega
theorem OwF.apart' {A' : Option Addr} {ks' : List Tm} {lo' hi' : Nat} (h : OwF w A ks fp lo hi) (h' : OwF w' A' ks' fq lo' hi') (hh : hi' ≤ lo) : ∀ b, b ∈ fp → b ∉ fq := fun b h1 h2 => by have := h.lo b h1; have := h'.hi b h2; omega
theorem OwF.out (h : OwF w A ks fp lo hi) {g : Nat} (hg : g < lo ∨ hi ≤ g) : g ∉ fp := fun h1 => by have := h.lo g h1; have := h.hi g h1; omega
theorem Blk.only {g : Nat} {cs : Array Value} (h : Blk w g cs) (ho : OnlyIn fq w w') (hg : g ∉ fq) : Blk w' g cs := by have hl := h.lt; obtain ⟨t, h⟩ := h; exact ⟨t, (ho.block g hl hg).trans h⟩
theorem OwF.below (h : OwF w A ks fp lo hi) (ho : OnlyIn fp w w') (hlo : lo ≤ w.heap.size) : Below lo w w' := ho.below hlo h.lo

theorem held_again (k n : Int) (ks : List Tm) (A : Option Addr) (c : Nat) (w : World) (hM : sizes ks ≤ 1099511627776) (hr : Rd w A 0 (markL 1 ks)) :
    Calls Try.prog 32 #[.agg #[.int .i64 k, .int .i64 n, .slice A ks.length c], .int .i64 1] w fun e w' => e = .returned (.int .i64 (1 + 2 * sizes ks)) ∧ Below w.heap.size w w' := by
  have h := heldTerm_any k n (markL 1 ks) A c 1 w (by rw [mark_sizes.2]; exact hM) (by omega) (by rw [mark_sizes.2]; omega) hr (held_mark.2 ks 1)
  rwa [markL_length, mark_sizes.2] at h
set_option maxRecDepth 100000 in
/-- an argument that is a list of terms -/
theorem open_list {H : Type} {enc : TypeId × Value → H} {W : World} {base : Nat} {spare : Nat → Bool} {held : Bool} {r : Reach} {b0 : Nat} {v : Value} {d : DataW H} {p : List MemPlace} (hv : Value.okWide Try.prog W r b0 22 v) (h : DataW.Trod enc Try.prog W base spare held 22 v d p) :
    ∃ (ks : List Tm) (A : Option Addr) (c : Nat), v = .slice A ks.length c ∧ ks.length ≤ 9223372036854775807 ∧ Rd W A 0 ks := by
  obtain ⟨a, len, cap, rfl⟩ := Go.WideShapes.okWide_slice Try.underlying22 hv
  obtain ⟨fuel, hf⟩ := h
  exact open_terms fuel _ _ hf
end Go.Proofs.Ytefifcmieicnlaa
