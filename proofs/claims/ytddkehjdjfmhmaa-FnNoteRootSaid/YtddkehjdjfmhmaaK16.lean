/-
 Contracts of the functions that the law reaches, and plain lemmas. No condition.
-/
import Derived.Test.YtddkehjdjfmhmaaK9
import Derived.Test.YtddkehjdjfmhmaaK10
import Derived.Test.YtddkehjdjfmhmaaK15
namespace Go.Proofs.Ytddkehjdjfmhmaa
set_option linter.unusedSimpArgs false
set_option linter.unusedVariables false
open Go.RowKit
namespace NT
def shift (m : Nat) : Nat → NT → NT
 | c, .var i => if c ≤ i then .var (i + m) else .var i
 | _, .zero => .zero
 | c, .suc a => .suc (a.shift m c)
 | c, .app b a => .app (b.shift m (c + 1)) (a.shift m c)
 | c, .elim z s n => .elim (z.shift m c) (s.shift m (c + 2)) (n.shift m c)
 | c, .part q a b => .part q (a.shift m c) (b.shift m c)
 | c, .mov x z => .mov (x.shift m c) (z.shift m c)
def sub (a : NT) : Nat → NT → NT
 | k, .var i => if i = k then a.shift k 0 else if k < i then .var (i - 1) else .var i
 | _, .zero => .zero
 | k, .suc b => .suc (sub a k b)
 | k, .app b c => .app (sub a (k + 1) b) (sub a k c)
 | k, .elim z s n => .elim (sub a k z) (sub a (k + 2) s) (sub a k n)
 | k, .part q x y => .part q (sub a k x) (sub a k y)
 | k, .mov x z => .mov (sub a k x) (sub a k z)
theorem shift_shift (a : NT) : ∀ (k d c e : Nat), c ≤ e → e ≤ c + k → (a.shift k c).shift d e = a.shift (k + d) c := by
 induction a with
 | var i =>
  intro k d c e h1 h2
  simp only [shift]
  by_cases h : c ≤ i
  ·rw [if_pos h, if_pos h, shift, if_pos (by omega)]; congr 1; omega
  ·rw [if_neg h, if_neg h, shift, if_neg (by omega)]
 | zero => intros; rfl
 | suc a ih => intro k d c e h1 h2; simp only [shift]; rw [ih k d c e h1 h2]
 | app b a h1 h2 => intro k d c e g1 g2; simp only [shift]; rw [h1 k d (c + 1) (e + 1) (by omega) (by omega), h2 k d c e g1 g2]
 | elim z s n h1 h2 h3 => intro k d c e g1 g2; simp only [shift]; rw [h1 k d c e g1 g2, h2 k d (c + 2) (e + 2) (by omega) (by omega), h3 k d c e g1 g2]
 | part q a b h1 h2 => intro k d c e g1 g2; simp only [shift]; rw [h1 k d c e g1 g2, h2 k d c e g1 g2]
 | mov a b h1 h2 => intro k d c e g1 g2; simp only [shift]; rw [h1 k d c e g1 g2, h2 k d c e g1 g2]
theorem shift_comm (a : NT) : ∀ (m d k e : Nat), e ≤ k → (a.shift m k).shift d e = (a.shift d e).shift m (k + d) := by
 induction a with
 | var i =>
  intro m d k e h
  simp only [shift]
  by_cases h1 : k ≤ i
  ·rw [if_pos h1, if_pos (by omega)]; simp only [shift]; rw [if_pos (by omega), if_pos (by omega)]; congr 1; omega
  ·rw [if_neg h1]
   by_cases h2 : e ≤ i
   ·rw [if_pos h2]; simp only [shift]; rw [if_pos h2, if_neg (by omega)]
   ·rw [if_neg h2]; simp only [shift]; rw [if_neg h2, if_neg (by omega)]
 | zero => intros; rfl
 | suc a ih => intro m d k e h; simp only [shift]; rw [ih m d k e h]
 | app b a h1 h2 => intro m d k e h; simp only [shift]; rw [h1 m d (k + 1) (e + 1) (by omega), h2 m d k e h, show k + 1 + d = k + d + 1 by omega]
 | elim z s n h1 h2 h3 => intro m d k e h; simp only [shift]; rw [h1 m d k e h, h2 m d (k + 2) (e + 2) (by omega), h3 m d k e h, show k + 2 + d = k + d + 2 by omega]
 | part q a b h1 h2 => intro m d k e h; simp only [shift]; rw [h1 m d k e h, h2 m d k e h]
 | mov a b h1 h2 => intro m d k e h; simp only [shift]; rw [h1 m d k e h, h2 m d k e h]
theorem sub_shift (u : NT) : ∀ (a : NT) (m k d : Nat), (sub a d u).shift m (k + d) = sub (a.shift m k) d (u.shift m (k + d + 1)) := by
 induction u with
 | var i =>
  intro a m k d
  simp only [sub, shift]
  by_cases h1 : i = d
  ·subst h1
   rw [if_pos rfl, if_neg (by omega)]
   simp only [sub]
   rw [if_pos trivial, shift_comm a m i k 0 (by omega)]
  ·rw [if_neg h1]
   by_cases h2 : d < i
   ·rw [if_pos h2]
    simp only [shift]
    by_cases h3 : k + d + 1 ≤ i
    ·rw [if_pos (by omega), if_pos h3]; simp only [sub]; rw [if_neg (by omega), if_pos (by omega)]; congr 1; omega
    ·rw [if_neg (by omega), if_neg h3]; simp only [sub]; rw [if_neg h1, if_pos h2]
   ·rw [if_neg h2, if_neg (by omega)]
    simp only [shift, sub]
    rw [if_neg (by omega), if_neg h1, if_neg h2]
 | zero => intros; rfl
 | suc b ih => intro a m k d; simp only [sub, shift]; rw [ih]
 | app b c h1 h2 => intro a m k d; simp only [sub, shift]; rw [show k + d + 1 = k + (d + 1) by omega, h1, h2, show k + (d + 1) + 1 = k + d + 1 + 1 by omega, show k + d + 1 = k + (d + 1) by omega]
 | elim z s n h1 h2 h3 => intro a m k d; simp only [sub, shift]; rw [show k + d + 2 = k + (d + 2) by omega, h1, h2, h3, show k + (d + 2) + 1 = k + d + 1 + 2 by omega]
 | part q x y h1 h2 => intro a m k d; simp only [sub, shift]; rw [h1, h2]
 | mov x y h1 h2 => intro a m k d; simp only [sub, shift]; rw [h1, h2]
theorem shift_sub (x : NT) : ∀ (a : NT) (k d c : Nat), c ≤ k → sub a (k + d) (x.shift d c) = (sub a k x).shift d c := by
 induction x with
 | var i =>
  intro a k d c h
  simp only [sub, shift]
  by_cases h1 : i = k
  ·subst h1
   rw [if_pos h, if_pos rfl]
   simp only [sub]
   rw [if_pos trivial, shift_shift a i d 0 c (by omega) (by omega)]
  ·rw [if_neg h1]
   by_cases h2 : k < i
   ·rw [if_pos (by omega), if_pos h2]
    simp only [sub, shift]
    rw [if_neg (by omega), if_pos (by omega), if_pos (by omega)]; congr 1; omega
   ·rw [if_neg h2]
    by_cases h3 : c ≤ i
    ·rw [if_pos h3]; simp only [sub, shift]; rw [if_neg (by omega), if_neg (by omega), if_pos h3]
    ·rw [if_neg h3]; simp only [sub, shift]; rw [if_neg (by omega), if_neg (by omega), if_neg h3]
 | zero => intros; rfl
 | suc b ih => intro a k d c h; simp only [sub, shift]; rw [ih a k d c h]
 | app b e h1 h2 => intro a k d c h; simp only [sub, shift]; rw [show k + d + 1 = (k + 1) + d by omega, h1 a (k + 1) d (c + 1) (by omega), h2 a k d c h]
 | elim z s n h1 h2 h3 => intro a k d c h; simp only [sub, shift]; rw [show k + d + 2 = (k + 2) + d by omega, h2 a (k + 2) d (c + 2) (by omega), h1 a k d c h, h3 a k d c h]
 | part q x y h1 h2 => intro a k d c h; simp only [sub, shift]; rw [h1 a k d c h, h2 a k d c h]
 | mov x y h1 h2 => intro a k d c h; simp only [sub, shift]; rw [h1 a k d c h, h2 a k d c h]
theorem sub_over (a : NT) : ∀ (x : NT) (j d c : Nat), c ≤ d → d ≤ c + j → sub x d (a.shift (j + 1) c) = a.shift j c := by
 induction a with
 | var i =>
  intro x j d c h1 h2
  simp only [shift]
  by_cases h : c ≤ i
  ·rw [if_pos h, if_pos h]; simp only [sub]; rw [if_neg (by omega), if_pos (by omega)]; congr 1
  ·rw [if_neg h, if_neg h]; simp only [sub]; rw [if_neg (by omega), if_neg (by omega)]
 | zero => intros; rfl
 | suc b ih => intro x j d c h1 h2; simp only [shift, sub]; rw [ih x j d c h1 h2]
 | app b e h1 h2 => intro x j d c g1 g2; simp only [shift, sub]; rw [h1 x j (d + 1) (c + 1) (by omega) (by omega), h2 x j d c g1 g2]
 | elim z s n h1 h2 h3 => intro x j d c g1 g2; simp only [shift, sub]; rw [h1 x j d c g1 g2, h2 x j (d + 2) (c + 2) (by omega) (by omega), h3 x j d c g1 g2]
 | part q a b h1 h2 => intro x j d c g1 g2; simp only [shift, sub]; rw [h1 x j d c g1 g2, h2 x j d c g1 g2]
 | mov a b h1 h2 => intro x j d c g1 g2; simp only [shift, sub]; rw [h1 x j d c g1 g2, h2 x j d c g1 g2]
theorem sub_sub (u : NT) : ∀ (a b : NT) (k d : Nat), sub (sub a k b) d (sub a (k + d + 1) u) = sub a (k + d) (sub b d u) := by
 induction u with
 | var i =>
  intro a b k d
  simp only [sub]
  by_cases h1 : i = k + d + 1
  ·rw [if_pos h1, if_neg (show ¬ i = d by omega), if_pos (show d < i by omega), sub_over a _ (k + d) d 0 (by omega) (by omega)]
   simp only [sub]
   rw [if_pos (by omega)]
  ·rw [if_neg h1]
   by_cases h2 : k + d + 1 < i
   ·rw [if_pos h2, if_neg (show ¬ i = d by omega), if_pos (show d < i by omega)]
    simp only [sub]
    rw [if_neg (by omega), if_pos (by omega), if_neg (by omega), if_pos (by omega)]
   ·rw [if_neg h2]
    by_cases h3 : i = d
    ·subst h3
     rw [if_pos rfl]
     simp only [sub]
     rw [if_pos trivial, shift_sub b a k i 0 (by omega)]
    ·rw [if_neg h3]
     by_cases h4 : d < i
     ·rw [if_pos h4]; simp only [sub]; rw [if_neg h3, if_pos h4, if_neg (by omega), if_neg (by omega)]
     ·rw [if_neg h4]; simp only [sub]; rw [if_neg h3, if_neg h4, if_neg (by omega), if_neg (by omega)]
 | zero => intros; rfl
 | suc u ih => intro a b k d; simp only [sub]; rw [ih]
 | app u v h1 h2 => intro a b k d; simp only [sub]; rw [show k + d + 1 + 1 = k + (d + 1) + 1 by omega, h1, h2, show k + (d + 1) = k + d + 1 by omega]
 | elim z s n h1 h2 h3 => intro a b k d; simp only [sub]; rw [show k + d + 1 + 2 = k + (d + 2) + 1 by omega, h2, h1, h3, show k + (d + 2) = k + d + 2 by omega]
 | part q x y h1 h2 => intro a b k d; simp only [sub]; rw [h1, h2]
 | mov x y h1 h2 => intro a b k d; simp only [sub]; rw [h1, h2]
end NT
open Go.RowKit
inductive Rs (α : Type) where
 | ok (a : α)
 | no (b : Bool)
def cdB (b : Bool) : Int := if b = true then 1 else 2
def Rs.cd {α : Type} : Rs α → Int
 | .ok _ => 0
 | .no b => cdB b
theorem cdB_ne (b : Bool) : cdB b ≠ 0 := by cases b <;> decide
def bd {α β : Type} (o : Option (Rs α)) (f : α → Option (Rs β)) : Option (Rs β) :=
 match o with
 | none => none
 | some (.no b) => some (.no b)
 | some (.ok a) => f a
theorem bd_ok {α β : Type} (a : α) (f : α → Option (Rs β)) : bd (some (.ok a)) f = f a := rfl
theorem bd_inv {α β : Type} {o : Option (Rs α)} {f : α → Option (Rs β)} {r : Rs β} (h : bd o f = some r) : (∃ b, o = some (.no b) ∧ r = .no b) ∨ ∃ a, o = some (.ok a) ∧ f a = some r := by
 cases o with
 | none => cases h
 | some x => cases x with
  | no b => injection h with h; exact .inl ⟨b, rfl, h.symm⟩
  | ok a => exact .inr ⟨a, rfl, h⟩
def hdR (s : Tm) : Rs Tm := if validT s = true then (match (redI headP 200 s).1 with | some o => .ok o | none => .no false) else .no false
def smR (a b : Tm) : Rs Unit := if validT a = true ∧ validT b = true then (if convI 200 a b = 1 then .ok () else if convI 200 a b = 2 then .no true else .no false) else .no false
abbrev RecR := List Tm → Tm → Option (Rs Tm)
section
variable (rec_ : RecR) (ctx : List Tm)
def srtH (h : Tm) : Option (Rs Int) := if h.k = 2 then some (.ok h.n) else some (.no true)
def srtR (t : Tm) : Option (Rs Int) := bd (rec_ ctx t) fun s => bd (some (hdR s)) srtH
def shpH (kind : Int) (h : Tm) : Option (Rs Tm) := if h.k = kind then some (.ok h) else some (.no true)
def shpR (t : Tm) (kind : Int) : Option (Rs Tm) := bd (rec_ ctx t) fun s => bd (some (hdR s)) (shpH kind)
def chkR (t want : Tm) : Option (Rs Unit) := bd (rec_ ctx t) fun s => some (smR s want)
def bndR (a b : Tm) : Option (Rs Tm) := bd (srtR rec_ ctx a) fun i => bd (srtR rec_ (ctx ++ [a]) b) fun j => some (.ok (.mk 2 (if j < i then i else j) []))
def lamR (a b : Tm) : Option (Rs Tm) := bd (srtR rec_ ctx a) fun _ => bd (rec_ (ctx ++ [a]) b) fun u => bd (bndR rec_ ctx a u) fun _ => some (.ok (.mk 3 0 [a, u]))
def appR (f u : Tm) : Option (Rs Tm) := bd (shpR rec_ ctx f 3) fun h => bd (chkR rec_ ctx u (kidT h.ks 0)) fun _ => some (.ok (sbS u 0 0 (kidT h.ks 1)))
def famH (h : Tm) : Option (Rs Unit) := if h.k = 2 then some (.ok ()) else some (.no true)
def famR (p from_ : Tm) : Option (Rs Unit) := bd (shpR rec_ ctx p 3) fun f => bd (some (smR (kidT f.ks 0) from_)) fun _ => bd (some (hdR (kidT f.ks 1))) famH
def nT : Tm := .mk 6 0 []
def apT (a b : Tm) : Tm := .mk 5 0 [a, b]
def stpR (p : Tm) : Tm := .mk 3 0 [nT, .mk 3 0 [apT (shS 1 0 p) (.mk 1 0 []), apT (shS 2 0 p) (.mk 8 0 [.mk 1 1 []])]]
def elmR (p z s n : Tm) : Option (Rs Tm) := bd (famR rec_ ctx p nT) fun _ => bd (chkR rec_ ctx z (apT p (.mk 7 0 []))) fun _ => bd (chkR rec_ ctx s (stpR p)) fun _ => bd (chkR rec_ ctx n nT) fun _ => some (.ok (apT p n))
def idnR (a x y : Tm) : Option (Rs Tm) := bd (srtR rec_ ctx a) fun i => bd (chkR rec_ ctx x a) fun _ => bd (chkR rec_ ctx y a) fun _ => some (.ok (.mk 2 i []))
def movR (p e z : Tm) : Option (Rs Tm) := bd (shpR rec_ ctx e 10) fun h => bd (famR rec_ ctx p (kidT h.ks 0)) fun _ => bd (chkR rec_ ctx z (apT p (kidT h.ks 1))) fun _ => some (.ok (apT p (kidT h.ks 2)))
def parR (s a b : Tm) : Option (Rs Tm) := bd (srtR rec_ ctx s) fun _ => bd (some (hdR s)) fun h => bd (shpH 13 h) fun h => bd (chkR rec_ ctx a (kidT h.ks 0)) fun _ => bd (chkR rec_ ctx b (sbS a 0 0 (kidT h.ks 1))) fun _ => some (.ok s)
def prtR (k : Int) (p : Tm) : Option (Rs Tm) := bd (shpR rec_ ctx p 13) fun h => if k = 15 then some (.ok (kidT h.ks 0)) else some (.ok (sbS (.mk 15 0 [p]) 0 0 (kidT h.ks 1)))
def sucR (t : Tm) : Option (Rs Tm) := bd (chkR rec_ ctx t nT) fun _ => some (.ok nT)
def rflR (a : Tm) : Option (Rs Tm) := bd (rec_ ctx a) fun s => bd (srtR rec_ ctx s) fun _ => some (.ok (.mk 10 0 [s, a, a]))
def varR (n : Int) : Option (Rs Tm) := if (ctx.length : Int) ≤ n then some (.no true) else some (.ok (shS (n + 1) 0 (ctx.getD (ctx.length - 1 - n.toNat) default)))
def kndR : Tm → Option (Rs Tm)
 | .mk k n ks =>
  if k = 3 ∨ k = 13 then bndR rec_ ctx (kidT ks 0) (kidT ks 1)
  else if k = 4 then lamR rec_ ctx (kidT ks 0) (kidT ks 1)
  else if k = 5 then appR rec_ ctx (kidT ks 0) (kidT ks 1)
  else if k = 9 then elmR rec_ ctx (kidT ks 0) (kidT ks 1) (kidT ks 2) (kidT ks 3)
  else if k = 10 then idnR rec_ ctx (kidT ks 0) (kidT ks 1) (kidT ks 2)
  else if k = 12 then movR rec_ ctx (kidT ks 0) (kidT ks 1) (kidT ks 2)
  else if k = 14 then parR rec_ ctx (kidT ks 0) (kidT ks 1) (kidT ks 2)
  else if k = 1 then varR ctx n
  else if k = 2 then (if 3 ≤ n then some (.no true) else some (.ok (.mk 2 (n + 1) [])))
  else if k = 6 then some (.ok (.mk 2 0 []))
  else if k = 7 then some (.ok nT)
  else if k = 8 then sucR rec_ ctx (kidT ks 0)
  else if k = 11 then rflR rec_ ctx (kidT ks 0)
  else prtR rec_ ctx k (kidT ks 0)
end
def vldR (o : Tm) : Option (Rs Tm) := if validT o = true then some (.ok o) else some (.no false)
def infR : Nat → List Tm → Tm → Option (Rs Tm)
 | 0, _, _ => none
 | N + 1, ctx, t => if validT t = true ∧ ctx.length ≤ 20 then bd (kndR (infR N) ctx t) vldR else some (.no false)
theorem infR_valid {N : Nat} {ctx : List Tm} {t s : Tm} (h : infR N ctx t = some (.ok s)) : validT s = true := by
 cases N with
 | zero => cases h
 | succ N =>
  rw [infR] at h
  split at h
  ·rcases bd_inv h with ⟨b, _, hb⟩ | ⟨a, _, ha⟩
   ·cases hb
   ·unfold vldR at ha
    split at ha
    ·injection ha with ha; injection ha with ha; subst ha; assumption
    ·injection ha with ha; cases ha
  ·injection h with h; cases h
theorem hdR_valid {s o : Tm} (h : hdR s = .ok o) : validT s = true ∧ validT o = true ∧ redI headP 200 s = (some o, 0) := by
 unfold hdR at h
 split at h
 ·rename_i hv
  split at h
  ·rename_i o' he
   injection h with h
   subst h
   have h2 : ∀ (f : Nat) (t : Tm), validT t = true → ∀ o, (redI headP f t).1 = some o → validT o = true ∧ redI headP f t = (some o, 0) := by
    intro f
    induction f with
    | zero =>
     intro t ht o
     rw [redI]
     cases headP t with
     | none => intro h; injection h with h; subst h; exact ⟨ht, rfl⟩
     | some p => intro h; cases h
    | succ f ih =>
     intro t ht o
     rw [redI]
     cases headP t with
     | none => intro h; injection h with h; subst h; exact ⟨ht, rfl⟩
     | some p =>
      simp only
      cases hc : ctdI t p with
      | none => intro h; cases h
      | some t' =>
       refine ih t' ?_ o
       unfold ctdI at hc
       split at hc
       ·cases hc
       ·split at hc
        ·cases hc
        ·unfold vO at hc
         split at hc
         ·injection hc with hc; subst hc; assumption
         ·cases hc
   have := h2 200 s hv _ he
   exact ⟨hv, this.1, this.2⟩
  ·cases h
 ·cases h
open Go.RowKit
def Le {α : Type} (o1 o2 : Option α) : Prop := ∀ r, o1 = some r → o2 = some r
theorem Le.refl {α : Type} (o : Option α) : Le o o := fun _ h => h
theorem bd_le {α β : Type} {o1 o2 : Option (Rs α)} {f1 f2 : α → Option (Rs β)} (h : Le o1 o2) (hf : ∀ a, Le (f1 a) (f2 a)) : Le (bd o1 f1) (bd o2 f2) := by
 intro r hr
 rcases bd_inv hr with ⟨b, h1, rfl⟩ | ⟨a, h1, h2⟩
 ·rw [h _ h1]; rfl
 ·rw [h _ h1, bd_ok]; exact hf a r h2
section
variable {r1 r2 : RecR} (hr : ∀ c t, Le (r1 c t) (r2 c t)) (ctx : List Tm)
include hr
theorem srtR_le (t : Tm) : Le (srtR r1 ctx t) (srtR r2 ctx t) := bd_le (hr _ _) fun _ => Le.refl _
theorem shpR_le (t : Tm) (k : Int) : Le (shpR r1 ctx t k) (shpR r2 ctx t k) := bd_le (hr _ _) fun _ => Le.refl _
theorem chkR_le (t u : Tm) : Le (chkR r1 ctx t u) (chkR r2 ctx t u) := bd_le (hr _ _) fun _ => Le.refl _
theorem bndR_le (a b : Tm) : Le (bndR r1 ctx a b) (bndR r2 ctx a b) := bd_le (srtR_le hr _ _) fun _ => bd_le (srtR_le hr _ _) fun _ => Le.refl _
theorem famR_le (p f : Tm) : Le (famR r1 ctx p f) (famR r2 ctx p f) := bd_le (shpR_le hr _ _ _) fun _ => Le.refl _
theorem kndR_le (t : Tm) : Le (kndR r1 ctx t) (kndR r2 ctx t) := by
 obtain ⟨k, n, ks⟩ := t
 rw [kndR, kndR]
 by_cases h3 : k = 3 ∨ k = 13
 ·rw [if_pos h3, if_pos h3]; exact bndR_le hr _ _ _
 rw [if_neg h3, if_neg h3]
 by_cases h4 : k = 4
 ·rw [if_pos h4, if_pos h4]; exact bd_le (srtR_le hr _ _) fun _ => bd_le (hr _ _) fun _ => bd_le (bndR_le hr _ _ _) fun _ => Le.refl _
 rw [if_neg h4, if_neg h4]
 by_cases h5 : k = 5
 ·rw [if_pos h5, if_pos h5]; exact bd_le (shpR_le hr _ _ _) fun _ => bd_le (chkR_le hr _ _ _) fun _ => Le.refl _
 rw [if_neg h5, if_neg h5]
 by_cases h9 : k = 9
 ·rw [if_pos h9, if_pos h9]; exact bd_le (famR_le hr _ _ _) fun _ => bd_le (chkR_le hr _ _ _) fun _ => bd_le (chkR_le hr _ _ _) fun _ => bd_le (chkR_le hr _ _ _) fun _ => Le.refl _
 rw [if_neg h9, if_neg h9]
 by_cases h10 : k = 10
 ·rw [if_pos h10, if_pos h10]; exact bd_le (srtR_le hr _ _) fun _ => bd_le (chkR_le hr _ _ _) fun _ => bd_le (chkR_le hr _ _ _) fun _ => Le.refl _
 rw [if_neg h10, if_neg h10]
 by_cases h12 : k = 12
 ·rw [if_pos h12, if_pos h12]; exact bd_le (shpR_le hr _ _ _) fun _ => bd_le (famR_le hr _ _ _) fun _ => bd_le (chkR_le hr _ _ _) fun _ => Le.refl _
 rw [if_neg h12, if_neg h12]
 by_cases h14 : k = 14
 ·rw [if_pos h14, if_pos h14]; exact bd_le (srtR_le hr _ _) fun _ => bd_le (Le.refl _) fun _ => bd_le (Le.refl _) fun _ => bd_le (chkR_le hr _ _ _) fun _ => bd_le (chkR_le hr _ _ _) fun _ => Le.refl _
 rw [if_neg h14, if_neg h14]
 by_cases h1 : k = 1
 ·rw [if_pos h1, if_pos h1]; exact Le.refl _
 rw [if_neg h1, if_neg h1]
 by_cases h2 : k = 2
 ·rw [if_pos h2, if_pos h2]; exact Le.refl _
 rw [if_neg h2, if_neg h2]
 by_cases h6 : k = 6
 ·rw [if_pos h6, if_pos h6]; exact Le.refl _
 rw [if_neg h6, if_neg h6]
 by_cases h7 : k = 7
 ·rw [if_pos h7, if_pos h7]; exact Le.refl _
 rw [if_neg h7, if_neg h7]
 by_cases h8 : k = 8
 ·rw [if_pos h8, if_pos h8]; exact bd_le (chkR_le hr _ _ _) fun _ => Le.refl _
 rw [if_neg h8, if_neg h8]
 by_cases h11 : k = 11
 ·rw [if_pos h11, if_pos h11]; exact bd_le (hr _ _) fun _ => bd_le (srtR_le hr _ _) fun _ => Le.refl _
 rw [if_neg h11, if_neg h11]
 exact bd_le (shpR_le hr _ _ _) fun _ => Le.refl _
end
theorem infR_le : ∀ (N : Nat) (ctx : List Tm) (t : Tm), Le (infR N ctx t) (infR (N + 1) ctx t)
 | 0, _, _ => fun _ h => by cases h
 | N + 1, ctx, t => by
  intro r h
  rw [infR] at h ⊢
  split at h
  ·rename_i hv
   rw [if_pos hv]
   exact bd_le (kndR_le (infR_le N) ctx t) (fun _ => Le.refl _) r h
  ·rename_i hv
   rw [if_neg hv]; exact h
theorem infR_mono {N M : Nat} (h : N ≤ M) (ctx : List Tm) (t : Tm) : Le (infR N ctx t) (infR M ctx t) := by
 induction M with
 | zero => rw [show N = 0 by omega]; exact Le.refl _
 | succ M ih =>
  by_cases hN : N = M + 1
  ·rw [hN]; exact Le.refl _
  ·exact fun r hr => infR_le M ctx t r (ih (by omega) r hr)
def Ends (ctx : List Tm) (t : Tm) : Prop := ∃ N r, infR N ctx t = some r
def Df {α : Type} (o : Option α) : Prop := ∃ r, o = some r
theorem df_some {α : Type} (r : α) : Df (some r) := ⟨r, rfl⟩
theorem bd_df {α β : Type} {o : Option (Rs α)} {f : α → Option (Rs β)} (h : Df o) (hf : ∀ a, o = some (.ok a) → Df (f a)) : Df (bd o f) := by
 obtain ⟨r, rfl⟩ := h
 cases r with
 | no b => exact ⟨_, rfl⟩
 | ok a => exact hf a rfl
theorem if_df {α : Type} {p : Prop} [Decidable p] {a b : Option α} (ha : Df a) (hb : Df b) : Df (if p then a else b) := by
 split
 ·exact ha
 ·exact hb
section
variable {rc : RecR} {ctx : List Tm}
theorem srtR_df {t : Tm} (h : Df (rc ctx t)) : Df (srtR rc ctx t) := bd_df h fun _ _ => bd_df (df_some _) fun _ _ => if_df (df_some _) (df_some _)
theorem shpR_df {t : Tm} {k : Int} (h : Df (rc ctx t)) : Df (shpR rc ctx t k) := bd_df h fun _ _ => bd_df (df_some _) fun _ _ => if_df (df_some _) (df_some _)
theorem chkR_df {t u : Tm} (h : Df (rc ctx t)) : Df (chkR rc ctx t u) := bd_df h fun _ _ => df_some _
theorem bndR_df {a b : Tm} (ha : Df (rc ctx a)) (hb : Df (rc (ctx ++ [a]) b)) : Df (bndR rc ctx a b) := bd_df (srtR_df ha) fun _ _ => bd_df (srtR_df hb) fun _ _ => df_some _
theorem famR_df {p f : Tm} (h : Df (rc ctx p)) : Df (famR rc ctx p f) := bd_df (shpR_df h) fun _ _ => bd_df (df_some _) fun _ _ => bd_df (df_some _) fun _ _ => if_df (df_some _) (df_some _)
def cxo (ctx : List Tm) (k : Int) (ks : List Tm) (i : Nat) : List Tm := if i = 1 ∧ binds k = true then ctx ++ [kidT ks 0] else ctx
theorem kndR_df {k n : Int} {ks : List Tm} (hk : ∀ i, i < 4 → Df (rc (cxo ctx k ks i) (kidT ks i))) (h4 : k = 4 → ∀ u, rc (ctx ++ [kidT ks 0]) (kidT ks 1) = some (.ok u) → Df (rc (ctx ++ [kidT ks 0]) u)) (h11 : k = 11 → ∀ u, rc ctx (kidT ks 0) = some (.ok u) → Df (rc ctx u)) : Df (kndR rc ctx (.mk k n ks)) := by
 have k0 : Df (rc ctx (kidT ks 0)) := by have := hk 0 (by omega); rwa [cxo, if_neg (by omega)] at this
 have k2 : Df (rc ctx (kidT ks 2)) := by have := hk 2 (by omega); rwa [cxo, if_neg (by omega)] at this
 have k3 : Df (rc ctx (kidT ks 3)) := by have := hk 3 (by omega); rwa [cxo, if_neg (by omega)] at this
 have kb : binds k = true → Df (rc (ctx ++ [kidT ks 0]) (kidT ks 1)) := fun h => by have := hk 1 (by omega); rwa [cxo, if_pos ⟨rfl, h⟩] at this
 have k1 : ¬ binds k = true → Df (rc ctx (kidT ks 1)) := fun h => by have := hk 1 (by omega); rwa [cxo, if_neg (fun h' => h h'.2)] at this
 rw [kndR]
 by_cases e3 : k = 3 ∨ k = 13
 ·rw [if_pos e3]; exact bndR_df k0 (kb (by rcases e3 with rfl | rfl <;> rfl))
 rw [if_neg e3]
 by_cases e4 : k = 4
 ·rw [if_pos e4]
  have hb := kb (by rw [e4]; rfl)
  exact bd_df (srtR_df k0) fun _ _ => bd_df hb fun u hu => bd_df (bndR_df k0 (h4 e4 u hu)) fun _ _ => df_some _
 rw [if_neg e4]
 have k1' := k1 (by unfold binds; simp only [Bool.or_eq_true, beq_iff_eq]; omega)
 by_cases e5 : k = 5
 ·rw [if_pos e5]; exact bd_df (shpR_df k0) fun _ _ => bd_df (chkR_df k1') fun _ _ => df_some _
 rw [if_neg e5]
 by_cases e9 : k = 9
 ·rw [if_pos e9]; exact bd_df (famR_df k0) fun _ _ => bd_df (chkR_df k1') fun _ _ => bd_df (chkR_df k2) fun _ _ => bd_df (chkR_df k3) fun _ _ => df_some _
 rw [if_neg e9]
 by_cases e10 : k = 10
 ·rw [if_pos e10]; exact bd_df (srtR_df k0) fun _ _ => bd_df (chkR_df k1') fun _ _ => bd_df (chkR_df k2) fun _ _ => df_some _
 rw [if_neg e10]
 by_cases e12 : k = 12
 ·rw [if_pos e12]; exact bd_df (shpR_df k1') fun _ _ => bd_df (famR_df k0) fun _ _ => bd_df (chkR_df k2) fun _ _ => df_some _
 rw [if_neg e12]
 by_cases e14 : k = 14
 ·rw [if_pos e14]; exact bd_df (srtR_df k0) fun _ _ => bd_df (df_some _) fun _ _ => bd_df (if_df (df_some _) (df_some _)) fun _ _ => bd_df (chkR_df k1') fun _ _ => bd_df (chkR_df k2) fun _ _ => df_some _
 rw [if_neg e14]
 by_cases e1 : k = 1
 ·rw [if_pos e1]; exact if_df (df_some _) (df_some _)
 rw [if_neg e1]
 by_cases e2 : k = 2
 ·rw [if_pos e2]; exact if_df (df_some _) (df_some _)
 rw [if_neg e2]
 by_cases e6 : k = 6
 ·rw [if_pos e6]; exact df_some _
 rw [if_neg e6]
 by_cases e7 : k = 7
 ·rw [if_pos e7]; exact df_some _
 rw [if_neg e7]
 by_cases e8 : k = 8
 ·rw [if_pos e8]; exact bd_df (chkR_df k0) fun _ _ => df_some _
 rw [if_neg e8]
 by_cases e11 : k = 11
 ·rw [if_pos e11]; exact bd_df k0 fun u hu => bd_df (srtR_df (h11 e11 u hu)) fun _ _ => df_some _
 rw [if_neg e11]
 exact bd_df (shpR_df k0) fun _ _ => if_df (df_some _) (df_some _)
end
theorem Ends.at_ {ctx : List Tm} {t : Tm} (h : Ends ctx t) : ∃ N, ∀ M, N ≤ M → Df (infR M ctx t) := by
 obtain ⟨N, r, h⟩ := h
 exact ⟨N, fun M hM => ⟨r, infR_mono hM _ _ _ h⟩⟩
theorem infR_one {N M : Nat} {ctx : List Tm} {t : Tm} {r s : Rs Tm} (h1 : infR N ctx t = some r) (h2 : infR M ctx t = some s) : r = s := by
 have e1 := infR_mono (Nat.le_max_left N M) ctx t _ h1
 have e2 := infR_mono (Nat.le_max_right N M) ctx t _ h2
 rw [e1] at e2
 injection e2
theorem ends_node {ctx : List Tm} {k n : Int} {ks : List Tm} (hk : ∀ i, i < 4 → Ends (cxo ctx k ks i) (kidT ks i)) (h4 : k = 4 → ∀ N u, infR N (ctx ++ [kidT ks 0]) (kidT ks 1) = some (.ok u) → Ends (ctx ++ [kidT ks 0]) u) (h11 : k = 11 → ∀ N u, infR N ctx (kidT ks 0) = some (.ok u) → Ends ctx u) : Ends ctx (.mk k n ks) := by
 obtain ⟨N0, g0⟩ := (hk 0 (by omega)).at_
 obtain ⟨N1, g1⟩ := (hk 1 (by omega)).at_
 obtain ⟨N2, g2⟩ := (hk 2 (by omega)).at_
 obtain ⟨N3, g3⟩ := (hk 3 (by omega)).at_
 have e4 : ∃ N, k = 4 → ∀ M u, infR M (ctx ++ [kidT ks 0]) (kidT ks 1) = some (.ok u) → ∀ L, N ≤ L → Df (infR L (ctx ++ [kidT ks 0]) u) := by
  by_cases h : ∃ M u, infR M (ctx ++ [kidT ks 0]) (kidT ks 1) = some (.ok u)
  ·obtain ⟨M, u, hu⟩ := h
   by_cases hk4 : k = 4
   ·obtain ⟨N, hN⟩ := (h4 hk4 M u hu).at_
    refine ⟨N, fun _ M' u' hu' => ?_⟩
    have := infR_one hu hu'
    injection this with this
    subst this
    exact hN
   ·exact ⟨0, fun h => absurd h hk4⟩
  ·exact ⟨0, fun _ M u hu => absurd ⟨M, u, hu⟩ h⟩
 have e11 : ∃ N, k = 11 → ∀ M u, infR M ctx (kidT ks 0) = some (.ok u) → ∀ L, N ≤ L → Df (infR L ctx u) := by
  by_cases h : ∃ M u, infR M ctx (kidT ks 0) = some (.ok u)
  ·obtain ⟨M, u, hu⟩ := h
   by_cases hk4 : k = 11
   ·obtain ⟨N, hN⟩ := (h11 hk4 M u hu).at_
    refine ⟨N, fun _ M' u' hu' => ?_⟩
    have := infR_one hu hu'
    injection this with this
    subst this
    exact hN
   ·exact ⟨0, fun h => absurd h hk4⟩
  ·exact ⟨0, fun _ M u hu => absurd ⟨M, u, hu⟩ h⟩
 obtain ⟨N4, g4⟩ := e4
 obtain ⟨N5, g5⟩ := e11
 obtain ⟨M, hM⟩ : ∃ M, M = N0 + N1 + N2 + N3 + N4 + N5 := ⟨_, rfl⟩
 have hd : Df (kndR (infR M) ctx (.mk k n ks)) := by
  refine kndR_df (fun i hi => ?_) (fun e u hu => g4 e M u hu M (by omega)) (fun e u hu => g5 e M u hu M (by omega))
  rcases (show i = 0 ∨ i = 1 ∨ i = 2 ∨ i = 3 by omega) with rfl | rfl | rfl | rfl
  ·exact g0 M (by omega)
  ·exact g1 M (by omega)
  ·exact g2 M (by omega)
  ·exact g3 M (by omega)
 have : Df (infR (M + 1) ctx (.mk k n ks)) := by
  rw [infR]
  exact if_df (bd_df hd fun _ _ => if_df (df_some _) (df_some _)) (df_some _)
 obtain ⟨r, hr⟩ := this
 exact ⟨M + 1, r, hr⟩
open Go.RowKit
namespace NT
def idx : NT → Option NT
 | .elim z s n => some n
 | .mov x z => some x
 | .app b a => (idx b).map (sub a 0)
 | _ => none
inductive Gd : Nat → NT → Prop where
 | var {n i : Nat} (h : i < n) : Gd n (.var i)
 | zero {n : Nat} : Gd n .zero
 | suc {n : Nat} {a : NT} (h : Gd n a) : Gd n (.suc a)
 | app {n : Nat} {b a : NT} (h1 : Gd (n + 1) b) (h2 : Gd n a) (h3 : ∀ u, idx b = some u → Gd n (sub a 0 u)) : Gd n (.app b a)
 | elim {n : Nat} {z s m : NT} (h1 : Gd n z) (h2 : Gd (n + 2) s) (h3 : Gd n m) : Gd n (.elim z s m)
 | part {n : Nat} {q : Bool} {a b : NT} (h1 : Gd n a) (h2 : Gd n b) : Gd n (.part q a b)
 | mov {n : Nat} {x z : NT} (h1 : Gd n x) (h2 : Gd n z) : Gd n (.mov x z)
theorem gd_idx {n : Nat} {x u : NT} (h : Gd n x) (hu : idx x = some u) : Gd n u := by
 cases h with
 | var h => cases hu
 | zero => cases hu
 | suc h => cases hu
 | app h1 h2 h3 =>
  rename_i b a
  cases hb : idx b with
  | none => rw [idx, hb] at hu; cases hu
  | some v => rw [idx, hb] at hu; injection hu with hu; subst hu; exact h3 v hb
 | elim h1 h2 h3 => injection hu with hu; subst hu; exact h3
 | part h1 h2 => cases hu
 | mov h1 h2 => injection hu with hu; subst hu; exact h1
theorem idx_shift (x : NT) : ∀ m c, idx (x.shift m c) = (idx x).map (shift m c) := by
 induction x with
 | var i => intro m c; rw [shift]; split <;> rfl
 | zero => intros; rfl
 | suc a _ => intros; rfl
 | app b a h1 h2 =>
  intro m c
  rw [shift, idx, idx, h1]
  cases idx b with
  | none => rfl
  | some u =>
   simp only [Option.map_some]
   rw [show c + 1 = c + 0 + 1 by omega, ← sub_shift u a m c 0]; rfl
 | elim z s n _ _ _ => intros; rfl
 | part q a b _ _ => intros; rfl
 | mov x z _ _ => intros; rfl
theorem gd_shift {n : Nat} {x : NT} (h : Gd n x) : ∀ (m c : Nat), c ≤ n → Gd (n + m) (x.shift m c) := by
 induction h with
 | var h => intro m c hc; rw [shift]; split <;> exact .var (by omega)
 | zero => intros; exact .zero
 | suc h ih => intro m c hc; exact .suc (ih m c hc)
 | @app n b a h1 h2 h3 i1 i2 i3 =>
  intro m c hc
  refine .app (by have := i1 m (c + 1) (by omega); rwa [show n + 1 + m = n + m + 1 by omega] at this) (i2 m c hc) ?_
  intro u hu
  rw [idx_shift] at hu
  cases hb : idx b with
  | none => rw [hb] at hu; cases hu
  | some v =>
   rw [hb] at hu
   injection hu with hu
   subst hu
   have := i3 v hb m c hc
   rwa [show c = c + 0 by omega, sub_shift v a m c 0] at this
 | @elim n z s k h1 h2 h3 i1 i2 i3 =>
  intro m c hc
  exact .elim (i1 m c hc) (by have := i2 m (c + 2) (by omega); rwa [show n + 2 + m = n + m + 2 by omega] at this) (i3 m c hc)
 | part h1 h2 i1 i2 => intro m c hc; exact .part (i1 m c hc) (i2 m c hc)
 | mov h1 h2 i1 i2 => intro m c hc; exact .mov (i1 m c hc) (i2 m c hc)
theorem idx_sub (x a : NT) : ∀ (k : Nat) (v : NT), idx (sub a k x) = some v → (∃ u, idx x = some u ∧ v = sub a k u) ∨ (∃ w, idx a = some w ∧ v = w.shift k 0) := by
 induction x with
 | var i =>
  intro k v h
  rw [sub] at h
  split at h
  ·rw [idx_shift] at h
   cases ha : idx a with
   | none => rw [ha] at h; cases h
   | some w => rw [ha] at h; injection h with h; exact .inr ⟨w, rfl, h.symm⟩
  ·split at h <;> cases h
 | zero => intro k v h; cases h
 | suc b _ => intro k v h; cases h
 | app b c h1 h2 =>
  intro k v h
  rw [sub, idx] at h
  cases hb : idx (sub a (k + 1) b) with
  | none => rw [hb] at h; cases h
  | some w =>
   rw [hb] at h
   injection h with h
   subst h
   rcases h1 (k + 1) w hb with ⟨u, hu, rfl⟩ | ⟨y, hy, rfl⟩
   ·refine .inl ⟨sub c 0 u, by rw [idx, hu]; rfl, ?_⟩
    exact sub_sub u a c k 0
   ·refine .inr ⟨y, hy, ?_⟩
    exact sub_over y _ k 0 0 (by omega) (by omega)
 | elim z s n _ _ _ => intro k v h; injection h with h; exact .inl ⟨n, rfl, h.symm⟩
 | part q x y _ _ => intro k v h; cases h
 | mov x z _ _ => intro k v h; injection h with h; exact .inl ⟨x, rfl, h.symm⟩
theorem gd_sub {n : Nat} {x : NT} (h : Gd n x) : ∀ (m k : Nat) (a : NT), n = m + 1 + k → Gd m a → Gd (m + k) (sub a k x) := by
 induction h with
 | @var n i h =>
  intro m k a hn ha
  rw [sub]
  split
  ·exact gd_shift ha k 0 (by omega)
  ·split
   ·exact .var (by omega)
   ·exact .var (by omega)
 | zero => intros; exact .zero
 | suc h ih => intro m k a hn ha; exact .suc (ih m k a hn ha)
 | @app n b c h1 h2 h3 i1 i2 i3 =>
  intro m k a hn ha
  refine .app (by have := i1 m (k + 1) a (by omega) ha; rwa [show m + (k + 1) = m + k + 1 by omega] at this) (i2 m k a hn ha) ?_
  intro v hv
  rcases idx_sub b a (k + 1) v hv with ⟨u, hu, rfl⟩ | ⟨w, hw, rfl⟩
  ·have := i3 u hu m k a hn ha
   rwa [show k = k + 0 by omega, ← sub_sub u a c k 0] at this
  ·rw [sub_over w _ k 0 0 (by omega) (by omega)]
   exact gd_shift (gd_idx ha hw) k 0 (by omega)
 | @elim n z s j h1 h2 h3 i1 i2 i3 =>
  intro m k a hn ha
  exact .elim (i1 m k a hn ha) (by have := i2 m (k + 2) a (by omega) ha; rwa [show m + (k + 2) = m + k + 2 by omega] at this) (i3 m k a hn ha)
 | part h1 h2 i1 i2 => intro m k a hn ha; exact .part (i1 m k a hn ha) (i2 m k a hn ha)
 | mov h1 h2 i1 i2 => intro m k a hn ha; exact .mov (i1 m k a hn ha) (i2 m k a hn ha)
theorem gd_any (x : NT) : ∀ n, x.ok n → Gd n x := by
 induction x with
 | var i => intro n h; exact .var h
 | zero => intros; exact .zero
 | suc a ih => intro n h; exact .suc (ih n h)
 | app b a h1 h2 =>
  intro n h
  have g1 := h1 (n + 1) h.1
  have g2 := h2 n h.2
  exact .app g1 g2 fun u hu => gd_sub (gd_idx g1 hu) n 0 a (by omega) g2
 | elim z s m h1 h2 h3 => intro n h; exact .elim (h1 n h.1) (h2 (n + 2) h.2.1) (h3 n h.2.2)
 | part q a b h1 h2 => intro n h; exact .part (h1 n h.1) (h2 n h.2)
 | mov a b h1 h2 => intro n h; exact .mov (h1 n h.1) (h2 n h.2)
theorem tm_shift (x : NT) : ∀ (m c : Nat), shS m c x.tm = (x.shift m c).tm := by
 induction x with
 | var i =>
  intro m c
  rw [tm, shS, shift]
  by_cases h : c ≤ i
  ·rw [if_pos h, if_pos ⟨rfl, by omega⟩, tm, shSL]; congr 1
  ·rw [if_neg h, if_neg (by rintro ⟨-, h'⟩; omega), tm, shSL]
 | zero => intro m c; simp [tm, shift, shS, shSL]
 | suc a ih => intro m c; simp [tm, shift, shS, shSL, under, binds, ih]
 | app b a h1 h2 => intro m c; have := h1 m (c + 1); simp [tm, shift, shS, shSL, under, binds, kN, h2] at this ⊢; exact this
 | elim z s n h1 h2 h3 => intro m c; have := h2 m (c + 2); simp [tm, shift, shS, shSL, under, binds, kN, h1, h3] at this ⊢; rw [← this]; congr 1
 | part q a b h1 h2 => intro m c; cases q <;> simp [tm, shift, shS, shSL, under, binds, kN, h1, h2]
 | mov x z h1 h2 => intro m c; simp [tm, shift, shS, shSL, under, binds, kN, h1, h2]
theorem tm_sub (x a : NT) : ∀ (k : Nat), sbS a.tm k k x.tm = (sub a k x).tm := by
 induction x with
 | var i =>
  intro k
  rw [tm, sbS, sub]
  by_cases h : i = k
  ·rw [if_pos h, if_pos ⟨rfl, by omega⟩]; have := tm_shift a k 0; simpa using this
  ·rw [if_neg h, if_neg (by rintro ⟨-, h'⟩; omega), sbSL]
   by_cases h2 : k < i
   ·rw [if_pos h2, if_pos ⟨rfl, by omega⟩, tm]; congr 1; omega
   ·rw [if_neg h2, if_neg (by rintro ⟨-, h'⟩; omega), tm]
 | zero => intro k; simp [tm, sub, sbS, sbSL]
 | suc a ih => intro k; simp [tm, sub, sbS, sbSL, under, binds, ih]
 | app b c h1 h2 => intro k; have := h1 (k + 1); simp [tm, sub, sbS, sbSL, under, binds, kN, h2] at this ⊢; exact this
 | elim z s n h1 h2 h3 => intro k; have := h2 (k + 2); simp [tm, sub, sbS, sbSL, under, binds, kN, h1, h3] at this ⊢; rw [← this]; congr 1
 | part q a b h1 h2 => intro k; cases q <;> simp [tm, sub, sbS, sbSL, under, binds, kN, h1, h2]
 | mov x z h1 h2 => intro k; simp [tm, sub, sbS, sbSL, under, binds, kN, h1, h2]
end NT
end Go.Proofs.Ytddkehjdjfmhmaa
