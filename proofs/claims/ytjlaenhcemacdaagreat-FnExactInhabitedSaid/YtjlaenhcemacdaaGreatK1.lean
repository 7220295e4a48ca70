/- Parts of the proof. No condition. -/
import Derived.Test.YtjlaenhcemacdaaGreatRows
import Derived.WalkKit
import Derived.OrdersHeld
import Derived.Deep.Quiet
import Derived.Tactics
import Derived.Tactics2
import Derived.Maps.AppendAt
import Derived.Deep.AppendLies
import Derived.RegionTactic
import Derived.OwnWalk
import Derived.Laws.MakeOwn
import Derived.WalkSpells
import Derived.WalkLawsBesides
import Derived.Deep.Upon
import Derived.Lib.SliceRun
open Go.Proofs.Tryz
namespace Go.Proofs.YtjlaenhcemacdaaGreat
open Go.RowKit
set_option maxHeartbeats 2000000
set_option maxRecDepth 100000
set_option linter.unusedSimpArgs false
set_option linter.unusedVariables false
theorem Ac{p:Prop}(h:p:=by omega):p:=h
theorem Ag{p:Prop}(h:p:=by simp):p:=h
theorem Ah{p:Prop}(h:p:=by decide):p:=h
theorem Ai{p:Prop}(h:p:=by simp;omega):p:=h
theorem Al{p:Prop}(h:p:=by simp<;>omega):p:=h
theorem Av{c:Prop}{h:Decidable c}(hc:c){α:Sort _}{t e:α}:ite c t e=t:=if_pos hc
theorem Aw{c:Prop}{h:Decidable c}(hc:¬c){α:Sort _}{t e:α}:ite c t e=e:=if_neg hc
abbrev Ba:=Option Addr
abbrev Bb:=World
universe u
theorem nE (w:Bb)(row:Option Nat):w.grownBy w row:=World.grownBy.refl w row
theorem kF (w:Bb)(a:Addr){u:Value}(h:w.cell? a=some u):a.block<w.heap.size:=World.block_lt_of_cell? w a h
theorem eI (B:Nat)(w:Bb):Below B w w:=Below.refl B w
theorem sC (w:Bb)(a:Addr)(u:Value)(k:Nat)(h:k≠a.block):(w.setCell a u).heap[k]?=w.heap[k]?:=Below.heap_setCell w a u k h
theorem gM {α:Type u}{l:List α}{n:Nat}(h:n<l.length):l[n]∈l:=List.getElem_mem h
theorem sE {α:Type u}{l:List α}{i:Nat}(h:i<l.length):l[i]?=some l[i]:=List.getElem?_eq_getElem h
theorem tM {α:Type u}{i:Nat}{l:List α}(h:i<l.length):l.take (i+1)=l.take i++[l[i]]:=List.take_succ_eq_append_getElem h
theorem vM {n m k:Nat}(h:n<m)(g:m<=k):n<k:=Nat.lt_of_lt_of_le h g
theorem mC (n:Nat):n<=n:=Nat.le_refl n
theorem mV (n:Nat):n<n.succ:=Nat.lt_succ_self n
theorem lEn {α:Type u}{l:List α}(h:l.length=0):l=[]:=List.eq_nil_of_length_eq_zero h
theorem bV {B:Nat}{w w':Bb}{p q r:Addr}{x y z:Value}(h:Below B w w')(h1:B<=p.block:=by first|omega|(simp;done)|(simp;omega))(h2:B<=q.block:=by first|omega|(simp;done)|(simp;omega))(h3:B<=r.block:=by first|omega|(simp;done)|(simp;omega)):Below B w (((w'.setCell p x).setCell q y).setCell r z):=((h.setCell h1 _).setCell h2 _).setCell h3 _
theorem bN {B C:Nat}{u v w:Bb}(h:Below B u v)(g:Below C v w)(k:B<=C:=by first|omega|(simp;done)|(simp;omega)):Below B u w:=h.trans (g.mono k)
theorem aD {p:Prop}(h:p):Hid p:=h
theorem aMw {p:Prop}(h:Hid p):p:=h
theorem cN {k:IntKind}{a b:Int}(h:a=b):Ending.returned (.int k a) = .returned (.int k b):=by rw [h]
theorem dE {a b:Bool}(h:a=b):Ending.returned (.bool a) = .returned (.bool b):=by rw [h]
inductive Tm where
 | mk (k n:Int) (ks:List Tm)
def Tm.k:Tm->Int | .mk k _ _=>k
def Tm.n:Tm->Int | .mk _ n _=>n
def Tm.ks:Tm->List Tm | .mk _ _ ks=>ks
instance:Inhabited Tm:=⟨.mk 0 0 []⟩
theorem jG {p:Tm->Prop}(h:∀k n ks,(∀t,t∈ks->p t)->p (.mk k n ks))(t:Tm):p t:=
 Tm.rec (motive_1:=p) (motive_2:=λks=>∀t,t∈ks->p t) (λk n ks ih=>h k n ks ih) (λ_ ht=>absurd ht List.not_mem_nil)
  (λ_ _ h1 h2 _ ht => (List.mem_cons.1 ht).elim (λe => e ▸ h1) (λe => h2 _ e)) t
theorem bA {p:Tm->Prop}{q:List Tm->Prop}(h1:∀k n ks,q ks->p (.mk k n ks))(h2:q [])(h3:∀t ts,p t->q ts->q (t::ts)):(∀t,p t)/\(∀ts,q ts):=
 ⟨Tm.rec (motive_1:=p) (motive_2:=q) h1 h2 h3,Tm.rec_1 (motive_1:=p) (motive_2:=q) h1 h2 h3⟩
mutual
def Tm.size:Tm->Nat | .mk _ _ ks=>aG ks+1
def aG:List Tm->Nat|[]=>0|t::ts=>t.size+aG ts
end
theorem cG {ts:List Tm}{t:Tm}(h:t∈ts):t.size<=aG ts:=by
 induction ts with
 | nil=>cases h
 | cons x r ih=>
  rw [aG];rcases List.mem_cons.1 h with rfl|h
  ·omega
  ·have:=ih h;omega
theorem Tm.size_pos (t:Tm):0<t.size:=by cases t;rw [Tm.size];omega
theorem aJ (ts:List Tm):ts.length<=aG ts:=by
 induction ts with
 | nil=>simp [aG]
 | cons x r ih=>rw [aG,List.length_cons];have:=x.size_pos;omega
theorem sJ (a b:List Tm):aG (a++b)=aG a+aG b:=by
 induction a with
 | nil=>simp [aG]
 | cons x r ih=>simp only [List.cons_append,aG,ih];omega
mutual
def RdC (w:Bb)(b off i:Nat):Tm->Prop
 | .mk k n ks=>w.cell? ⟨b,off+i*3,none⟩=some (.int .i64 k)/\w.cell? ⟨b,off+i*3+1,none⟩=some (.int .i64 n)/\
   ∃A c,w.cell? ⟨b,off+i*3+2,none⟩=some (.slice A ks.length c)/\ks.length<=9223372036854775807/\Rd w A 0 ks
def Rd (w:Bb)(A:Ba)(i:Nat):List Tm->Prop
 | []=>True
 | t::ts=>(∃b off,A=some ⟨b,off,none⟩/\RdC w b off i t)/\Rd w A (i+1) ts
end
def Keeps (w w':Bb):Prop:=∀a v,w.cell? a=some v->w'.cell? a=some v
theorem Keeps.trans {a b c:Bb}(h:Keeps a b)(k:Keeps b c):Keeps a c:=λx v e=>k x v (h x v e)
theorem Keeps.of_below {w w':Bb}(h:Below w.heap.size w w'):Keeps w w':=λa _ e=>(h.cell (kF w a e)).trans e
theorem cM {w w':Bb}(h:Below w.heap.size w w'):Keeps w w':=.of_below h
theorem Keeps.alloc (w:Bb)(o:Obj):Keeps w (w.alloc o):=λa _ e=>(World.cell?_alloc_lt w o a (kF w a e)).trans e
theorem Rd.nil {w:Bb}{A:Ba}{i:Nat}:Rd w A i []:=by simp only [Rd]
theorem Rd.cons_iff {w:Bb}{A:Ba}{i:Nat}{t:Tm}{ts:List Tm}:Rd w A i (t::ts)↔(∃b off,A=some ⟨b,off,none⟩/\RdC w b off i t)/\Rd w A (i+1) ts:=by
 simp only [Rd]
theorem RdC.iff {w:Bb}{b off i:Nat}{k n:Int}{ks:List Tm}:RdC w b off i (.mk k n ks)↔
  w.cell? ⟨b,off+i*3,none⟩=some (.int .i64 k)/\w.cell? ⟨b,off+i*3+1,none⟩=some (.int .i64 n)/\
   ∃A c,w.cell? ⟨b,off+i*3+2,none⟩=some (.slice A ks.length c)/\ks.length<=9223372036854775807/\Rd w A 0 ks:=by
 simp only [RdC]
theorem aNm {w w':Bb}(h:Keeps w w'):(∀t b off i,RdC w b off i t->RdC w' b off i t)/\(∀ks A i,Rd w A i ks->Rd w' A i ks):=by
 refine bA (λk n ks ih b off i hh=>?_) (λ_ _ _=>Rd.nil) (λt ts h1 h2 A i hh=>?_)
 ·rw [RdC.iff] at hh⊢;obtain ⟨h1,h2,A,c,h3,h4,h5⟩:=hh;exact ⟨h _ _ h1,h _ _ h2,A,c,h _ _ h3,h4,ih _ _ h5⟩
 ·rw [Rd.cons_iff] at hh⊢;obtain ⟨⟨b,off,hA,hc⟩,hr⟩:=hh;exact ⟨⟨b,off,hA,h1 _ _ _ hc⟩,h2 _ _ hr⟩
theorem Rd.keeps {w w':Bb}{A:Ba}{i:Nat}{ks:List Tm}(hr:Rd w A i ks)(h:Keeps w w'):Rd w' A i ks:=(aNm h).2 _ _ _ hr
theorem Rd.below {w w':Bb}{A:Ba}{i:Nat}{ks:List Tm}(hr:Rd w A i ks)(h:Below w.heap.size w w'):Rd w' A i ks:=hr.keeps (.of_below h)
theorem Rd.alloc {w:Bb}{A:Ba}{i:Nat}{ks:List Tm}(hr:Rd w A i ks)(o:Obj):Rd (w.alloc o) A i ks:=hr.keeps (.alloc w o)
theorem Rd.drew {w:Bb}{A:Ba}{i:Nat}{ks:List Tm}(hr:Rd w A i ks):Rd w.drew A i ks:=hr.keeps λ_ _ h=>h
theorem Rd.get {w:Bb}{A:Ba}{ks:List Tm}:∀{i:Nat},Rd w A i ks->∀{j:Nat} (hj:j<ks.length),∃b off,A=some ⟨b,off,none⟩/\RdC w b off (i+j) ks[j]:=by
 induction ks with
 | nil=>intro i _ j hj;simp at hj
 | cons t ts ih=>
  intro i hr j hj;rw [Rd.cons_iff] at hr;cases j with
  | zero=>simpa using hr.1
  | succ j=>
   obtain ⟨b,off,hA,hc⟩:=ih hr.2 (j:=j) (by simpa using hj);exact ⟨b,off,hA,by rw [show i+(j+1)=i+1+j from by omega];simpa using hc⟩
def Blk (w:Bb)(g:Nat)(cs:Array Value):Prop:=∃t,w.heap[g]?=some (.cells cs t (0,0))
section
variable {w w':Bb}{g:Nat}{cs:Array Value}
theorem Blk.lt (h:Blk w g cs):g<w.heap.size:=by obtain ⟨t,h⟩:=h;exact (Array.getElem?_eq_some_iff.1 h).1
theorem Blk.cell (h:Blk w g cs)(i:Nat):w.cell? ⟨g,i,none⟩=cs[i]?:=by obtain ⟨t,h⟩:=h;exact cell_of_row w g i cs t (0,0) h
theorem Blk.frozen (h:Blk w g cs)(i:Nat):w.frozen? ⟨g,i,none⟩=false:=by
 obtain ⟨t,h⟩:=h;simp [World.frozen?,h]
theorem Blk.new (w:Bb)(t:TypeId)(cs:Array Value):Blk (w.alloc (.cells cs t)) w.heap.size cs:=⟨t,heap_alloc_new w _⟩
theorem aC {n:Nat}(w:Bb)(t:TypeId)(cs:Array Value)(h:n=w.heap.size):Blk (w.alloc (.cells cs t)) n cs:=by subst h;exact ⟨t,heap_alloc_new w _⟩
theorem Blk.drew (h:Blk w g cs):Blk w.drew g cs:=h
theorem Blk.alloc (h:Blk w g cs)(o:Obj):Blk (w.alloc o) g cs:=by have hl:=h.lt;obtain ⟨t,h⟩:=h;exact ⟨t,(Below.heap_alloc w o g hl).trans h⟩
theorem Blk.set_ (h:Blk w g cs)(i:Nat)(u:Value):Blk (w.setCell ⟨g,i,none⟩ u) g (cs.setIfInBounds i u):=by
 obtain ⟨t,h⟩:=h;refine ⟨t,?_⟩;simp [World.setCell,Array.getElem?_modify,h]
theorem Blk.far (h:Blk w g cs){p:Addr}(hp:g≠p.block)(u:Value):Blk (w.setCell p u) g cs:=by obtain ⟨t,h⟩:=h;exact ⟨t,(sC w p u g hp).trans h⟩
theorem Blk.below {B:Nat}(h:Blk w g cs)(hb:Below B w w')(hg:g<B):Blk w' g cs:=by obtain ⟨t,h⟩:=h;exact ⟨t,(hb.block g hg).trans h⟩
theorem Blk.keep (h:Blk w g cs)(hb:Below w.heap.size w w'):Blk w' g cs:=h.below hb h.lt
theorem Blk.grown {row:Option Nat}(h:Blk w g cs)(hb:w.grownBy w' row)(hg:some g≠row):Blk w' g cs:=by have hl:=h.lt;obtain ⟨t,h⟩:=h;exact ⟨t,(hb.block g hl hg).trans h⟩
theorem Blk.at_ (h:Blk w g cs){i:Nat}{v:Value}(hi:cs[i]?=some v):w.cell? ⟨g,i,none⟩=some v:=(h.cell i).trans hi
theorem Blk.rule {wx:Bb}(h:Blk wx g cs){i:Nat}{v:Value}(hi:cs[i]?=some v):∀w':Bb,Below wx.heap.size wx w'->w'.cell? ⟨g,i,none⟩=some v:=
 λ_ hb=>(hb.cell h.lt).trans (h.at_ hi)
theorem aF {wx:Bb}{b o:Nat}{v:Value}(h:wx.cell? ⟨b,o,none⟩=some v):∀w':Bb,Below wx.heap.size wx w'->w'.cell? ⟨b,o,none⟩=some v:=
 λ_ hb=>(hb.cell (kF wx _ h)).trans h
theorem aOq {W w1:Bb}(hb:Below W.heap.size W w1):(∀b o,b<W.heap.size->w1.cell? ⟨b,o,none⟩=W.cell? ⟨b,o,none⟩)/\(∀b o,b<W.heap.size->w1.frozen? ⟨b,o,none⟩=W.frozen? ⟨b,o,none⟩):=
 ⟨λb o h=>hb.cell (p:=⟨b,o,none⟩) h,λb o h=>hb.frozen (p:=⟨b,o,none⟩) h⟩
end
theorem aU {P:Program}{c:Code}{Q:Exit->Act->Bb->Prop}{a:Act}{w:Bb}(h:∀wx,wx=w->c.wp P Q a wx):c.wp P Q a w:=h w rfl
theorem Rd.at_ {w:Bb}{A:Ba}{ks:List Tm}(hr:Rd w A 0 ks){j:Nat}(hj:j<ks.length) :
  ∃b off k n ks' A' c,A=some ⟨b,off,none⟩/\ks[j] = .mk k n ks'/\w.cell? ⟨b,off+j*3,none⟩=some (.int .i64 k)/\w.cell? ⟨b,off+j*3+1,none⟩=some (.int .i64 n)/\
   w.cell? ⟨b,off+j*3+2,none⟩=some (.slice A' ks'.length c)/\ks'.length<=9223372036854775807/\Rd w A' 0 ks':=by
 obtain ⟨b,off,hA,hc⟩:=hr.get hj;rw [Nat.zero_add] at hc;generalize ks[j]=t at hc⊢;obtain ⟨k,n,ks'⟩:=t;obtain ⟨h1,h2,A',c,h3,h4,h5⟩:=RdC.iff.1 hc;exact ⟨b,off,k,n,ks',A',c,hA,rfl,h1,h2,h3,h4,h5⟩
mutual
def RdPC (p:Nat->Prop)(w:Bb)(b off i:Nat):Tm->Prop
 | .mk k n ks=>p b/\w.cell? ⟨b,off+i*3,none⟩=some (.int .i64 k)/\w.cell? ⟨b,off+i*3+1,none⟩=some (.int .i64 n)/\
   ∃A c,w.cell? ⟨b,off+i*3+2,none⟩=some (.slice A ks.length c)/\ks.length<=9223372036854775807/\RdP p w A 0 ks
def RdP (p:Nat->Prop)(w:Bb)(A:Ba)(i:Nat):List Tm->Prop
 | []=>True
 | t::ts=>(∃b off,A=some ⟨b,off,none⟩/\RdPC p w b off i t)/\RdP p w A (i+1) ts
end
section
variable {p q:Nat->Prop}{w w':Bb}{A:Ba}{i:Nat}{ks:List Tm}
theorem RdP.nil:RdP p w A i []:=by simp only [RdP]
theorem RdP.cons_iff {t:Tm}{ts:List Tm}:RdP p w A i (t::ts)↔(∃b off,A=some ⟨b,off,none⟩/\RdPC p w b off i t)/\RdP p w A (i+1) ts:=by
 simp only [RdP]
theorem RdPC.iff {b off:Nat}{k n:Int}:RdPC p w b off i (.mk k n ks)↔
  p b/\w.cell? ⟨b,off+i*3,none⟩=some (.int .i64 k)/\w.cell? ⟨b,off+i*3+1,none⟩=some (.int .i64 n)/\
   ∃A c,w.cell? ⟨b,off+i*3+2,none⟩=some (.slice A ks.length c)/\ks.length<=9223372036854775807/\RdP p w A 0 ks:=by
 simp only [RdPC]
theorem aAv (hq:∀b,p b->q b)(h:∀b o v,p b->w.cell? ⟨b,o,none⟩=some v->w'.cell? ⟨b,o,none⟩=some v):(∀t b off i,RdPC p w b off i t->RdPC q w' b off i t)/\(∀ks A i,RdP p w A i ks->RdP q w' A i ks):=by
 refine bA (λk n ks ih b off i hh=>?_) (λ_ _ _=>RdP.nil) (λt ts h1 h2 A i hh=>?_)
 ·rw [RdPC.iff] at hh⊢;obtain ⟨hp,h1,h2,A,c,h3,h4,h5⟩:=hh;exact ⟨hq _ hp,h _ _ _ hp h1,h _ _ _ hp h2,A,c,h _ _ _ hp h3,h4,ih _ _ h5⟩
 ·rw [RdP.cons_iff] at hh⊢;obtain ⟨⟨b,off,hA,hc⟩,hr⟩:=hh;exact ⟨⟨b,off,hA,h1 _ _ _ hc⟩,h2 _ _ hr⟩
theorem RdP.keeps (hr:RdP p w A i ks)(h:∀b o v,p b->w.cell? ⟨b,o,none⟩=some v->w'.cell? ⟨b,o,none⟩=some v):RdP p w' A i ks:=(aAv (λ_ h=>h) h).2 _ _ _ hr
theorem RdP.keepsAll (hr:RdP p w A i ks)(h:Keeps w w'):RdP p w' A i ks:=hr.keeps λ_ _ _ _ e=>h _ _ e
theorem RdP.below (hr:RdP p w A i ks)(h:Below w.heap.size w w'):RdP p w' A i ks:=hr.keepsAll (.of_below h)
theorem RdP.alloc (hr:RdP p w A i ks)(o:Obj):RdP p (w.alloc o) A i ks:=hr.keepsAll (.alloc w o)
theorem RdP.drew (hr:RdP p w A i ks):RdP p w.drew A i ks:=hr.keeps λ_ _ _ _ e=>e
theorem RdP.mono (hr:RdP p w A i ks)(hq:∀b,p b->q b):RdP q w A i ks:=(aAv hq (λ_ _ _ _ e=>e)).2 _ _ _ hr
theorem RdP.blocks (hr:RdP p w A i ks)(h:∀b,p b->b<w.heap.size->w'.heap[b]?=w.heap[b]?):RdP p w' A i ks:=
 hr.keeps λb o v hb e=>(World.cell?_of_block (w:=w) (a:=⟨b,o,none⟩) (h b hb (kF w _ e))).trans e
theorem RdP.grown {row:Option Nat}(hr:RdP p w A i ks)(h:w.grownBy w' row)(hp:∀b,p b->some b≠row):RdP p w' A i ks:=hr.blocks λb hb hl=>h.block b hl (hp b hb)
theorem RdP.setCell (hr:RdP p w A i ks){a:Addr}(hp:¬p a.block)(u:Value):RdP p (w.setCell a u) A i ks:=hr.blocks λb hb _=>sC w a u b (λe=>hp (e▸hb))
theorem rdp_rd:(∀t b off i,RdPC p w b off i t->RdC w b off i t)/\(∀ks A i,RdP p w A i ks->Rd w A i ks):=by
 refine bA (λk n ks ih b off i hh=>?_) (λ_ _ _=>Rd.nil) (λt ts h1 h2 A i hh=>?_)
 ·obtain ⟨hp,h1,h2,A,c,h3,h4,h5⟩:=RdPC.iff.1 hh;exact RdC.iff.2 ⟨h1,h2,A,c,h3,h4,ih _ _ h5⟩
 ·obtain ⟨⟨b,off,hA,hc⟩,hr⟩:=RdP.cons_iff.1 hh;exact Rd.cons_iff.2 ⟨⟨b,off,hA,h1 _ _ _ hc⟩,h2 _ _ hr⟩
theorem RdP.rd (h:RdP p w A i ks):Rd w A i ks:=rdp_rd.2 _ _ _ h
theorem rd_rdp:(∀t b off i,RdC w b off i t->RdPC (·<w.heap.size) w b off i t)/\(∀ks A i,Rd w A i ks->RdP (·<w.heap.size) w A i ks):=by
 refine bA (λk n ks ih b off i hh=>?_) (λ_ _ _=>RdP.nil) (λt ts h1 h2 A i hh=>?_)
 ·obtain ⟨h1,h2,A,c,h3,h4,h5⟩:=RdC.iff.1 hh;exact RdPC.iff.2 ⟨kF w _ h1,h1,h2,A,c,h3,h4,ih _ _ h5⟩
 ·obtain ⟨⟨b,off,hA,hc⟩,hr⟩:=Rd.cons_iff.1 hh;exact RdP.cons_iff.2 ⟨⟨b,off,hA,h1 _ _ _ hc⟩,h2 _ _ hr⟩
theorem Rd.rdp (h:Rd w A i ks):RdP (·<w.heap.size) w A i ks:=rd_rdp.2 _ _ _ h
theorem RdP.get:∀{i:Nat},RdP p w A i ks->∀{j:Nat} (hj:j<ks.length),∃b off,A=some ⟨b,off,none⟩/\RdPC p w b off (i+j) ks[j]:=by
 induction ks with
 | nil=>intro i _ j hj;simp at hj
 | cons t ts ih=>
  intro i hr j hj;rw [RdP.cons_iff] at hr;cases j with
  | zero=>simpa using hr.1
  | succ j=>
   obtain ⟨b,off,hA,hc⟩:=ih hr.2 (j:=j) (by simpa using hj);exact ⟨b,off,hA,by rw [show i+(j+1)=i+1+j from by omega];simpa using hc⟩
theorem RdP.at_ (hr:RdP p w A 0 ks){j:Nat}(hj:j<ks.length) :
  ∃b off k n ks' A' c,A=some ⟨b,off,none⟩/\ks[j] = .mk k n ks'/\w.cell? ⟨b,off+j*3,none⟩=some (.int .i64 k)/\w.cell? ⟨b,off+j*3+1,none⟩=some (.int .i64 n)/\
   w.cell? ⟨b,off+j*3+2,none⟩=some (.slice A' ks'.length c)/\ks'.length<=9223372036854775807/\RdP p w A' 0 ks':=by
 obtain ⟨b,off,hA,hc⟩:=hr.get hj;rw [Nat.zero_add] at hc;generalize ks[j]=t at hc⊢;obtain ⟨k,n,ks'⟩:=t;obtain ⟨hp,h1,h2,A',c,h3,h4,h5⟩:=RdPC.iff.1 hc;exact ⟨b,off,k,n,ks',A',c,hA,rfl,h1,h2,h3,h4,h5⟩
end
theorem bG {a w:Bb}{row:Option Nat}(h:a.grownBy w row)(o:Obj):a.grownBy (w.alloc o) row:=
 ⟨h.os,h.tape,h.output,Nat.le_trans h.size Ag,λi hi hne=>(Below.heap_alloc w o i (vM hi h.size)).trans (h.block i hi hne)⟩
theorem qR {a w:Bb}{row:Option Nat}(h:a.grownBy w row):a.grownBy w.drew row:=⟨h.os,h.tape,h.output,h.size,h.block⟩
theorem gJ {a w w':Bb}{row:Option Nat}(h:a.grownBy w row)(k:w.grownBy w' row):a.grownBy w' row:=
 ⟨k.os.trans h.os,k.tape.trans h.tape,k.output.trans h.output,Nat.le_trans h.size k.size,λi hi hne=>(k.block i (vM hi h.size) hne).trans (h.block i hi hne)⟩
theorem dC {a w w':Bb}{row:Option Nat}(h:a.grownBy w row)(k:Below w.heap.size w w'):a.grownBy w' row:=
 ⟨k.os.trans h.os,k.tape.trans h.tape,k.output.trans h.output,Nat.le_trans h.size k.size,λi hi hne=>(k.block i (vM hi h.size)).trans (h.block i hi hne)⟩
theorem aK {a w:Bb}{g:Nat}(h:a.grownBy w (some g)){p:Addr}(hp:p.block=g\/a.heap.size<=p.block)(u:Value):a.grownBy (w.setCell p u) (some g):=
 ⟨h.os,h.tape,h.output,by simpa [World.setCell] using h.size,λi hi hne=>(sC w p u i (by
  rintro rfl;rcases hp with hp|hp
  ·exact hne (by rw [hp])
  ·omega)).trans (h.block i hi hne)⟩
section
variable {P:Program}{ops:Array Oper}{Q:Exit->Act->Bb->Prop}{S:Bb->Prop}{need:Nat->Bool}
def pre (ops:Array Oper):Nat->Nat->Nat->Bool
 | 0,_,_=>false
 | n+1,j,i=>match ops[j]? with
  | some o=>o.after.any λe=>Region.binds .any e && (e.on==i || pre ops n e.on i)
  | none=>false
def Closed (ops:Array Oper)(listed:Array Bool):Prop:=
 ∀k ok,ops[k]?=some ok->listed.getD k true=true->∀e∈ok.after,Region.binds .any e=true->listed.getD e.on false=true
theorem Closed.start:Closed ops (Array.replicate ops.size false):=by
 intro k ok hk hl;have:=(Array.getElem?_eq_some_iff.1 hk).1;simp [this] at hl
theorem Closed.step {listed:Array Bool}{j:Nat}(h:Closed ops listed)(hj:j∈Region.ready .any ops listed):Closed ops (listed.setIfInBounds j true):=by
 intro k ok hk hl e he hb;obtain ⟨_,oj,hoj,hall⟩:=mem_ready.1 hj;by_cases hkj:k=j
 ·subst hkj;rw [hoj] at hk;injection hk with hk;subst hk;exact getD_set_true (hall e he hb)
 ·rw [getD_set_ne true (Ne.symm hkj)] at hl;exact getD_set_true (h k ok hk hl e he hb)
theorem Closed.pre {listed:Array Bool}(h:Closed ops listed){i:Nat}:∀(n j:Nat),listed.getD j false=true->pre ops n j i=true->listed.getD i false=true:=by
 intro n;induction n with
 | zero=>intro j _ hp;cases hp
 | succ n ih=>
  intro j hl hp;rw [Go.Proofs.YtjlaenhcemacdaaGreat.pre] at hp;cases ho:ops[j]? with
  | none=>rw [ho] at hp;cases hp
  | some o=>
   rw [ho] at hp;obtain ⟨e,he,hb⟩:=Array.any_eq_true'.1 hp;simp only [Bool.and_eq_true,Bool.or_eq_true,beq_iff_eq] at hb;have hl':listed.getD j true=true:=by
    rcases Nat.lt_or_ge j listed.size with hlt|hge
    ·simp [hlt] at hl⊢;exact hl
    ·simp [Array.getElem?_eq_none hge] at hl
   have h1:=h j o ho hl' e he hb.1;rcases hb.2 with hb2|hb2
   ·rw [<- hb2];exact h1
   ·exact ih _ h1 hb2
theorem Closed.ready {listed:Array Bool}(h:Closed ops listed){i j n:Nat}(hj:j∈Region.ready .any ops listed)(hp:Go.Proofs.YtjlaenhcemacdaaGreat.pre ops n j i=true):listed.getD i false=true:=by
 obtain ⟨_,oj,hoj,hall⟩:=mem_ready.1 hj;cases n with
 | zero=>cases hp
 | succ n=>
  rw [Go.Proofs.YtjlaenhcemacdaaGreat.pre,hoj] at hp;obtain ⟨e,he,hb⟩:=Array.any_eq_true'.1 hp;simp only [Bool.and_eq_true,Bool.or_eq_true,beq_iff_eq] at hb;have h1:=hall e he hb.1;rcases hb.2 with hb2|hb2
  ·rw [<- hb2];exact h1
  ·exact h.pre _ _ h1 hb2
def gG (P:Program)(ops:Array Oper)(Q:Exit->Act->Bb->Prop)(S:Bb->Prop)(need:Nat->Bool):Nat->Array Bool->Act->Bb->Prop
 | 0,listed,a,w=>Region.ready .any ops listed=[]/\Q .normal a w
 | fuel+1,listed,a,w=>
  (Region.ready .any ops listed = [] -> Q .normal a w) /\
  ∀i∈Region.ready .any ops listed,wpOp P ops Q i (λa' w'=>(need i=true->S w')/\gG P ops Q S need fuel (listed.setIfInBounds i true) a' w') a w
theorem oG:∀(fuel:Nat) (listed:Array Bool) (a:Act) (w:Bb),gG P ops Q S need fuel listed a w->wpAny P .any ops Q fuel listed a w
 | 0,_,_,_,h=>h
 | fuel+1,_,_,_,h=>⟨h.1,λi hi=>wpOp_mono (λa' w' h'=>oG fuel _ a' w' h'.2) (h.2 i hi)⟩
theorem sM {i:Nat}{oi:Oper}{v:Value}(hi:ops[i]?=some oi)(hsel:∀(j:Nat) (o:Oper) cs b,ops[j]?=some o->o.op≠.select cs b)
  (hQ : ∀ c a w, Q (.panic c) (a.put oi.dst v) w -> Q (.panic c) a w)
  (hneed : ∀ listed, Closed ops listed -> i ∈ Region.ready .any ops listed -> ∀ j, j ∈ Region.ready .any ops listed -> j ≠ i -> need j = true) :
  ∀(fuel:Nat) (listed:Array Bool) (a:Act) (w:Bb),Closed ops listed->
   (∀j oj,ops[j]?=some oj->j≠i->listed.getD j true=false->(∀e∈oj.after,Region.binds .any e=true->e.on≠i)->oi.apart ops oj=true)->
   i∈Region.ready .any ops listed->YieldsIf P ops S oi v a->S w->
   gG P ops Q S need fuel (listed.setIfInBounds i true) (a.put oi.dst v) w->gG P ops Q S need (fuel+1) listed a w:=by
 intro fuel;induction fuel with
 | zero=>
  intro listed a w hcl _ hr hy hS H;refine ⟨λh=>(by rw [h] at hr;cases hr),λj hj=>?_⟩;by_cases hji:j=i
  ·subst hji;exact hy.wpOp hi hS ⟨λ_=>hS,H⟩
  ·have:=ready_mono hj hji;rw [H.1] at this;cases this
 | succ fuel ih=>
  intro listed a w hcl hfree hr hy hS H;refine ⟨λh=>(by rw [h] at hr;cases hr),λj hj=>?_⟩;by_cases hji:j=i
  ·subst hji;exact hy.wpOp hi hS ⟨λ_=>hS,H⟩
  ·have h1:=H.2 j (ready_mono hj hji);have hnj:=hneed listed hcl hr j hj hji;obtain ⟨hjun,oj,hoj,hall⟩:=mem_ready.1 hj;have hnot:∀e∈oj.after,Region.binds .any e=true->e.on≠i:=λe he hb heq=>by
    have h1:=hall e he hb;have h0:=(mem_ready.1 hr).1;rw [heq] at h1;rcases Nat.lt_or_ge i listed.size with h'|h'
    ·simp [h'] at h0 h1;rw [h0] at h1;cases h1
    ·simp [Array.getElem?_eq_none h'] at h1
   have h2:=wpOp_putIf hoj (hfree j oj hoj hji hjun hnot) (λcs b=>hsel i oi cs b hi) (λcs b=>hsel j oj cs b hoj) hQ hy h1;have hfree':∀k ok,ops[k]?=some ok->k≠i->(listed.setIfInBounds j true).getD k true=false->
     (∀e∈ok.after,Region.binds .any e=true->e.on≠i)->oi.apart ops ok=true:=λk ok hk hki hun hno=>by
    refine hfree k ok hk hki ?_ hno;by_cases hjk:j=k
    ·subst hjk;exact hjun
    ·rw [getD_set_ne true hjk] at hun;exact hun
   refine wpOp_mono (λa' w' h3=>⟨h3.2.1,ih (listed.setIfInBounds j true) a' w' (hcl.step hj) hfree' (ready_mono hr (Ne.symm hji)) h3.1 (h3.2.1 hnj) ?_⟩) h2;rw [Array.setIfInBounds_comm _ _ hji];exact h3.2.2
def Oper.takes (P:Program)(o:Oper)(a:Act)(S:Bb->Prop)(next:Act->Prop):Prop:=∃v,(∀w,S w->(execOp a.eval o).run P w = .ok (.value v) w)/\next (a.put o.dst v)
def gF (P:Program)(ops:Array Oper)(S:Bb->Prop)(K:Act->Prop):List Oper->Act->Prop
 | [],a=>K a
 | o::rest,a=>if Region.wanted o (yielded ops a.tmps) then Oper.takes P o a S (gF P ops S K rest) else gF P ops S K rest (a.put o.dst undef)
def rX (S:Bb->Prop)(K:Act->Bb->Prop)(Q:Exit->Act->Bb->Prop):Exit->Act->Bb->Prop
 | .normal,a,w=>S w/\K a w
 | e,a,w=>Q e a w
def kQ (P:Program)(ops:Array Oper)(Q:Exit->Act->Bb->Prop)(S:Bb->Prop):List Oper->List Oper->Act->Bb->Prop
 | [],lB,a,w=>wpList P ops Q lB a w
 | o::r,lB,a,w=>wpList P ops (rX S (kQ P ops Q S r lB) Q) [o] a w
def tL (ops:Array Oper)(l:List Nat):List Oper:=l.filterMap λi=>ops[i]?
def pH (ops:Array Oper):List Nat->Array Bool->Option (Array Bool)
 | [],l=>some l
 | i::T,l=>if (Region.ready .any ops l).contains i && Region.free .any ops l i then pH ops T (l.setIfInBounds i true) else none
def yP (ops:Array Oper):List Nat->Array Bool->Bool
 | [],l=>(Region.ready .any ops l).isEmpty
 | j::R,l=>Region.ready .any ops l==[j] && yP ops R (l.setIfInBounds j true)
def vY (ops:Array Oper)(T A B:List Nat):Bool:=
 Region.noSelect ops && (match pH ops T (Array.replicate ops.size false) with|some l=>yP ops (A++B) l|none=>false) &&
 B.all (λj=>T.all λi=>pre ops ops.size j i) && A.all (λj=>!B.contains j) && (T.length+(A.length+B.length)==ops.size)
theorem nX {j:Nat}{o:Oper}(ho:ops[j]?=some o){K:Act->Bb->Prop}{Q':Exit->Act->Bb->Prop}(h1:∀a w,Q' .normal a w->K a w)(h2:∀e a w,e≠.normal->Q' e a w->Q e a w)
    {a:Act} {w:Bb} (h:wpList P ops Q' [o] a w):wpOp P ops Q j K a w:=by
  have conv:∀{K1:Act->Bb->Prop} {a:Act} {w:Bb},o.wp P a w K1 Q'->(∀a w,K1 a w->K a w)->o.wp P a w K Q:=by
    intro K1 a w hh hk;unfold Oper.wp at *
    generalize (execOp a.eval o).run P w=r at *
    cases r with
    | ok n w'=>
      cases n<;>simp only [Oper.upon] at hh⊢<;>
        first
          | exact hk _ _ hh
          | (refine Calls.mono hh λe w'' he=>?_
             cases e with
             | returned u=>exact hk _ _ he
             | panicked c=>exact h2 _ _ _ Ag he
             | outgrown=>obtain ⟨a0,w0,h0⟩:=he;exact ⟨a0,w0,h2 _ _ _ Ag h0⟩)
          | exact Rows.mono hh λu w'' he=>hk _ _ he
    | halt x w'=>cases x<;>simp only [Oper.upon] at hh⊢<;>exact h2 _ _ _ Ag hh
  unfold wpOp;simp only [ho];rw [wpList] at h;split
  · rename_i hw
    simp only [hw,if_true] at h;rcases h with h|⟨hasks,a0,w0,h0⟩
    · exact .inl (conv h λa w hh=>h1 _ _ (by simpa [wpList] using hh))
    · exact .inr ⟨hasks,a0,w0,h2 _ _ _ Ag h0⟩
  · rename_i hw
    simp only [hw] at h;exact h1 _ _ (by simpa [wpList] using h)
theorem vG {o:Oper}{r:List Oper}{a:Act}{w:Bb}(h:wpList P ops Q (o::r) a w):wpList P ops (λe a w=>match e with | .normal=>wpList P ops Q r a w|e=>Q e a w) [o] a w:=by
  have conv:∀{a:Act} {w:Bb},o.wp P a w (wpList P ops Q r) Q->o.wp P a w (wpList P ops (λe a w=>match e with | .normal=>wpList P ops Q r a w|e=>Q e a w) []) (λe a w=>match e with | .normal=>wpList P ops Q r a w|e=>Q e a w):=by
    intro a w hh;unfold Oper.wp at *
    generalize (execOp a.eval o).run P w=r at *
    cases r with
    | ok n w'=>
      cases n<;>simp only [Oper.upon] at hh⊢<;>
        first
          | exact hh
          | (refine Calls.mono hh λe w'' he=>?_
             cases e with
             | returned u=>exact he
             | panicked c=>exact he
             | outgrown=>obtain ⟨a0,w0,h0⟩:=he;exact ⟨a0,w0,h0⟩)
    | halt x w'=>cases x<;>simp only [Oper.upon] at hh⊢<;>exact hh
  rw [wpList] at h⊢;split
  · rename_i hw
    simp only [hw,if_true] at h;rcases h with h|⟨hasks,a0,w0,h0⟩
    · exact .inl (conv h)
    · exact .inr ⟨hasks,a0,w0,h0⟩
  · rename_i hw
    simp only [hw] at h;exact h
theorem pN {j:Nat}{o:Oper}{R:List Nat}(ho:ops[j]?=some o):tL ops (j::R)=o::tL ops R:=by
 simp only [tL,List.filterMap_cons,ho]
theorem aDf {B:List Nat}(hneed:∀j,j∈B->need j=false):∀(A:List Nat) (fuel:Nat) (listed:Array Bool) (a:Act) (w:Bb),A.length+B.length<=fuel->yP ops (A++B) listed=true->
  kQ P ops Q S (tL ops A) (tL ops B) a w->gG P ops Q S need fuel listed a w:=by
 have tail:∀(B':List Nat) (fuel:Nat) (listed:Array Bool) (a:Act) (w:Bb),(∀j,j∈B'->need j=false)->B'.length<=fuel->yP ops B' listed=true->
   wpList P ops Q (tL ops B') a w->gG P ops Q S need fuel listed a w:=by
  intro B';induction B' with
  | nil=>
   intro fuel listed a w _ _ hs h;have hr:Region.ready .any ops listed=[]:=by simpa [yP] using hs
   have h':Q .normal a w:=by simpa [tL,wpList] using h
   cases fuel with
   | zero=>exact ⟨hr,h'⟩
   | succ f=>exact ⟨λ_=>h',by rw [hr];simp⟩
  | cons j B' ih=>
   intro fuel listed a w hn hf hs h;rw [yP,Bool.and_eq_true] at hs;have hr:Region.ready .any ops listed=[j]:=by simpa using hs.1
   cases fuel with
   | zero=>simp at hf
   | succ f=>
    refine ⟨λh0=>(by rw [h0] at hr;cases hr),?_⟩;rw [hr];intro i hi;obtain rfl:i=j:=by simpa using hi
    have hm:i∈Region.ready .any ops listed:=by rw [hr];simp
    obtain ⟨_,o,ho,_⟩:=mem_ready.1 hm;rw [pN ho] at h;refine nX ho (λa w hh=>⟨λhni=>(by rw [hn i Ag] at hni;cases hni),ih f _ a w (λj hj=>hn j (by simp [hj])) (by simpa using hf) hs.2 hh⟩) (λe a w he hh=>?_) (vG h);cases e<;>first|exact hh|exact absurd rfl he
 intro A;induction A with
 | nil=>intro fuel listed a w hf hs h;exact tail B fuel listed a w hneed (by simpa using hf) hs h
 | cons j A ih=>
  intro fuel listed a w hf hs h;rw [List.cons_append,yP,Bool.and_eq_true] at hs;have hr:Region.ready .any ops listed=[j]:=by simpa using hs.1
  cases fuel with
  | zero=>simp at hf
  | succ f=>
   refine ⟨λh0=>(by rw [h0] at hr;cases hr),?_⟩;rw [hr];intro i hi;obtain rfl:i=j:=by simpa using hi
   have hm:i∈Region.ready .any ops listed:=by rw [hr];simp
   obtain ⟨_,o,ho,_⟩:=mem_ready.1 hm;rw [pN ho,kQ] at h;refine nX ho (λa w hh=>⟨λ_=>hh.1,ih f _ a w (by simp only [List.length_cons] at hf;omega) hs.2 hh.2⟩) (λe a w he hh=>?_) h;cases e<;>first|exact hh|exact absurd rfl he
theorem aNl (hsel:Region.noSelect ops=true)(hQ:∀c (a:Act) d v w,Q (.panic c) (a.put d v) w->Q (.panic c) a w){w:Bb}(hS:S w):∀(T:List Nat) (fuel:Nat) (listed l':Array Bool) (a:Act),
  (∀ i, i ∈ T -> ∀ listed, Closed ops listed -> i ∈ Region.ready .any ops listed -> ∀ j, j ∈ Region.ready .any ops listed -> j ≠ i -> need j = true) ->
  Closed ops listed->pH ops T listed=some l'->gF P ops S (λa'=>Closed ops l'->gG P ops Q S need fuel l' a' w) (tL ops T) a->gG P ops Q S need (T.length+fuel) listed a w:=by
 intro T;induction T with
 | nil=>
  intro fuel listed l' a _ hcl hs h;simp only [pH,Option.some.injEq] at hs;subst hs;rw [List.length_nil,Nat.zero_add];exact (by simpa [tL,gF] using h:Closed ops listed->_) hcl
 | cons i T ih=>
  intro fuel listed l' a hn hcl hs h;rw [pH] at hs;split at hs
  case isFalse=>cases hs
  rename_i hc;rw [Bool.and_eq_true] at hc;have hm:i∈Region.ready .any ops listed:=by simpa using hc.1
  obtain ⟨_,o,ho,_⟩:=mem_ready.1 hm;rw [pN ho,gF] at h;rw [List.length_cons,Nat.add_right_comm];split at h
  ·rename_i hw;obtain ⟨v,hv,hnext⟩:=h;exact sM ho (Region.noSelect_spec hsel) (λc a w hh=>hQ c a _ _ w hh) (hn i Ag) _ _ _ _ hcl (Region.free_spec ho hc.2) hm (.inl ⟨hw,hv⟩) hS
    (ih _ _ _ _ (λk hk=>hn k (by simp [hk])) (hcl.step hm) hs hnext)
  ·rename_i hw;exact sM ho (Region.noSelect_spec hsel) (λc a w hh=>hQ c a _ _ w hh) (hn i Ag) _ _ _ _ hcl (Region.free_spec ho hc.2) hm (.inr ⟨by simpa using hw,rfl⟩) hS
    (ih _ _ _ _ (λk hk=>hn k (by simp [hk])) (hcl.step hm) hs h)
theorem pJ {K K':Act->Prop}(hK:∀a,K a->K' a):∀(l:List Oper) (a:Act),gF P ops S K l a->gF P ops S K' l a
 | [],a,h=>hK a h
 | o::r,a,h=>by
  rw [gF] at h⊢;split
  ·rename_i hw;simp only [hw,if_true] at h;obtain ⟨v,hv,hn⟩:=h;exact ⟨v,hv,pJ hK r _ hn⟩
  ·rename_i hw;simp only [hw] at h;exact pJ hK r _ h
theorem pE {id:Nat}{a:Act}{w:Bb}(S:Bb->Prop)(T A B:List Nat)(lT lA lB:List Oper)(hm:P.follows .mixedOrders=true)(hk:vY ops T A B=true)
  (hT : tL ops T = lT) (hA : tL ops A = lA) (hB : tL ops B = lB) (hQ : ∀ c (a : Act) d v w, Q (.panic c) (a.put d v) w -> Q (.panic c) a w) (hS : S w.drew)
  (h : gF P ops S (λa' => kQ P ops Q S lA lB a' w.drew) lT a) : (Code.region id ops true).wp P Q a w := by
 subst hT hA hB;refine wp_region_any hm (oG (S:=S) (need:=λj=>!B.contains j) _ _ _ _ ?_);simp only [vY,Bool.and_eq_true,beq_iff_eq] at hk;obtain ⟨⟨⟨⟨hsel,hsim⟩,hpre⟩,hAB⟩,hlen⟩:=hk;cases hl:pH ops T (Array.replicate ops.size false) with
 | none=>rw [hl] at hsim;cases hsim
 | some l'=>
 rw [hl] at hsim;rw [show ops.size=T.length+(A.length+B.length) from hlen.symm];rw [show Array.replicate (T.length+(A.length+B.length)) false=Array.replicate ops.size false from by rw [hlen]];refine aNl hsel hQ (w:=w.drew) hS T _ _ l' a (λi hi listed hcl hr j hj hne=>?_) Closed.start hl (pJ (λa' h' _=>aDf (λj hj=>?_) A _ _ _ _ (mC _) hsim h') _ _ h)
 ·rw [Bool.not_eq_true',List.contains_eq_mem,decide_eq_false_iff_not];intro hjB;have h1:=List.all_eq_true.1 (List.all_eq_true.1 hpre j hjB) i hi;have h2:=hcl.ready hj h1;have h3:=(mem_ready.1 hr).1;rcases Nat.lt_or_ge i listed.size with h'|h'
  ·simp [h'] at h2 h3;rw [h3] at h2;cases h2
  ·simp [Array.getElem?_eq_none h'] at h2
 ·simp [hj]
theorem zI {o:Oper}{rest:List Oper}{a a':Act}{K:Act->Prop}{v:Value}(hw:Region.wanted o (yielded ops a.tmps)=true)(hv:∀w,S w->(execOp a.eval o).run P w = .ok (.value v) w)
  (ha : a.put o.dst v = a') (h : gF P ops S K rest a') : gF P ops S K (o :: rest) a := by
 subst ha;rw [gF,Av hw];exact ⟨v,hv,h⟩
theorem aAj {o:Oper}{rest:List Oper}{a a':Act}{K:Act->Prop}(hw:Region.wanted o (yielded ops a.tmps)=false)(ha:a.put o.dst undef=a')(h:gF P ops S K rest a'):gF P ops S K (o::rest) a:=by
 subst ha;rw [gF,Aw (by rw [hw];exact Bool.false_ne_true)];exact h
theorem aDh {a:Act}{K:Act->Prop}(h:K a):gF P ops S K [] a:=h
theorem bO {o:Oper}{r lB:List Oper}{a:Act}{w:Bb}(h:wpList P ops (rX S (kQ P ops Q S r lB) Q) [o] a w):kQ P ops Q S (o::r) lB a w:=by rw [kQ];exact h
theorem eB {lB:List Oper}{a:Act}{w:Bb}(h:wpList P ops Q lB a w):kQ P ops Q S [] lB a w:=by rw [kQ];exact h
theorem aS {a:Act}{w:Bb}{K:Act->Bb->Prop}(h1:S w)(h2:K a w):rX S K Q .normal a w:=⟨h1,h2⟩
def fL (P:Program)(ops:Array Oper)(C:Bb->Prop)(Q:Act->Prop)(l:List Oper)(a:Act):Prop:=wpQuiet P ops C Q l a
theorem cW {id:Nat}{a:Act}{w:Bb}{l:List Oper}(C:Bb->Prop)(hm:P.follows .mixedOrders=true)(hB:Region.lexB .any l.toArray=true)(hC:C w.drew)
  (h : fL P l.toArray C (λa' => ∀ w', C w' -> Q .normal a' w') l a) : (Code.region id l.toArray true).wp P Q a w :=
 wp_region_quiet (C:=C) hm hB hC (by simpa [fL] using h)
theorem aLk {C:Bb->Prop}{Q':Act->Prop}{o:Oper}{rest:List Oper}{a a':Act}{v:Value}(hw:Region.wanted o (yielded ops a.tmps)=true)(hv:∀w,C w->(execOp a.eval o).run P w = .ok (.value v) w)
  (ha : a.put o.dst v = a') (h : fL P ops C Q' rest a') : fL P ops C Q' (o :: rest) a := by
 subst ha;unfold fL at *
 rw [wpQuiet,Av hw];refine ⟨v,λw hw'=>?_,h⟩;unfold Oper.quietAt;rw [hv w hw'];exact ⟨rfl,rfl⟩
theorem aHw {C:Bb->Prop}{Q':Act->Prop}{o:Oper}{rest:List Oper}{a a':Act}(hw:Region.wanted o (yielded ops a.tmps)=false)(ha:a.put o.dst undef=a')(h:fL P ops C Q' rest a'):fL P ops C Q' (o::rest) a:=by
 subst ha;unfold fL at *;rw [wpQuiet,Aw (by rw [hw];exact Bool.false_ne_true)];exact h
theorem xS {C:Bb->Prop}{Q':Act->Prop}{o:Oper}{rest:List Oper}{a a':Act}{v:Value}(f:FuncId)(args:Array Value)(hw:Region.wanted o (yielded ops a.tmps)=true)
  (hv : ∀ w, C w -> (execOp a.eval o).run P w = .ok (.enter f args) w) (hc : ∀ w, C w -> Calls P f args w λe w' => e = .returned v /\ C w')
  (ha : a.put o.dst v = a') (h : fL P ops C Q' rest a') : fL P ops C Q' (o :: rest) a := by
 subst ha;unfold fL at *
 rw [wpQuiet,Av hw];refine ⟨v,λw hw'=>?_,h⟩;unfold Oper.quietAt;rw [hv w hw'];exact ⟨rfl,hc w hw'⟩
theorem aFc {wx:Bb}{Q':Act->Prop}{o:Oper}{rest:List Oper}{a a':Act}{v:Value}(f:FuncId)(args:Array Value)(hw:Region.wanted o (yielded ops a.tmps)=true)
  (hv : ∀ w, Below wx.heap.size wx w -> (execOp a.eval o).run P w = .ok (.enter f args) w) (hc : ∀ w, Below wx.heap.size wx w -> Calls P f args w λe w' => e = .returned v /\ Below w.heap.size w w')
  (ha : a.put o.dst v = a') (h : fL P ops (λw' => Below wx.heap.size wx w') Q' rest a') : fL P ops (λw' => Below wx.heap.size wx w') Q' (o :: rest) a :=
 xS f args hw hv (λw hw=>(hc w hw).mono λ_ _ ⟨he,hb⟩=>⟨he,hw.trans (hb.mono hw.size)⟩) ha h
theorem aHz {wx:Bb}{Q':Act->Prop}{o:Oper}{rest:List Oper}{a a':Act}{v:Value}(f:FuncId)(args:Array Value)(hw:Region.wanted o (yielded ops a.tmps)=true)
  (hv : ∀ w, Below wx.heap.size wx w -> (execOp a.eval o).run P w = .ok (.enter f args) w) (hc : ∀ w, Below wx.heap.size wx w -> Calls P f args w λe w' => e = .returned v /\ w = w')
  (ha : a.put o.dst v = a') (h : fL P ops (λw' => Below wx.heap.size wx w') Q' rest a') : fL P ops (λw' => Below wx.heap.size wx w') Q' (o :: rest) a :=
 xS f args hw hv (λw hw=>(hc w hw).mono λ_ _ ⟨he,hb⟩=>⟨he,by rw [<- hb];exact hw⟩) ha h
theorem fT {C:Bb->Prop}{Q':Act->Prop}{a:Act}(h:Q' a):fL P ops C Q' [] a:=h
end
attribute [irreducible] fL gF kQ rX
section
variable {P:Program}{ops:Array Oper}{Q:Exit->Act->Bb->Prop}{S:Bb->Prop}{need:Nat->Bool}
def OneV (P:Program)(o:Oper)(a:Act)(S:Bb->Prop)(v:Value):Prop:=
 (∀w,S w->(execOp a.eval o).run P w = .ok (.value v) w)\/
 ∃f args,(∀w,S w->(execOp a.eval o).run P w = .ok (.enter f args) w)/\∀w,S w->Calls P f args w λe w'=>e = .returned v/\w=w'
def YIf (P:Program)(ops:Array Oper)(S:Bb->Prop)(o:Oper)(v:Value)(a:Act):Prop:=
 (Region.wanted o (yielded ops a.tmps)=true/\OneV P o a S v)\/(Region.wanted o (yielded ops a.tmps)=false/\v=undef)\/False
theorem OneV.yif {o:Oper}{v:Value}{a:Act}(h:OneV P o a S v)(hw:Region.wanted o (yielded ops a.tmps)=true):YIf P ops S o v a:=.inl ⟨hw,h⟩
theorem YIf.wpOp {i:Nat}{o:Oper}{v:Value}{a:Act}(hi:ops[i]?=some o)(hy:YIf P ops S o v a)
  {K:Act->Bb->Prop} {w:Bb} (hS:S w) (h:K (a.put o.dst v) w):wpOp P ops Q i K a w:=by
 unfold Go.wpOp;simp only [hi];rcases hy with ⟨hw,hv|⟨f,args,hv,hc⟩⟩|⟨hw,rfl⟩|hF
 ·simp only [hw,if_true,Oper.wp,hv w hS,Oper.upon];exact .inl h
 ·simp only [hw,if_true,Oper.wp,hv w hS,Oper.upon];refine .inl ((hc w hS).mono λe w' ⟨he,hww⟩=>?_);subst he;subst hww;exact h
 ·simp only [hw,Bool.false_eq_true,if_false];exact h
 ·exact hF.elim
theorem YIf.of_same {o:Oper}{v:Value}{a a':Act}(hy:YIf P ops S o v a)(he:execOp a'.eval o=execOp a.eval o)
  (hw : Region.wanted o (yielded ops a'.tmps) = Region.wanted o (yielded ops a.tmps)) : YIf P ops S o v a' := by
 unfold YIf OneV at *
 rw [he,hw];exact hy
theorem zY {j:Nat}{oi oj:Oper}{v:Value}(hj:ops[j]?=some oj)(hap:oi.apart ops oj=true)
  (hsi : ∀ cs b, oi.op ≠ .select cs b) (hsj : ∀ cs b, oj.op ≠ .select cs b)
  (hQ : ∀ c a w, Q (.panic c) (a.put oi.dst v) w -> Q (.panic c) a w) {K : Act -> Bb -> Prop} {a : Act} {w : Bb}
  (hy : YIf P ops S oi v a) (h : wpOp P ops Q j K (a.put oi.dst v) w) :
  wpOp P ops Q j (λa' w'=>YIf P ops S oi v a'/\K (a'.put oi.dst v) w') a w:=by
 obtain ⟨h1,h2,h3⟩:=Oper.apart_spec hap;have keep:∀(a:Act),YIf P ops S oi v a->∀u,YIf P ops S oi v (a.put oj.dst u):=λa hy u=>
  hy.of_same (execOp_put oi hsi a oj.dst u h3) (wanted_put oi a oj.dst u h3)
 have keepD:∀d,YIf P ops S oi v { a with defers:=d::a.defers}:=λd=>hy.of_same rfl rfl
 unfold wpOp at *
 simp only [hj] at *
 rw [wanted_put oj a oi.dst v h1] at h;split
 ·rename_i hw;simp only [hw,if_true] at h;rcases h with h|⟨hasks,hlets⟩
  case inr=>exact .inr ⟨by unfold Oper.asks at *;rw [execOp_put oj hsj a oi.dst v h1] at hasks;exact hasks,hlets⟩
  refine .inl ?_;unfold Oper.wp at *
  rw [execOp_put oj hsj a oi.dst v h1] at h;generalize (execOp a.eval oj).run P w=r at *
  cases r with
  | ok n w'=>
   cases n<;>simp only [Oper.upon] at h⊢
   case value u=>exact ⟨keep a hy u,by rw [<- Act.put_comm a v u h2];exact h⟩
   case skip=>exact ⟨keep a hy _,by rw [<- Act.put_comm a v undef h2];exact h⟩
   case defer d=>
    refine ⟨keep _ (keepD d) _,?_⟩;rw [<- Act.put_comm _ v undef h2,<- Act.put_defers];exact h
   case enter f args=>
    refine Calls.mono h λe w'' he=>?_
    cases e with
    | returned u=>exact ⟨keep a hy u,by rw [<- Act.put_comm a v u h2];exact he⟩
    | panicked c=>exact hQ _ _ _ he
    | outgrown=>exact he
   case row row args=>exact Rows.mono h λu w'' he=>⟨keep a hy u,by rw [<- Act.put_comm a v u h2];exact he⟩
  | halt x w'=>
   cases x<;>simp only [Oper.upon] at h⊢
   case panic u=>exact hQ _ _ _ h
 ·rename_i hw;simp only [hw] at h;exact ⟨keep a hy _,by rw [<- Act.put_comm a v undef h2];exact h⟩
theorem rI {i:Nat}{oi:Oper}{v:Value}(hi:ops[i]?=some oi)(hsel:∀(j:Nat) (o:Oper) cs b,ops[j]?=some o->o.op≠.select cs b)
  (hQ : ∀ c a w, Q (.panic c) (a.put oi.dst v) w -> Q (.panic c) a w)
  (hneed : ∀ listed, Closed ops listed -> i ∈ Region.ready .any ops listed -> ∀ j, j ∈ Region.ready .any ops listed -> j ≠ i -> need j = true) :
  ∀(fuel:Nat) (listed:Array Bool) (a:Act) (w:Bb),Closed ops listed->
   (∀j oj,ops[j]?=some oj->j≠i->listed.getD j true=false->(∀e∈oj.after,Region.binds .any e=true->e.on≠i)->oi.apart ops oj=true)->
   i∈Region.ready .any ops listed->YIf P ops S oi v a->S w->
   gG P ops Q S need fuel (listed.setIfInBounds i true) (a.put oi.dst v) w->gG P ops Q S need (fuel+1) listed a w:=by
 intro fuel;induction fuel with
 | zero=>
  intro listed a w hcl _ hr hy hS H;refine ⟨λh=>(by rw [h] at hr;cases hr),λj hj=>?_⟩;by_cases hji:j=i
  ·subst hji;exact hy.wpOp hi hS ⟨λ_=>hS,H⟩
  ·have:=ready_mono hj hji;rw [H.1] at this;cases this
 | succ fuel ih=>
  intro listed a w hcl hfree hr hy hS H;refine ⟨λh=>(by rw [h] at hr;cases hr),λj hj=>?_⟩;by_cases hji:j=i
  ·subst hji;exact hy.wpOp hi hS ⟨λ_=>hS,H⟩
  ·have h1:=H.2 j (ready_mono hj hji);have hnj:=hneed listed hcl hr j hj hji;obtain ⟨hjun,oj,hoj,hall⟩:=mem_ready.1 hj;have hnot:∀e∈oj.after,Region.binds .any e=true->e.on≠i:=λe he hb heq=>by
    have h1:=hall e he hb;have h0:=(mem_ready.1 hr).1;rw [heq] at h1;rcases Nat.lt_or_ge i listed.size with h'|h'
    ·simp [h'] at h0 h1;rw [h0] at h1;cases h1
    ·simp [Array.getElem?_eq_none h'] at h1
   have h2:=zY hoj (hfree j oj hoj hji hjun hnot) (λcs b=>hsel i oi cs b hi) (λcs b=>hsel j oj cs b hoj) hQ hy h1;have hfree':∀k ok,ops[k]?=some ok->k≠i->(listed.setIfInBounds j true).getD k true=false->
     (∀e∈ok.after,Region.binds .any e=true->e.on≠i)->oi.apart ops ok=true:=λk ok hk hki hun hno=>by
    refine hfree k ok hk hki ?_ hno;by_cases hjk:j=k
    ·subst hjk;exact hjun
    ·rw [getD_set_ne true hjk] at hun;exact hun
   refine wpOp_mono (λa' w' h3=>⟨h3.2.1,ih (listed.setIfInBounds j true) a' w' (hcl.step hj) hfree' (ready_mono hr (Ne.symm hji)) h3.1 (h3.2.1 hnj) ?_⟩) h2;rw [Array.setIfInBounds_comm _ _ hji];exact h3.2.2
def cV (P:Program)(ops:Array Oper)(S:Bb->Prop)(K:Act->Prop):List Oper->Act->Prop
 | [],a=>K a
 | o::rest,a=>if Region.wanted o (yielded ops a.tmps) then ∃v,OneV P o a S v/\cV P ops S K rest (a.put o.dst v) else cV P ops S K rest (a.put o.dst undef)
theorem aAx (hsel:Region.noSelect ops=true)(hQ:∀c (a:Act) d v w,Q (.panic c) (a.put d v) w->Q (.panic c) a w){w:Bb}(hS:S w):∀(T:List Nat) (fuel:Nat) (listed l':Array Bool) (a:Act),
  (∀ i, i ∈ T -> ∀ listed, Closed ops listed -> i ∈ Region.ready .any ops listed -> ∀ j, j ∈ Region.ready .any ops listed -> j ≠ i -> need j = true) ->
  Closed ops listed->pH ops T listed=some l'->cV P ops S (λa'=>Closed ops l'->gG P ops Q S need fuel l' a' w) (tL ops T) a->gG P ops Q S need (T.length+fuel) listed a w:=by
 intro T;induction T with
 | nil=>
  intro fuel listed l' a _ hcl hs h;simp only [pH,Option.some.injEq] at hs;subst hs;rw [List.length_nil,Nat.zero_add];exact (by simpa [tL,cV] using h:Closed ops listed->_) hcl
 | cons i T ih=>
  intro fuel listed l' a hn hcl hs h;rw [pH] at hs;split at hs
  case isFalse=>cases hs
  rename_i hc;rw [Bool.and_eq_true] at hc;have hm:i∈Region.ready .any ops listed:=by simpa using hc.1
  obtain ⟨_,o,ho,_⟩:=mem_ready.1 hm;rw [pN ho,cV] at h;rw [List.length_cons,Nat.add_right_comm];split at h
  ·rename_i hw;obtain ⟨v,hv,hnext⟩:=h;exact rI ho (Region.noSelect_spec hsel) (λc a w hh=>hQ c a _ _ w hh) (hn i Ag) _ _ _ _ hcl (Region.free_spec ho hc.2) hm (hv.yif hw) hS
    (ih _ _ _ _ (λk hk=>hn k (by simp [hk])) (hcl.step hm) hs hnext)
  ·rename_i hw;exact rI ho (Region.noSelect_spec hsel) (λc a w hh=>hQ c a _ _ w hh) (hn i Ag) _ _ _ _ hcl (Region.free_spec ho hc.2) hm (.inr (.inl ⟨by simpa using hw,rfl⟩)) hS
    (ih _ _ _ _ (λk hk=>hn k (by simp [hk])) (hcl.step hm) hs h)
theorem nZ {K K':Act->Prop}(hK:∀a,K a->K' a):∀(l:List Oper) (a:Act),cV P ops S K l a->cV P ops S K' l a
 | [],a,h=>hK a h
 | o::r,a,h=>by
  rw [cV] at h⊢;split
  ·rename_i hw;simp only [hw,if_true] at h;obtain ⟨v,hv,hn⟩:=h;exact ⟨v,hv,nZ hK r _ hn⟩
  ·rename_i hw;simp only [hw] at h;exact nZ hK r _ h
theorem bQ {id:Nat}{a:Act}{w:Bb}(S:Bb->Prop)(T A B:List Nat)(lT lA lB:List Oper)(hm:P.follows .mixedOrders=true)(hk:vY ops T A B=true)
  (hT : tL ops T = lT) (hA : tL ops A = lA) (hB : tL ops B = lB) (hQ : ∀ c (a : Act) d v w, Q (.panic c) (a.put d v) w -> Q (.panic c) a w) (hS : S w.drew)
  (h : cV P ops S (λa' => kQ P ops Q S lA lB a' w.drew) lT a) : (Code.region id ops true).wp P Q a w := by
 subst hT hA hB;refine wp_region_any hm (oG (S:=S) (need:=λj=>!B.contains j) _ _ _ _ ?_);simp only [vY,Bool.and_eq_true,beq_iff_eq] at hk;obtain ⟨⟨⟨⟨hsel,hsim⟩,hpre⟩,hAB⟩,hlen⟩:=hk;cases hl:pH ops T (Array.replicate ops.size false) with
 | none=>rw [hl] at hsim;cases hsim
 | some l'=>
 rw [hl] at hsim;rw [show ops.size=T.length+(A.length+B.length) from hlen.symm];rw [show Array.replicate (T.length+(A.length+B.length)) false=Array.replicate ops.size false from by rw [hlen]];refine aAx hsel hQ (w:=w.drew) hS T _ _ l' a (λi hi listed hcl hr j hj hne=>?_) Closed.start hl (nZ (λa' h' _=>aDf (λj hj=>?_) A _ _ _ _ (mC _) hsim h') _ _ h)
 ·rw [Bool.not_eq_true',List.contains_eq_mem,decide_eq_false_iff_not];intro hjB;have h1:=List.all_eq_true.1 (List.all_eq_true.1 hpre j hjB) i hi;have h2:=hcl.ready hj h1;have h3:=(mem_ready.1 hr).1;rcases Nat.lt_or_ge i listed.size with h'|h'
  ·simp [h'] at h2 h3;rw [h3] at h2;cases h2
  ·simp [Array.getElem?_eq_none h'] at h2
 ·simp [hj]
theorem lM {o:Oper}{rest:List Oper}{a a':Act}{K:Act->Prop}{v:Value}(hw:Region.wanted o (yielded ops a.tmps)=true)(hv:∀w,S w->(execOp a.eval o).run P w = .ok (.value v) w)
  (ha : a.put o.dst v = a') (h : cV P ops S K rest a') : cV P ops S K (o :: rest) a := by
 subst ha;rw [cV,Av hw];exact ⟨v,.inl hv,h⟩
theorem oM {o:Oper}{rest:List Oper}{a a':Act}{K:Act->Prop}{v:Value}(f:FuncId)(args:Array Value)(hw:Region.wanted o (yielded ops a.tmps)=true)
  (hv : ∀ w, S w -> (execOp a.eval o).run P w = .ok (.enter f args) w) (hc : ∀ w, S w -> Calls P f args w λe w' => e = .returned v /\ w = w')
  (ha : a.put o.dst v = a') (h : cV P ops S K rest a') : cV P ops S K (o :: rest) a := by
 subst ha;rw [cV,Av hw];exact ⟨v,.inr ⟨f,args,hv,hc⟩,h⟩
theorem lU {o:Oper}{rest:List Oper}{a a':Act}{K:Act->Prop}(hw:Region.wanted o (yielded ops a.tmps)=false)(ha:a.put o.dst undef=a')(h:cV P ops S K rest a'):cV P ops S K (o::rest) a:=by
 subst ha;rw [cV,Aw (by rw [hw];exact Bool.false_ne_true)];exact h
theorem nL {a:Act}{K:Act->Prop}(h:K a):cV P ops S K [] a:=h
end
attribute [irreducible] cV
section
variable {P:Program}{ops:Array Oper}{Q:Exit->Act->Bb->Prop}{S:Bb->Prop}{need:Nat->Bool}
theorem aJd {K:Act->Bb->Prop}{a:Act}{w:Bb}(h:rX S K Q .normal a w):S w/\K a w:=by unfold rX at h;exact h
theorem aOz {K:Act->Bb->Prop}{e:Exit}{a:Act}{w:Bb}(he:e≠.normal)(h:rX S K Q e a w):Q e a w:=by
 unfold rX at h;cases e<;>first|exact absurd rfl he|exact h
def aPb (P:Program)(ops:Array Oper)(Q:Exit->Act->Bb->Prop)(S:Bb->Prop)(B:List Nat):Nat->Array Bool->Act->Bb->Prop
 | 0,l,a,w=>yP ops B l=true/\wpList P ops Q (tL ops B) a w
 | n+1,l,a,w=>Region.ready .any ops l≠[]/\∀i∈Region.ready .any ops l,∀o,ops[i]?=some o->wpList P ops (rX S (aPb P ops Q S B n (l.setIfInBounds i true)) Q) [o] a w
end
attribute [irreducible] aPb
section
variable {P:Program}{ops:Array Oper}{Q:Exit->Act->Bb->Prop}{S:Bb->Prop}{B:List Nat}
def gC (P:Program)(ops:Array Oper)(Q:Exit->Act->Bb->Prop)(S:Bb->Prop)(B:List Nat)(f:Nat)(l:Array Bool)(a:Act)(w:Bb):Prop:=
 Closed ops l->gG P ops Q S (λj=>!B.contains j) f l a w
theorem aEe {id:Nat}{a:Act}{w:Bb}(S:Bb->Prop)(B:List Nat)(f:Nat)(hm:P.follows .mixedOrders=true)(hf:ops.size=f)(h:gC P ops Q S B f (Array.replicate f false) a w.drew):(Code.region id ops true).wp P Q a w:=by
 subst hf;exact wp_region_any hm (oG (S:=S) (need:=λj=>!B.contains j) _ _ _ _ (h Closed.start))
theorem aBs {l l':Array Bool}{a:Act}{w:Bb}{f F:Nat}(T:List Nat){lT:List Oper}(hS:S w)(hF:F=T.length+f)(hsel:Region.noSelect ops=true)(hl:pH ops T l=some l')(hpre:(B.all λj=>T.all λi=>pre ops ops.size j i)=true)(hT:tL ops T=lT)
  (hQ : ∀ c (a : Act) d v w, Q (.panic c) (a.put d v) w -> Q (.panic c) a w)
  (h : cV P ops S (λa' => gC P ops Q S B f l' a' w) lT a) : gC P ops Q S B F l a w := by
 subst hT hF;intro hcl;refine aAx hsel hQ hS T _ _ l' a (λi hi listed hcl hr j hj hne=>?_) hcl hl h;rw [Bool.not_eq_true',List.contains_eq_mem,decide_eq_false_iff_not];intro hjB;have h1:=List.all_eq_true.1 (List.all_eq_true.1 hpre j hjB) i hi;have h2:=hcl.ready hj h1;have h3:=(mem_ready.1 hr).1;rcases Nat.lt_or_ge i listed.size with h'|h'
 ·simp [h'] at h2 h3;rw [h3] at h2;cases h2
 ·simp [Array.getElem?_eq_none h'] at h2
theorem qX {need:Nat->Bool}{i:Nat}{oi:Oper}{v:Value}(hi:ops[i]?=some oi)(hsel:∀(j:Nat) (o:Oper) cs b,ops[j]?=some o->o.op≠.select cs b)
  (hQ : ∀ c a w, Q (.panic c) (a.put oi.dst v) w -> Q (.panic c) a w) (hni : need i = false) :
  ∀(fuel:Nat) (listed:Array Bool) (a:Act) (w:Bb),Closed ops listed->
   (∀j oj,ops[j]?=some oj->j≠i->listed.getD j true=false->(∀e∈oj.after,Region.binds .any e=true->e.on≠i)->oi.apart ops oj=true)->
   i∈Region.ready .any ops listed->YIf P ops (λ_=>True) oi v a->
   gG P ops Q S need fuel (listed.setIfInBounds i true) (a.put oi.dst v) w->gG P ops Q S need (fuel+1) listed a w:=by
 intro fuel;induction fuel with
 | zero=>
  intro listed a w hcl _ hr hy H;refine ⟨λh=>(by rw [h] at hr;cases hr),λj hj=>?_⟩;by_cases hji:j=i
  ·subst hji;exact hy.wpOp hi trivial ⟨λh=>(by rw [hni] at h;cases h),H⟩
  ·have:=ready_mono hj hji;rw [H.1] at this;cases this
 | succ fuel ih=>
  intro listed a w hcl hfree hr hy H;refine ⟨λh=>(by rw [h] at hr;cases hr),λj hj=>?_⟩;by_cases hji:j=i
  ·subst hji;exact hy.wpOp hi trivial ⟨λh=>(by rw [hni] at h;cases h),H⟩
  ·have h1:=H.2 j (ready_mono hj hji);obtain ⟨hjun,oj,hoj,hall⟩:=mem_ready.1 hj;have hnot:∀e∈oj.after,Region.binds .any e=true->e.on≠i:=λe he hb heq=>by
    have h1:=hall e he hb;have h0:=(mem_ready.1 hr).1;rw [heq] at h1;rcases Nat.lt_or_ge i listed.size with h'|h'
    ·simp [h'] at h0 h1;rw [h0] at h1;cases h1
    ·simp [Array.getElem?_eq_none h'] at h1
   have h2:=zY hoj (hfree j oj hoj hji hjun hnot) (λcs b=>hsel i oi cs b hi) (λcs b=>hsel j oj cs b hoj) hQ hy h1;have hfree':∀k ok,ops[k]?=some ok->k≠i->(listed.setIfInBounds j true).getD k true=false->
     (∀e∈ok.after,Region.binds .any e=true->e.on≠i)->oi.apart ops ok=true:=λk ok hk hki hun hno=>by
    refine hfree k ok hk hki ?_ hno;by_cases hjk:j=k
    ·subst hjk;exact hjun
    ·rw [_root_.Go.getD_set_ne true hjk] at hun;exact hun
   refine wpOp_mono (λa' w' h3=>⟨h3.2.1,ih (listed.setIfInBounds j true) a' w' (hcl.step hj) hfree' (ready_mono hr (Ne.symm hji)) h3.1 ?_⟩) h2;rw [Array.setIfInBounds_comm _ _ hji];exact h3.2.2
theorem aLs {need:Nat->Bool}(hsel:Region.noSelect ops=true)(hQ:∀c (a:Act) d v w,Q (.panic c) (a.put d v) w->Q (.panic c) a w){w:Bb}:∀(T:List Nat) (fuel:Nat) (listed l':Array Bool) (a:Act),
  (∀ i, i ∈ T -> need i = false) ->
  Closed ops listed->pH ops T listed=some l'->cV P ops (λ_=>True) (λa'=>Closed ops l'->gG P ops Q S need fuel l' a' w) (tL ops T) a->gG P ops Q S need (T.length+fuel) listed a w:=by
 intro T;induction T with
 | nil=>
  intro fuel listed l' a _ hcl hs h;simp only [pH,Option.some.injEq] at hs;subst hs;rw [List.length_nil,Nat.zero_add];rw [tL,List.filterMap_nil,cV] at h;exact h hcl
 | cons i T ih=>
  intro fuel listed l' a hn hcl hs h;rw [pH] at hs;split at hs
  case isFalse=>cases hs
  rename_i hc;rw [Bool.and_eq_true] at hc;have hm:i∈Region.ready .any ops listed:=by simpa using hc.1
  obtain ⟨_,o,ho,_⟩:=mem_ready.1 hm;rw [pN ho,cV] at h;rw [List.length_cons,Nat.add_right_comm];split at h
  ·rename_i hw;obtain ⟨v,hv,hnext⟩:=h;exact qX ho (Region.noSelect_spec hsel) (λc a w hh=>hQ c a _ _ w hh) (hn i Ag) _ _ _ _ hcl (Region.free_spec ho hc.2) hm (hv.yif hw)
    (ih _ _ _ _ (λk hk=>hn k (by simp [hk])) (hcl.step hm) hs hnext)
  ·rename_i hw;exact qX ho (Region.noSelect_spec hsel) (λc a w hh=>hQ c a _ _ w hh) (hn i Ag) _ _ _ _ hcl (Region.free_spec ho hc.2) hm (.inr (.inl ⟨by simpa using hw,rfl⟩))
    (ih _ _ _ _ (λk hk=>hn k (by simp [hk])) (hcl.step hm) hs h)
theorem aMv {l l':Array Bool}{a:Act}{w:Bb}{f F:Nat}(T:List Nat){lT:List Oper}(hF:F=T.length+f)(hsel:Region.noSelect ops=true)(hl:pH ops T l=some l')(hTB:(T.all λi=>B.contains i)=true)(hT:tL ops T=lT)
  (hQ : ∀ c (a : Act) d v w, Q (.panic c) (a.put d v) w -> Q (.panic c) a w)
  (h : cV P ops (λ_ => True) (λa' => gC P ops Q S B f l' a' w) lT a) : gC P ops Q S B F l a w := by
 subst hT hF;intro hcl;exact aLs hsel hQ T _ _ l' a (λi hi=>by have:=List.all_eq_true.1 hTB i hi;simpa using this) hcl hl h
theorem aCf {l:Array Bool}{a:Act}{w:Bb}{f:Nat}(hne:Region.ready .any ops l≠[])
  (h : ∀ i ∈ Region.ready .any ops l, ∀ o, ops[i]? = some o -> wpList P ops (rX S (gC P ops Q S B f (l.setIfInBounds i true)) Q) [o] a w) : gC P ops Q S B (f + 1) l a w := by
 intro hcl;refine ⟨λh0=>absurd h0 hne,λi hi=>?_⟩;obtain ⟨_,o,ho,_⟩:=mem_ready.1 hi;exact nX ho (λa w hh=>⟨λ_=>(aJd hh).1,(aJd hh).2 (hcl.step hi)⟩) (λe a w he hh=>aOz he hh) (h i hi o ho)
theorem nO {i:Nat}{l:Array Bool}{a:Act}{w:Bb}{f:Nat}{o:Oper}(hr:Region.ready .any ops l=[i])(ho:ops[i]?=some o)
  (h : wpList P ops (rX S (gC P ops Q S B f (l.setIfInBounds i true)) Q) [o] a w) : gC P ops Q S B (f + 1) l a w := by
 refine aCf (by rw [hr];simp) λi' hi o' ho'=>?_
 rw [hr] at hi;obtain rfl:i'=i:=by simpa using hi
 rw [ho] at ho';injection ho' with ho';subst ho';exact h
theorem pW {i j:Nat}{l:Array Bool}{a:Act}{w:Bb}{f:Nat}{o o2:Oper}(hr:Region.ready .any ops l=[i,j])(ho:ops[i]?=some o)(ho2:ops[j]?=some o2)
  (h : wpList P ops (rX S (gC P ops Q S B f (l.setIfInBounds i true)) Q) [o] a w) (h2 : wpList P ops (rX S (gC P ops Q S B f (l.setIfInBounds j true)) Q) [o2] a w) : gC P ops Q S B (f + 1) l a w := by
 refine aCf (by rw [hr];simp) λi' hi o' ho'=>?_
 rw [hr] at hi;simp only [List.mem_cons,List.not_mem_nil,or_false] at hi;rcases hi with rfl|rfl
 ·rw [ho] at ho';injection ho' with ho';subst ho';exact h
 ·rw [ho2] at ho';injection ho' with ho';subst ho';exact h2
theorem aTz {l:Array Bool}{a:Act}{w:Bb}{f:Nat}(R:List Nat){lB:List Oper}(hf:R.length<=f)(hRB:(R.all λj=>B.contains j)=true)(hk:yP ops R l=true)(hB:tL ops R=lB)(h:wpList P ops Q lB a w):gC P ops Q S B f l a w:=by
 subst hB;intro _;exact aDf (S:=S) (λj hj=>by have:=List.all_eq_true.1 hRB j hj;simpa using this) [] f l a w (by simpa using hf) hk (by rw [tL,List.filterMap_nil,kQ];exact h)
end
attribute [irreducible] gC
theorem Blk.three {w:Bb}{g:Nat}{x y z:Value}(h:Blk w g #[x,y,z]):w.cell? ⟨g,0,none⟩=some x/\w.cell? ⟨g,1,none⟩=some y/\w.cell? ⟨g,2,none⟩=some z:=
 ⟨h.at_ (i:=0) rfl,h.at_ (i:=1) rfl,h.at_ (i:=2) rfl⟩
def stp (T:List Nat)(l:Array Bool):Array Bool:=T.foldl (λa i=>a.setIfInBounds i true) l
section
variable {P:Program}{ops:Array Oper}{Q:Exit->Act->Bb->Prop}
theorem eK {id:Nat}{a:Act}(W:Bb)(B T:List Nat)(n f:Nat){lT:List Oper}
  (h : ∀ q0, Below W.heap.size W q0 -> cV P ops (λw' => Below W.heap.size W w') (λa' => gC P ops Q (λw' => Below W.heap.size W w') B f (stp T (Array.replicate n false)) a' q0) lT a)
  (hm : P.follows .mixedOrders = true := by kernel_rfl) (hs : ops.size = n := by rfl) (hF : n = T.length + f := by rfl) (hsel : Region.noSelect ops = true := by kernel_rfl)
  (hl : pH ops T (Array.replicate n false) = some (stp T (Array.replicate n false)) := by kernel_rfl) (hpre : (B.all λj => T.all λi => pre ops ops.size j i) = true := by kernel_rfl) (hT : tL ops T = lT := by exact rfl)
  (hQ : ∀ c (a : Act) d v w, Q (.panic c) (a.put d v) w -> Q (.panic c) a w := by exact λ_ _ d _ _ h => by cases d <;> exact h) : (Code.region id ops true).wp P Q a W :=
 aEe _ B n hm hs (aBs T (eI _ _).drew hF hsel hl hpre hT hQ (h W.drew (eI _ _).drew))
theorem fB {S:Bb->Prop}{B:List Nat}{l:Array Bool}{a:Act}{w:Bb}{F:Nat}(T:List Nat)(f:Nat){lT:List Oper}(h:cV P ops (λ_=>True) (λa'=>gC P ops Q S B f (stp T l) a' w) lT a)
  (hF : F = T.length + f := by rfl) (hsel : Region.noSelect ops = true := by kernel_rfl) (hl : pH ops T l = some (stp T l) := by kernel_rfl) (hTB : (T.all λi => B.contains i) = true := by kernel_rfl) (hT : tL ops T = lT := by exact rfl)
  (hQ : ∀ c (a : Act) d v w, Q (.panic c) (a.put d v) w -> Q (.panic c) a w := by exact λ_ _ d _ _ h => by cases d <;> exact h) : gC P ops Q S B F l a w := aMv T hF hsel hl hTB hT hQ h
theorem aZ {S:Bb->Prop}{B:List Nat}(i:Nat){l:Array Bool}{a:Act}{w:Bb}{f:Nat}{o:Oper}(h:wpList P ops (rX S (gC P ops Q S B f (l.setIfInBounds i true)) Q) [o] a w)(hr:Region.ready .any ops l=[i]:=by kernel_rfl)(ho:ops[i]?=some o:=by exact rfl):gC P ops Q S B (f+1) l a w:=nO hr ho h
theorem mW {S:Bb->Prop}{B:List Nat}(i j:Nat){l:Array Bool}{a:Act}{w:Bb}{f:Nat}{o o2:Oper}(h:wpList P ops (rX S (gC P ops Q S B f (l.setIfInBounds i true)) Q) [o] a w)(h2:wpList P ops (rX S (gC P ops Q S B f (l.setIfInBounds j true)) Q) [o2] a w)(hr:Region.ready .any ops l=[i,j]:=by kernel_rfl)(ho:ops[i]?=some o:=by exact rfl)(ho2:ops[j]?=some o2:=by exact rfl):gC P ops Q S B (f+1) l a w:=pW hr ho ho2 h h2
theorem cK {S:Bb->Prop}{B:List Nat}{l:Array Bool}{a:Act}{w:Bb}{f:Nat}(R:List Nat){lB:List Oper}(h:wpList P ops Q lB a w)(hf:R.length<=f:=by simp)(hRB:(R.all λj=>B.contains j)=true:=by kernel_rfl)(hk:yP ops R l=true:=by kernel_rfl)(hB:tL ops R=lB:=by exact rfl):gC P ops Q S B f l a w:=aTz R hf hRB hk hB h
theorem iU {S:Bb->Prop}{K:Act->Bb->Prop}{a:Act}{w:Bb}{row:Array Value}{t:TypeId}(h:∀q:Bb,Below w.heap.size w q->Blk q w.heap.size row->w.heap.size<q.heap.size->rX S K Q .normal a q):rX S K Q .normal a (w.alloc (.cells row t)):=
 h _ ((eI _ _).alloc (mC _) _) (aC _ t _ rfl) Ag
theorem aV {K:Act->Bb->Prop}{W q0 q1:Bb}{a:Act}(b:Below W.heap.size W q0)(hb:Below q0.heap.size q0 q1)(h:Below W.heap.size W q1->q0.heap.size<=q1.heap.size->K a q1):rX (λw'=>Below W.heap.size W w') K Q .normal a q1:=
 aS (b.trans (hb.mono b.size)) (h (b.trans (hb.mono b.size)) hb.size)
end
theorem bU {P Q:Prop}(k:Hid Q)(h:Hid Q->P:=by
  intro k_;repeat ((first|((refine lU (a':=?_) ?_ ?_ ?_);(rotate_left);(· (simp [Region.wanted,yielded,Go.undef];done)))|((refine lM (v:=?_) (a':=?_) ?_ ?_ ?_ ?_);(rotate_left 2);(· (simp [Region.wanted,yielded,Go.undef];done));(· (intro w' hS';go_simp;try (with_reducible rfl)))));(· (simp only [List.getElem_toArray,List.getElem_cons_zero,List.getElem_cons_succ,Act.put,List.setIfInBounds_toArray,List.set_cons_zero,List.set_cons_succ];exact rfl)))
  refine nL ?_;exact aMw k_):P:=h k
theorem rC {B b:Nat}{w w':Bb}(h:Below B w w')(hb:B<=b){x y z:Value}:Below B w (((w'.setCell ⟨b,0,none⟩ x).setCell ⟨b,1,none⟩ y).setCell ⟨b,2,none⟩ z):=((h.setCell (p:=⟨b,0,none⟩) hb x).setCell (p:=⟨b,1,none⟩) hb y).setCell (p:=⟨b,2,none⟩) hb z
abbrev Ro (k n:Int)(A:Ba)(l c:Nat):Array Value:=#[.int .i64 k,.int .i64 n,.slice A l c]
abbrev Zr:Array Value:=#[.int .i64 0,.int .i64 0,.slice none 0 0]
abbrev Bw (w w':Bb):Prop:=Below w.heap.size w w'
theorem bw1 {w:Bb}{o:Obj}:Below w.heap.size w (w.alloc o):=(eI _ _).alloc (mC _) _
theorem bw2 {w:Bb}{o p:Obj}:Below w.heap.size w ((w.alloc o).alloc p):=bw1.alloc Ag _
theorem bw3 {w:Bb}{o p q:Obj}:Below w.heap.size w (((w.alloc o).alloc p).alloc q):=bw2.alloc Al _
theorem bw4 {w:Bb}{o p q r:Obj}:Below w.heap.size w ((((w.alloc o).alloc p).alloc q).alloc r):=bw3.alloc Al _
theorem bw5 {w:Bb}{o p q r s:Obj}:Below w.heap.size w (((((w.alloc o).alloc p).alloc q).alloc r).alloc s):=bw4.alloc Al _
section
variable {w:Bb}{g:Nat}{x y z:Value}
theorem bkf {r:Array Value}(h:Blk w g r):w.frozen? ⟨g,0,none⟩=false/\w.frozen? ⟨g,1,none⟩=false/\w.frozen? ⟨g,2,none⟩=false:=⟨h.frozen 0,h.frozen 1,h.frozen 2⟩
theorem bZ (h:Blk w g #[x,y,z]):w.cell? ⟨g,0,none⟩=some x/\w.cell? ⟨g,1,none⟩=some y/\w.cell? ⟨g,2,none⟩=some z/\w.frozen? ⟨g,0,none⟩=false/\w.frozen? ⟨g,1,none⟩=false/\w.frozen? ⟨g,2,none⟩=false:=⟨h.three.1,h.three.2.1,h.three.2.2,bkf h⟩
theorem dN (h:Blk w g #[x,y,z]):w.cell? ⟨g,0,none⟩=some x/\w.cell? ⟨g,1,none⟩=some y/\w.cell? ⟨g,2,none⟩=some z/\w.frozen? ⟨g,0,none⟩=false/\w.frozen? ⟨g,1,none⟩=false/\w.frozen? ⟨g,2,none⟩=false/\g<w.heap.size:=⟨h.three.1,h.three.2.1,h.three.2.2,h.frozen 0,h.frozen 1,h.frozen 2,h.lt⟩
theorem fW (h:Blk w g #[x,y,z]):(∀v:Bb,Below w.heap.size w v->v.cell? ⟨g,0,none⟩=some x)/\(∀v:Bb,Below w.heap.size w v->v.cell? ⟨g,1,none⟩=some y)/\(∀v:Bb,Below w.heap.size w v->v.cell? ⟨g,2,none⟩=some z):=⟨aF h.three.1,aF h.three.2.1,aF h.three.2.2⟩
variable {b c d p q r:Nat}{v:Bb}
theorem pG (h1:w.cell? ⟨b,p,none⟩=some x)(h2:w.cell? ⟨c,q,none⟩=some y)(h3:w.cell? ⟨d,r,none⟩=some z):(∀v:Bb,Below w.heap.size w v->v.cell? ⟨b,p,none⟩=some x)/\(∀v:Bb,Below w.heap.size w v->v.cell? ⟨c,q,none⟩=some y)/\(∀v:Bb,Below w.heap.size w v->v.cell? ⟨d,r,none⟩=some z):=⟨aF h1,aF h2,aF h3⟩
theorem xW (k:Below v.heap.size v w)(h1:v.cell? ⟨b,p,none⟩=some x)(h2:v.cell? ⟨c,q,none⟩=some y)(h3:v.cell? ⟨d,r,none⟩=some z):w.cell? ⟨b,p,none⟩=some x/\w.cell? ⟨c,q,none⟩=some y/\w.cell? ⟨d,r,none⟩=some z:=⟨cM k _ _ h1,cM k _ _ h2,cM k _ _ h3⟩
theorem fR (k:Below v.heap.size v w)(h1:v.cell? ⟨b,p,none⟩=some x)(h2:v.cell? ⟨c,q,none⟩=some y)(h3:v.cell? ⟨d,r,none⟩=some z):(∀v:Bb,Below w.heap.size w v->v.cell? ⟨b,p,none⟩=some x)/\(∀v:Bb,Below w.heap.size w v->v.cell? ⟨c,q,none⟩=some y)/\(∀v:Bb,Below w.heap.size w v->v.cell? ⟨d,r,none⟩=some z):=by
 obtain ⟨a1,a2,a3⟩:=xW k h1 h2 h3;exact pG a1 a2 a3
end
section
variable {P:Program}{c:Code}{Q:Exit->Act->Bb->Prop}{a:Act}{w:Bb}
theorem aRj {g0:Nat}{r0:Array Value}(a0:Blk w g0 r0)(h:∀x,Blk x g0 r0->x=w->c.wp P Q a x):c.wp P Q a w:=h w a0 rfl
theorem aRb {g0:Nat}{r0:Array Value}{m0:Nat}{v0:Bb}(a0:Blk w g0 r0)(b0:Below m0 v0 w)(h:∀x,Blk x g0 r0->Below m0 v0 x->x=w->c.wp P Q a x):c.wp P Q a w:=h w a0 b0 rfl
theorem aNy {g0 g1:Nat}{r0 r1:Array Value}{m0:Nat}{v0:Bb}(a0:Blk w g0 r0)(a1:Blk w g1 r1)(b0:Below m0 v0 w)(h:∀x,Blk x g0 r0->Blk x g1 r1->Below m0 v0 x->x=w->c.wp P Q a x):c.wp P Q a w:=h w a0 a1 b0 rfl
theorem rM {g0 g1 g2:Nat}{r0 r1 r2:Array Value}{m0:Nat}{v0:Bb}(a0:Blk w g0 r0)(a1:Blk w g1 r1)(a2:Blk w g2 r2)(b0:Below m0 v0 w)(h:∀x,Blk x g0 r0->Blk x g1 r1->Blk x g2 r2->Below m0 v0 x->x=w->c.wp P Q a x):c.wp P Q a w:=h w a0 a1 a2 b0 rfl
theorem aYa {g0 g1 g2 g3:Nat}{r0 r1 r2 r3:Array Value}{m0:Nat}{v0:Bb}(a0:Blk w g0 r0)(a1:Blk w g1 r1)(a2:Blk w g2 r2)(a3:Blk w g3 r3)(b0:Below m0 v0 w)(h:∀x,Blk x g0 r0->Blk x g1 r1->Blk x g2 r2->Blk x g3 r3->Below m0 v0 x->x=w->c.wp P Q a x):c.wp P Q a w:=h w a0 a1 a2 a3 b0 rfl
theorem aXu {m0:Nat}{v0:Bb}(b0:Below m0 v0 w)(h:∀x,Below m0 v0 x->c.wp P Q a x):c.wp P Q a w:=h w b0
theorem aXa {g0:Nat}{r0:Array Value}{m0:Nat}{v0:Bb}(a0:Blk w g0 r0)(b0:Below m0 v0 w)(h:∀x,Blk x g0 r0->Below m0 v0 x->c.wp P Q a x):c.wp P Q a w:=h w a0 b0
theorem uH {g0 g1:Nat}{r0 r1:Array Value}{m0:Nat}{v0:Bb}(a0:Blk w g0 r0)(a1:Blk w g1 r1)(b0:Below m0 v0 w)(h:∀x,Blk x g0 r0->Blk x g1 r1->Below m0 v0 x->c.wp P Q a x):c.wp P Q a w:=h w a0 a1 b0
theorem aXh {g0 g1:Nat}{r0 r1:Array Value}{m0 m1:Nat}{v0 v1:Bb}(a0:Blk w g0 r0)(a1:Blk w g1 r1)(b0:Below m0 v0 w)(b1:Below m1 v1 w)(h:∀x,Blk x g0 r0->Blk x g1 r1->Below m0 v0 x->Below m1 v1 x->c.wp P Q a x):c.wp P Q a w:=h w a0 a1 b0 b1
theorem aTt {g0 g1 g2:Nat}{r0 r1 r2:Array Value}{m0:Nat}{v0:Bb}(a0:Blk w g0 r0)(a1:Blk w g1 r1)(a2:Blk w g2 r2)(b0:Below m0 v0 w)(h:∀x,Blk x g0 r0->Blk x g1 r1->Blk x g2 r2->Below m0 v0 x->c.wp P Q a x):c.wp P Q a w:=h w a0 a1 a2 b0
theorem aMe {g0 g1 g2:Nat}{r0 r1 r2:Array Value}{m0 m1:Nat}{v0 v1:Bb}(a0:Blk w g0 r0)(a1:Blk w g1 r1)(a2:Blk w g2 r2)(b0:Below m0 v0 w)(b1:Below m1 v1 w)(h:∀x,Blk x g0 r0->Blk x g1 r1->Blk x g2 r2->Below m0 v0 x->Below m1 v1 x->c.wp P Q a x):c.wp P Q a w:=h w a0 a1 a2 b0 b1
theorem aWw {g0 g1 g2:Nat}{r0 r1 r2:Array Value}{m0 m1 m2:Nat}{v0 v1 v2:Bb}(a0:Blk w g0 r0)(a1:Blk w g1 r1)(a2:Blk w g2 r2)(b0:Below m0 v0 w)(b1:Below m1 v1 w)(b2:Below m2 v2 w)(h:∀x,Blk x g0 r0->Blk x g1 r1->Blk x g2 r2->Below m0 v0 x->Below m1 v1 x->Below m2 v2 x->c.wp P Q a x):c.wp P Q a w:=h w a0 a1 a2 b0 b1 b2
theorem aPj {g0 g1 g2 g3:Nat}{r0 r1 r2 r3:Array Value}{m0:Nat}{v0:Bb}(a0:Blk w g0 r0)(a1:Blk w g1 r1)(a2:Blk w g2 r2)(a3:Blk w g3 r3)(b0:Below m0 v0 w)(h:∀x,Blk x g0 r0->Blk x g1 r1->Blk x g2 r2->Blk x g3 r3->Below m0 v0 x->c.wp P Q a x):c.wp P Q a w:=h w a0 a1 a2 a3 b0
theorem aSk {g0 g1 g2 g3:Nat}{r0 r1 r2 r3:Array Value}{m0 m1:Nat}{v0 v1:Bb}(a0:Blk w g0 r0)(a1:Blk w g1 r1)(a2:Blk w g2 r2)(a3:Blk w g3 r3)(b0:Below m0 v0 w)(b1:Below m1 v1 w)(h:∀x,Blk x g0 r0->Blk x g1 r1->Blk x g2 r2->Blk x g3 r3->Below m0 v0 x->Below m1 v1 x->c.wp P Q a x):c.wp P Q a w:=h w a0 a1 a2 a3 b0 b1
theorem aVa {g0 g1 g2 g3:Nat}{r0 r1 r2 r3:Array Value}{m0 m1 m2:Nat}{v0 v1 v2:Bb}(a0:Blk w g0 r0)(a1:Blk w g1 r1)(a2:Blk w g2 r2)(a3:Blk w g3 r3)(b0:Below m0 v0 w)(b1:Below m1 v1 w)(b2:Below m2 v2 w)(h:∀x,Blk x g0 r0->Blk x g1 r1->Blk x g2 r2->Blk x g3 r3->Below m0 v0 x->Below m1 v1 x->Below m2 v2 x->c.wp P Q a x):c.wp P Q a w:=h w a0 a1 a2 a3 b0 b1 b2
theorem aWj {g0 g1 g2 g3:Nat}{r0 r1 r2 r3:Array Value}{m0 m1 m2 m3:Nat}{v0 v1 v2 v3:Bb}(a0:Blk w g0 r0)(a1:Blk w g1 r1)(a2:Blk w g2 r2)(a3:Blk w g3 r3)(b0:Below m0 v0 w)(b1:Below m1 v1 w)(b2:Below m2 v2 w)(b3:Below m3 v3 w)(h:∀x,Blk x g0 r0->Blk x g1 r1->Blk x g2 r2->Blk x g3 r3->Below m0 v0 x->Below m1 v1 x->Below m2 v2 x->Below m3 v3 x->c.wp P Q a x):c.wp P Q a w:=h w a0 a1 a2 a3 b0 b1 b2 b3
end
theorem gS {P Q:Prop}(k:Hid Q)(h:Hid Q->P:=by
  intro k_;simp only [List.getElem_toArray,List.getElem_cons_zero,List.getElem_cons_succ,Act.put,List.setIfInBounds_toArray,List.set_cons_zero,List.set_cons_succ];exact aMw k_):P:=h k
section
variable {P:Program}{ops:Array Oper}
theorem qS {C:Bb->Prop}{Q':Act->Prop}{o:Oper}{rest:List Oper}{a a':Act}(h:fL P ops C Q' rest a')(hw:Region.wanted o (yielded ops a.tmps)=false:=by first|(simp [Region.wanted,yielded];done)|fail)(ha:a.put o.dst undef=a':=by simp only [List.getElem_toArray,List.getElem_cons_zero,List.getElem_cons_succ,Act.put,List.setIfInBounds_toArray,List.set_cons_zero,List.set_cons_succ];exact rfl):fL P ops C Q' (o::rest) a:=aHw hw ha h
theorem qO {C:Bb->Prop}{Q':Act->Prop}{o:Oper}{rest:List Oper}{a a':Act}{v:Value}(h:fL P ops C Q' rest a')(hw:Region.wanted o (yielded ops a.tmps)=true:=by first|(simp [Region.wanted,yielded];done)|fail)(hv:∀w,C w->(execOp a.eval o).run P w = .ok (.value v) w:=by first|(intro w' hS';go_simp;(try (with_reducible rfl));done)|fail)(ha:a.put o.dst v=a':=by simp only [List.getElem_toArray,List.getElem_cons_zero,List.getElem_cons_succ,Act.put,List.setIfInBounds_toArray,List.set_cons_zero,List.set_cons_succ];exact rfl):fL P ops C Q' (o::rest) a:=aLk hw hv ha h
theorem qB {wx:Bb}{Q':Act->Prop}{o:Oper}{rest:List Oper}{a a':Act}{v:Value}(f:FuncId){args:Array Value}(hw:Region.wanted o (yielded ops a.tmps)=true:=by first|(simp [Region.wanted,yielded];done)|fail)(hv:∀w,Below wx.heap.size wx w->(execOp a.eval o).run P w = .ok (.enter f args) w:=by first|(intro w' hS';go_simp;(try (with_reducible rfl));done)|fail)(hc:∀w,Below wx.heap.size wx w->Calls P f args w λe w'=>e = .returned v/\Below w.heap.size w w')(ha:a.put o.dst v=a':=by simp only [List.getElem_toArray,List.getElem_cons_zero,List.getElem_cons_succ,Act.put,List.setIfInBounds_toArray,List.set_cons_zero,List.set_cons_succ];exact rfl)(h:fL P ops (λw'=>Below wx.heap.size wx w') Q' rest a'):fL P ops (λw'=>Below wx.heap.size wx w') Q' (o::rest) a:=aFc f args hw hv hc ha h
theorem qM {wx:Bb}{Q':Act->Prop}{o:Oper}{rest:List Oper}{a a':Act}{v:Value}(f:FuncId){args:Array Value}(hw:Region.wanted o (yielded ops a.tmps)=true:=by first|(simp [Region.wanted,yielded];done)|fail)(hv:∀w,Below wx.heap.size wx w->(execOp a.eval o).run P w = .ok (.enter f args) w:=by first|(intro w' hS';go_simp;(try (with_reducible rfl));done)|fail)(hc:∀w,Below wx.heap.size wx w->Calls P f args w λe w'=>e = .returned v/\w=w')(ha:a.put o.dst v=a':=by simp only [List.getElem_toArray,List.getElem_cons_zero,List.getElem_cons_succ,Act.put,List.setIfInBounds_toArray,List.set_cons_zero,List.set_cons_succ];exact rfl)(h:fL P ops (λw'=>Below wx.heap.size wx w') Q' rest a'):fL P ops (λw'=>Below wx.heap.size wx w') Q' (o::rest) a:=aHz f args hw hv hc ha h
end
section
variable {w w1:Bb}{r:Array Value}{t:TypeId}{o p:Obj}
theorem aXk (h:Below (w.alloc (.cells r t)).heap.size (w.alloc (.cells r t)) w1):Blk w1 w.heap.size r:=(aC w t r rfl).keep h
theorem jI (h:Below ((w.alloc o).alloc (.cells r t)).heap.size ((w.alloc o).alloc (.cells r t)) w1):Blk w1 (w.heap.size+1) r:=(aC _ t r Ag).keep h
theorem aOl (h:Below (((w.alloc o).alloc p).alloc (.cells r t)).heap.size (((w.alloc o).alloc p).alloc (.cells r t)) w1):Blk w1 (w.heap.size+1+1) r:=(aC _ t r Ag).keep h
end
section
variable {w:Bb}{A:Ba}{k n:Int}{s l:List Tm}{x y z:Tm}{b o:Nat}
theorem mU (h:Rd w A 0 (.mk k n s::l)):∃b o A' c,A=some ⟨b,o,none⟩/\w.cell? ⟨b,o+0*3,none⟩=some (.int .i64 k)/\w.cell? ⟨b,o+0*3+1,none⟩=some (.int .i64 n)/\w.cell? ⟨b,o+0*3+2,none⟩=some (.slice A' s.length c)/\s.length<=9223372036854775807/\Rd w A' 0 s:=by
 obtain ⟨b,o,k',n',s',A',c,hA,hk,h1⟩:=h.at_ (j:=0) Ag;injection hk with e1 e2 e3;subst e1 e2 e3;exact ⟨b,o,A',c,hA,h1⟩
theorem sB (h:Rd w (some ⟨b,o,none⟩) 0 (x :: .mk k n s::l)):∃A' c,w.cell? ⟨b,o+1*3,none⟩=some (.int .i64 k)/\w.cell? ⟨b,o+1*3+1,none⟩=some (.int .i64 n)/\w.cell? ⟨b,o+1*3+2,none⟩=some (.slice A' s.length c)/\s.length<=9223372036854775807/\Rd w A' 0 s:=by
 obtain ⟨b',o',k',n',s',A',c,hA,hk,h1⟩:=h.at_ (j:=1) Ag;injection hk with e1 e2 e3;injection hA with hA;injection hA with a1 a2;subst e1 e2 e3 a1 a2;exact ⟨A',c,h1⟩
theorem kd2 (h:Rd w (some ⟨b,o,none⟩) 0 (x::y :: .mk k n s::l)):∃A' c,w.cell? ⟨b,o+2*3,none⟩=some (.int .i64 k)/\w.cell? ⟨b,o+2*3+1,none⟩=some (.int .i64 n)/\w.cell? ⟨b,o+2*3+2,none⟩=some (.slice A' s.length c)/\s.length<=9223372036854775807/\Rd w A' 0 s:=by
 obtain ⟨b',o',k',n',s',A',c,hA,hk,h1⟩:=h.at_ (j:=2) Ag;injection hk with e1 e2 e3;injection hA with hA;injection hA with a1 a2;subst e1 e2 e3 a1 a2;exact ⟨A',c,h1⟩
theorem kd3 (h:Rd w (some ⟨b,o,none⟩) 0 (x::y::z :: .mk k n s::l)):∃A' c,w.cell? ⟨b,o+3*3,none⟩=some (.int .i64 k)/\w.cell? ⟨b,o+3*3+1,none⟩=some (.int .i64 n)/\w.cell? ⟨b,o+3*3+2,none⟩=some (.slice A' s.length c)/\s.length<=9223372036854775807/\Rd w A' 0 s:=by
 obtain ⟨b',o',k',n',s',A',c,hA,hk,h1⟩:=h.at_ (j:=3) Ag;injection hk with e1 e2 e3;injection hA with hA;injection hA with a1 a2;subst e1 e2 e3 a1 a2;exact ⟨A',c,h1⟩
end
mutual
def OwT (w:Bb):Tm->List Value->List Nat->Prop
 | .mk k n ks,xs,fp=>∃A c,xs=[.int .i64 k,.int .i64 n,.slice A ks.length c]/\ks.length<=9223372036854775807/\
   ((ks=[]/\fp=[])\/∃g cur e f,ks≠[]/\A=some ⟨g,0,none⟩/\w.heap[g]?=some (.cells cur e (0,0))/\fp=g::f/\OwX w ks (cur.toList.take (ks.length*3)) f)
def OwX (w:Bb):List Tm->List Value->List Nat->Prop
 | [],xs,fp=>xs=[]/\fp=[]
 | t::ts,xs,fp=>∃x1 x2 f1 f2,xs=x1++x2/\fp=f1++f2/\OwT w t x1 f1/\OwX w ts x2 f2
end
def Ow (w:Bb)(A:Ba)(ks:List Tm)(fp:List Nat):Prop:=
 (ks=[]/\fp=[])\/∃g cur e f,ks≠[]/\A=some ⟨g,0,none⟩/\w.heap[g]?=some (.cells cur e (0,0))/\fp=g::f/\OwX w ks (cur.toList.take (ks.length*3)) f
theorem OwT.iff {w:Bb}{k n:Int}{ks:List Tm}{xs:List Value}{fp:List Nat}:OwT w (.mk k n ks) xs fp↔
  ∃A c,xs=[.int .i64 k,.int .i64 n,.slice A ks.length c]/\ks.length<=9223372036854775807/\Ow w A ks fp:=by
 simp only [OwT,Ow]
theorem OwX_d_nil_iff {w:Bb}{xs:List Value}{fp:List Nat}:OwX w [] xs fp↔xs=[]/\fp=[]:=by simp only [OwX]
theorem OwX.cons_iff {w:Bb}{t:Tm}{ts:List Tm}{xs:List Value}{fp:List Nat}:OwX w (t::ts) xs fp↔
  ∃x1 x2 f1 f2,xs=x1++x2/\fp=f1++f2/\OwT w t x1 f1/\OwX w ts x2 f2:=by simp only [OwX]
theorem OwX.nil {w:Bb}:OwX w [] [] []:=OwX_d_nil_iff.2 ⟨rfl,rfl⟩
theorem OwT.length {w:Bb}{t:Tm}{xs:List Value}{fp:List Nat}(h:OwT w t xs fp):xs.length=3:=by
 cases t;obtain ⟨A,c,rfl,_⟩:=OwT.iff.1 h;rfl
theorem OwX.length {w:Bb}{ts:List Tm}:∀{xs:List Value} {fp:List Nat},OwX w ts xs fp->xs.length=ts.length*3:=by
 induction ts with
 | nil=>intro xs fp h;rw [(OwX_d_nil_iff.1 h).1];rfl
 | cons t ts ih=>
  intro xs fp h;obtain ⟨x1,x2,f1,f2,rfl,rfl,h1,h2⟩:=OwX.cons_iff.1 h;rw [List.length_append,h1.length,ih h2,List.length_cons];omega
theorem OwX.append {w:Bb}{ts us:List Tm}:∀{xs ys:List Value} {f g:List Nat},OwX w ts xs f->OwX w us ys g->OwX w (ts++us) (xs++ys) (f++g):=by
 induction ts with
 | nil=>intro xs ys f g h k;obtain ⟨rfl,rfl⟩:=OwX_d_nil_iff.1 h;exact k
 | cons t ts ih=>
  intro xs ys f g h k;obtain ⟨x1,x2,f1,f2,rfl,rfl,h1,h2⟩:=OwX.cons_iff.1 h;rw [List.cons_append];exact OwX.cons_iff.2 ⟨x1,x2++ys,f1,f2++g,by rw [List.append_assoc],by rw [List.append_assoc],h1,ih h2 k⟩
theorem OwX.one {w:Bb}{t:Tm}{xs:List Value}{f:List Nat}(h:OwT w t xs f):OwX w [t] xs f:=
 OwX.cons_iff.2 ⟨xs,[],f,[],by simp,by simp,h,OwX.nil⟩
theorem OwT.oneCell {w:Bb}{t:Tm}{xs:List Value}{fp:List Nat}(h:OwT w t xs fp):∀u,u∈xs->u.oneCell'=true:=by
 cases t;obtain ⟨A,c,rfl,_⟩:=OwT.iff.1 h;intro u hu;simp only [List.mem_cons,List.not_mem_nil,or_false] at hu;rcases hu with rfl|rfl|rfl<;>rfl
theorem own_frame {w w':Bb}:(∀t xs fp,OwT w t xs fp->(∀b,b∈fp->w'.heap[b]?=w.heap[b]?)->OwT w' t xs fp)/\(∀ts xs fp,OwX w ts xs fp->(∀b,b∈fp->w'.heap[b]?=w.heap[b]?)->OwX w' ts xs fp):=by
 refine bA (λk n ks ih xs fp h hk=>?_) (λxs fp h _=>OwX_d_nil_iff.2 (OwX_d_nil_iff.1 h)) (λt ts h1 h2 xs fp h hk=>?_)
 ·obtain ⟨A,c,rfl,hl,h⟩:=OwT.iff.1 h;refine OwT.iff.2 ⟨A,c,rfl,hl,?_⟩;rcases h with ⟨rfl,rfl⟩|⟨g,cur,e,f,hne,rfl,hg,rfl,hx⟩
  ·exact .inl ⟨rfl,rfl⟩
  ·exact .inr ⟨g,cur,e,f,hne,rfl,(hk g Ag).trans hg,rfl,ih _ _ hx λb hb=>hk b (by simp [hb])⟩
 ·obtain ⟨x1,x2,f1,f2,rfl,rfl,ht,hx⟩:=OwX.cons_iff.1 h;exact OwX.cons_iff.2 ⟨x1,x2,f1,f2,rfl,rfl,h1 _ _ ht λb hb=>hk b (by simp [hb]),h2 _ _ hx λb hb=>hk b (by simp [hb])⟩
theorem OwX.frame {w w':Bb}{ts:List Tm}{xs:List Value}{fp:List Nat}(h:OwX w ts xs fp)(hk:∀b,b∈fp->w'.heap[b]?=w.heap[b]?):OwX w' ts xs fp:=own_frame.2 _ _ _ h hk
theorem OwT.frame {w w':Bb}{t:Tm}{xs:List Value}{fp:List Nat}(h:OwT w t xs fp)(hk:∀b,b∈fp->w'.heap[b]?=w.heap[b]?):OwT w' t xs fp:=own_frame.1 _ _ _ h hk
theorem Ow.frame {w w':Bb}{A:Ba}{ks:List Tm}{fp:List Nat}(h:Ow w A ks fp)(hk:∀b,b∈fp->w'.heap[b]?=w.heap[b]?):Ow w' A ks fp:=by
 rcases h with ⟨rfl,rfl⟩|⟨g,cur,e,f,hne,rfl,hg,rfl,hx⟩
 ·exact .inl ⟨rfl,rfl⟩
 ·exact .inr ⟨g,cur,e,f,hne,rfl,(hk g Ag).trans hg,rfl,hx.frame λb hb=>hk b (by simp [hb])⟩
theorem own_lt {w:Bb}:(∀t xs fp,OwT w t xs fp->∀b,b∈fp->b<w.heap.size)/\(∀ts xs fp,OwX w ts xs fp->∀b,b∈fp->b<w.heap.size):=by
 refine bA (λk n ks ih xs fp h b hb=>?_) (λxs fp h b hb=>?_) (λt ts h1 h2 xs fp h b hb=>?_)
 ·obtain ⟨A,c,rfl,hl,h⟩:=OwT.iff.1 h;rcases h with ⟨rfl,rfl⟩|⟨g,cur,e,f,hne,rfl,hg,rfl,hx⟩
  ·simp at hb
  ·rcases List.mem_cons.1 hb with rfl|hb
   ·exact (Array.getElem?_eq_some_iff.1 hg).1
   ·exact ih _ _ hx b hb
 ·rw [(OwX_d_nil_iff.1 h).2] at hb;simp at hb
 ·obtain ⟨x1,x2,f1,f2,rfl,rfl,ht,hx⟩:=OwX.cons_iff.1 h;rcases List.mem_append.1 hb with hb|hb
  ·exact h1 _ _ ht b hb
  ·exact h2 _ _ hx b hb
theorem OwX.lt {w:Bb}{ts:List Tm}{xs:List Value}{fp:List Nat}(h:OwX w ts xs fp):∀b,b∈fp->b<w.heap.size:=own_lt.2 _ _ _ h
theorem OwT.lt {w:Bb}{t:Tm}{xs:List Value}{fp:List Nat}(h:OwT w t xs fp):∀b,b∈fp->b<w.heap.size:=own_lt.1 _ _ _ h
theorem Ow.lt {w:Bb}{A:Ba}{ks:List Tm}{fp:List Nat}(h:Ow w A ks fp):∀b,b∈fp->b<w.heap.size:=by
 intro b hb;rcases h with ⟨rfl,rfl⟩|⟨g,cur,e,f,hne,rfl,hg,rfl,hx⟩
 ·simp at hb
 ·rcases List.mem_cons.1 hb with rfl|hb
  ·exact (Array.getElem?_eq_some_iff.1 hg).1
  ·exact hx.lt b hb
theorem own_rd {w:Bb}:(∀t xs fp,OwT w t xs fp->∀g off i,(∀j u,xs[j]?=some u->w.cell? ⟨g,off+i*3+j,none⟩=some u)->RdC w g off i t)/\
  (∀ ts xs fp, OwX w ts xs fp -> ∀ g off i, (∀ j u, xs[j]? = some u -> w.cell? ⟨g, off + i * 3 + j, none⟩ = some u) -> Rd w (some ⟨g, off, none⟩) i ts) := by
 refine bA (λk n ks ih xs fp h g off i hc=>?_) (λxs fp h g off i hc=>Rd.nil) (λt ts h1 h2 xs fp h g off i hc=>?_)
 ·obtain ⟨A,c,rfl,hl,h⟩:=OwT.iff.1 h;refine RdC.iff.2 ⟨hc 0 _ rfl,hc 1 _ rfl,A,c,hc 2 _ rfl,hl,?_⟩;rcases h with ⟨rfl,rfl⟩|⟨g',cur,e,f,hne,rfl,hg,rfl,hx⟩
  ·exact Rd.nil
  ·refine ih _ _ hx g' 0 0 λj u hu=>?_
   have e0:0+0*3+j=j:=by omega
   rw [e0,cell_of_row w g' j cur e (0,0) hg];rw [List.getElem?_take] at hu;split at hu
   ·simpa using hu
   ·cases hu
 ·obtain ⟨x1,x2,f1,f2,rfl,rfl,ht,hx⟩:=OwX.cons_iff.1 h;have hl:=ht.length;refine Rd.cons_iff.2 ⟨⟨g,off,rfl,h1 _ _ ht g off i λj u hu=>hc j u ?_⟩,h2 _ _ hx g off (i+1) λj u hu=>?_⟩
  ·rw [List.getElem?_append_left (by have:=(List.getElem?_eq_some_iff.1 hu).1;omega)];exact hu
  ·have:=hc (3+j) u (by rw [List.getElem?_append_right Ac,hl];simpa using hu);rw [show off+(i+1)*3+j=off+i*3+(3+j) from by omega];exact this
theorem Ow.rd {w:Bb}{A:Ba}{ks:List Tm}{fp:List Nat}(h:Ow w A ks fp):Rd w A 0 ks:=by
 rcases h with ⟨rfl,rfl⟩|⟨g,cur,e,f,hne,rfl,hg,rfl,hx⟩
 ·exact Rd.nil
 ·refine own_rd.2 _ _ _ hx g 0 0 λj u hu=>?_
  have e0:0+0*3+j=j:=by omega
  rw [e0,cell_of_row w g j cur e (0,0) hg];rw [List.getElem?_take] at hu;split at hu
  ·simpa using hu
  ·cases hu
def Fresh (B:Nat)(w:Bb)(A:Ba)(ks:List Tm):Prop:=∃fp,Ow w A ks fp/\fp.Nodup/\∀b,b∈fp->B<=b
theorem Fresh.rd {B:Nat}{w:Bb}{A:Ba}{ks:List Tm}(h:Fresh B w A ks):Rd w A 0 ks:=by
 obtain ⟨fp,h,_⟩:=h;exact h.rd
theorem Fresh.nil {B:Nat}{w:Bb}{A:Ba}:Fresh B w A []:=⟨[],.inl ⟨rfl,rfl⟩,List.nodup_nil,by simp⟩
theorem Fresh.mono {B B':Nat}{w:Bb}{A:Ba}{ks:List Tm}(h:Fresh B w A ks)(hB:B'<=B):Fresh B' w A ks:=by
 obtain ⟨fp,h,hn,hb⟩:=h;exact ⟨fp,h,hn,λb hx=>Nat.le_trans hB (hb b hx)⟩
theorem Fresh.keep {B:Nat}{w w':Bb}{A:Ba}{ks:List Tm}(h:Fresh B w A ks)(hk:∀b,B<=b->b<w.heap.size->w'.heap[b]?=w.heap[b]?):Fresh B w' A ks:=by
 obtain ⟨fp,h,hn,hb⟩:=h;exact ⟨fp,h.frame λb hx=>hk b (hb b hx) (h.lt b hx),hn,hb⟩
theorem Fresh.below {B:Nat}{w w':Bb}{A:Ba}{ks:List Tm}(h:Fresh B w A ks)(hk:Bw w w'):Fresh B w' A ks:=h.keep λb _ hb=>hk.block b hb
theorem Fresh.alloc {B:Nat}{w:Bb}{A:Ba}{ks:List Tm}(h:Fresh B w A ks)(o:Obj):Fresh B (w.alloc o) A ks:=h.keep λb _ hb=>Below.heap_alloc w o b hb
theorem Fresh.setCell {B:Nat}{w:Bb}{A:Ba}{ks:List Tm}(h:Fresh B w A ks){a:Addr}(ha:a.block<B)(u:Value):Fresh B (w.setCell a u) A ks:=
 h.keep λb hb _=>sC w a u b Ac
theorem vF {B:Nat}{w:Bb}{A:Ba}{ks:List Tm}{p q r:Addr}{x y z:Value}(h:Fresh B w A ks)(h1:p.block<B:=by first|omega|(simp;done)|(simp;omega))(h2:q.block<B:=by first|omega|(simp;done)|(simp;omega))(h3:r.block<B:=by first|omega|(simp;done)|(simp;omega)):Fresh B (((w.setCell p x).setCell q y).setCell r z) A ks:=((h.setCell h1 _).setCell h2 _).setCell h3 _
def Fill (w:Bb)(g n:Nat)(ts:List Tm):Prop:=
 ∃cur f,w.heap[g]?=some (.cells cur 32 (0,0))/\cur.size=n*3/\OwX w ts (cur.toList.take (ts.length*3)) f/\f.Nodup/\∀b,b∈f->g<b
theorem Fill.start {w:Bb}{n:Nat}{cur:Array Value}(h:cur.size=n*3):Fill (w.alloc (.cells cur 32)) w.heap.size n []:=
 ⟨cur,[],heap_alloc_new w _,h,by simpa using OwX.nil,List.nodup_nil,by simp⟩
theorem Fill.below {w w':Bb}{g n:Nat}{ts:List Tm}(h:Fill w g n ts)(hb:Bw w w'):Fill w' g n ts:=by
 obtain ⟨cur,f,h1,h2,h3,h4,h5⟩:=h;exact ⟨cur,f,(hb.block g (Array.getElem?_eq_some_iff.1 h1).1).trans h1,h2,h3.frame λb hbf=>hb.block b (h3.lt b hbf),h4,h5⟩
theorem Fill.lt {w:Bb}{g n:Nat}{ts:List Tm}(h:Fill w g n ts):g<w.heap.size:=by
 obtain ⟨cur,f,h1,_⟩:=h;exact (Array.getElem?_eq_some_iff.1 h1).1
theorem Fill.cell {w:Bb}{g n:Nat}{ts:List Tm}(h:Fill w g n ts){j:Nat}(hj:j<n*3):∃u,w.cell? ⟨g,j,none⟩=some u:=by
 obtain ⟨cur,f,h1,h2,_⟩:=h;exact ⟨cur[j]' Ac,by rw [cell_of_row w g j cur _ (0,0) h1];exact Array.getElem?_eq_getElem Ac⟩
theorem Fill.frozen {w:Bb}{g n:Nat}{ts:List Tm}(h:Fill w g n ts)(j:Nat):w.frozen? ⟨g,j,none⟩=false:=by
 obtain ⟨cur,f,h1,h2,_⟩:=h;simp [World.frozen?,h1]
theorem Fill.set_ {w0 w:Bb}{g n:Nat}{ts:List Tm}(h:Fill w0 g n ts)(hb:Bw w0 w){k m:Int}{ks:List Tm}{A:Ba}{c j:Nat}(hfr:Fresh w0.heap.size w A ks)(hl:ks.length<=9223372036854775807)(hj:ts.length=j)(hn:j<n) :
    Fill (((w.setCell ⟨g,j*3,none⟩ (.int .i64 k)).setCell ⟨g,j*3+1,none⟩ (.int .i64 m)).setCell ⟨g,j*3+2,none⟩ (.slice A ks.length c)) g n (ts++[.mk k m ks]):=by
  subst hj;obtain ⟨cur,f,h1,h2,h3,h4,h5⟩:=h;obtain ⟨fp,k1,k2,k3⟩:=hfr;have hg0:=(Array.getElem?_eq_some_iff.1 h1).1;have hg:w.heap[g]?=some (.cells cur 32 (0,0)):=(hb.block g hg0).trans h1;have far:∀b,b≠g->(((w.setCell ⟨g,ts.length*3,none⟩ (.int .i64 k)).setCell ⟨g,ts.length*3+1,none⟩ (.int .i64 m)).setCell ⟨g,ts.length*3+2,none⟩ (.slice A ks.length c)).heap[b]?=w.heap[b]?:=λb hbg=>by
    rw [sC _ _ _ _ hbg,sC _ _ _ _ hbg,sC _ _ _ _ hbg]
  refine ⟨((cur.setIfInBounds (ts.length*3) (.int .i64 k)).setIfInBounds (ts.length*3+1) (.int .i64 m)).setIfInBounds (ts.length*3+2) (.slice A ks.length c),f++fp,?_,by simpa using h2,?_,?_,?_⟩
  · simp [World.setCell,Array.getElem?_modify,hg]
  · have e:((((cur.setIfInBounds (ts.length*3) (.int .i64 k)).setIfInBounds (ts.length*3+1) (.int .i64 m)).setIfInBounds (ts.length*3+2) (.slice A ks.length c)).toList.take ((ts++[Tm.mk k m ks]).length*3)) =
        cur.toList.take (ts.length*3)++[.int .i64 k,.int .i64 m,.slice A ks.length c]:=by
      have hlen:cur.toList.length=n*3:=by simpa using h2
      simp only [Array.toList_setIfInBounds,List.length_append,List.length_singleton];rw [show (ts.length+1)*3=ts.length*3+2+1 from by omega];rw [tM Ai,List.take_set_of_le Ac,tM Ai,List.take_set_of_le Ac,tM Ai,List.take_set_of_le Ac];simp
    rw [e];refine (h3.frame λb hbf=>?_).append (OwX.one (OwT.iff.2 ⟨A,c,rfl,hl,k1.frame λb hbf=>far b ?_⟩))
    · rw [far b (by have:=h5 b hbf;omega)]
      exact hb.block b (h3.lt b hbf)
    · have:=k3 b hbf;omega
  · refine List.nodup_append.2 ⟨h4,k2,λx hx y hy e=>?_⟩
    have:=h3.lt x hx;have:=k3 y hy;omega
  · intro b hbm
    rcases List.mem_append.1 hbm with hbm|hbm
    · exact h5 b hbm
    · have:=k3 b hbm;omega
theorem Fill.fresh {w:Bb}{g n:Nat}{ts:List Tm}(h:Fill w g n ts){B:Nat}(hB:B<=g):Fresh B w (some ⟨g,0,none⟩) ts:=by
 obtain ⟨cur,f,h1,h2,h3,h4,h5⟩:=h;by_cases hts:ts=[]
 ·subst hts;exact Fresh.nil
 ·refine ⟨g::f,.inr ⟨g,cur,_,f,hts,rfl,h1,rfl,h3⟩,List.nodup_cons.2 ⟨λhm=>by have:=h5 g hm;omega,h4⟩,λb hb=>?_⟩;rcases List.mem_cons.1 hb with rfl|hb
  ·exact hB
  ·have:=h5 b hb;omega
def Part (B:Nat)(w:Bb)(v:Value)(ts:List Tm):Prop:=
 ∃xs f,w.ownsRow B 32 3 v ts.length xs/\OwX w ts xs f/\f.Nodup/\(∀b,b∈f->B<=b)/\∀g,v.ownBlock=some g->g ∉ f
theorem Part.nil {B:Nat}{w:Bb}:Part B w (.slice none 0 0) []:=
 ⟨[],[],World.ownsRow_nil _ _ _ _,OwX.nil,List.nodup_nil,by simp,by simp⟩
theorem Part.keep {B:Nat}{w w':Bb}{v:Value}{ts:List Tm}(h:Part B w v ts)(hk:∀b,B<=b->b<w.heap.size->w'.heap[b]?=w.heap[b]?):Part B w' v ts:=by
 obtain ⟨xs,f,h1,h2,h3,h4,h5⟩:=h;refine ⟨xs,f,⟨h1.1,?_⟩,h2.frame λb hb=>hk b (h4 b hb) (h2.lt b hb),h3,h4,h5⟩;rcases h1.2 with hn|⟨g,cap,cur,rfl,hb,hg,r⟩
 ·exact .inl hn
 ·exact .inr ⟨g,cap,cur,rfl,hb,(hk g hb (Array.getElem?_eq_some_iff.1 hg).1).trans hg,r⟩
theorem Part.below {B:Nat}{w w':Bb}{v:Value}{ts:List Tm}(h:Part B w v ts)(hk:Bw w w'):Part B w' v ts:=h.keep λb _ hb=>hk.block b hb
theorem Part.alloc {B:Nat}{w:Bb}{v:Value}{ts:List Tm}(h:Part B w v ts)(o:Obj):Part B (w.alloc o) v ts:=h.keep λb _ hb=>Below.heap_alloc w o b hb
theorem Part.drew {B:Nat}{w:Bb}{v:Value}{ts:List Tm}(h:Part B w v ts):Part B w.drew v ts:=h.keep λ_ _ _=>rfl
theorem Part.setCell {B:Nat}{w:Bb}{v:Value}{ts:List Tm}(h:Part B w v ts){a:Addr}(ha:a.block<B)(u:Value):Part B (w.setCell a u) v ts:=
 h.keep λb hb _=>sC w a u b Ac
theorem Part.fresh {B:Nat}{w:Bb}{v:Value}{ts:List Tm}(h:Part B w v ts):∃A c,v = .slice A ts.length c/\Fresh B w A ts:=by
 obtain ⟨xs,f,h1,h2,h3,h4,h5⟩:=h;rcases h1.2 with ⟨rfl,h0⟩|⟨g,cap,cur,rfl,hb,hg,_,_,_,htk⟩
 ·have:ts=[]:=lEn h0;subst this;exact ⟨none,0,rfl,Fresh.nil⟩
 ·refine ⟨_,_,rfl,?_⟩;by_cases hts:ts=[]
  ·subst hts;exact Fresh.nil
  ·refine ⟨g::f,.inr ⟨g,cur,_,f,hts,rfl,hg,rfl,by rw [htk];exact h2⟩,List.nodup_cons.2 ⟨h5 g rfl,h3⟩,?_⟩;intro b hb';rcases List.mem_cons.1 hb' with rfl|hb'
   ·exact hb
   ·exact h4 b hb'
theorem Part.shape {B:Nat}{w:Bb}{v:Value}{ts:List Tm}(h:Part B w v ts):∃A c,v = .slice A ts.length c:=by
 obtain ⟨A,c,hv,_⟩:=h.fresh;exact ⟨A,c,hv⟩
theorem lS {a w:Bb}{row:Option Nat}(h:a.grownBy w row)(o:Obj):a.grownBy (w.alloc o) row:=
 ⟨h.os,h.tape,h.output,Nat.le_trans h.size Ag,λi hi hne=>(Below.heap_alloc w o i (vM hi h.size)).trans (h.block i hi hne)⟩
theorem mQ {a w w':Bb}{row:Option Nat}(h:a.grownBy w row)(k:w.grownBy w' row):a.grownBy w' row:=
 ⟨k.os.trans h.os,k.tape.trans h.tape,k.output.trans h.output,Nat.le_trans h.size k.size,λi hi hne=>(k.block i (vM hi h.size) hne).trans (h.block i hi hne)⟩
theorem mJ:(prog.info? 32).map (λi=>(i.zero,i.size,i.bytes))=some (some (.agg Zr),3,40):=by kernel_rfl
def rQ (w:Bb)(k n:Int)(ks:List Tm)(e:Ending)(w':Bb):Prop:=
 ∃A c,e = .returned (.agg (Ro k n A ks.length c))/\ks.length<=9223372036854775807/\Fresh w.heap.size w' A ks/\Bw w w'
theorem yO {B:Nat}{w0 w:Bb}{v:Value}{ts:List Tm}{t:Tm}{x1:List Value}{f1:List Nat}(hp:Part B w0 v ts)(hb:Bw w0 w)(hB:B<=w0.heap.size)
  (ht : OwT w t x1 f1) (hn : f1.Nodup) (hf : ∀ b, b ∈ f1 -> w0.heap.size <= b) (hlen : ts.length <= 1099511627776) (ad : Addr) (c : Nat) (hc : ∀ j u, x1[j]? = some u -> w.cell? (ad.add j) = some u) (ty : TypeId) :
  ∃v' w',(Builtin.append_ #[29,29] ty #[v,.slice (some ad) 1 c]).run prog w = .ok v' w'/\Part B w' v' (ts++[t])/\Below B w w'/\w.grownBy w' v.ownBlock:=by
 obtain ⟨i,hi,hz,hz1,hz2⟩:=info_parts mJ;have hsz:=hb.size;obtain ⟨xs,f,h1,h2,h3,h4,h5⟩:=hp;have hlt:∀g,v.ownBlock=some g->g<w0.heap.size:=λg hg=>(h1.lt g hg).2
 have hge:∀g,v.ownBlock=some g->B<=g:=λg hg=>(h1.lt g hg).1
 have hfl:=h2.lt;have k1:w.ownsRow B 32 3 v ts.length xs:=by
  refine ⟨h1.1,?_⟩;rcases h1.2 with hn|⟨g,cap,cur,rfl,hb',hg,r⟩
  ·exact .inl hn
  ·exact .inr ⟨g,cap,cur,rfl,hb',(hb.block g (hlt g rfl)).trans hg,r⟩
 have k2:OwX w ts xs f:=h2.frame λb hbf=>hb.block b (hfl b hbf)
 obtain ⟨v',w',hrun,hown,hg,_,hat⟩:=run_append_own_at (P:=prog) w B 29 ty 32 i _ 3 40 Tryz.underlying29 hi hz hz1 hz2 rfl Ac v ts.length xs k1 ad 1 c x1 ht.length hc ht.oneCell
  (by simp only [maxLen]; omega) Ac Ac
 have e1:∀b,b∈f->w'.heap[b]?=w.heap[b]?:=λb hbf=>hg.block b (by have:=hfl b hbf;omega) (λe=>h5 b e.symm hbf)
 have e2:∀b,b∈f1->w'.heap[b]?=w.heap[b]?:=λb hbf=>hg.block b (ht.lt b hbf) (λe=>by have:=hlt b e.symm;have:=hf b hbf;omega)
 refine ⟨v',w',hrun,⟨xs++x1,f++f1,by simpa using hown,(k2.frame e1).append (OwX.one (ht.frame e2)),?_,?_,?_⟩,⟨hg.os,hg.tape,hg.output,hg.size,λk hk=>hg.block k Ac (λe=>by have:=hge k e.symm;omega)⟩,hg⟩
 ·refine List.nodup_append.2 ⟨h3,hn,λx hx y hy e=>?_⟩;have:=hfl x hx;have:=hf y hy;omega
 ·intro b hbm;rcases List.mem_append.1 hbm with hbm|hbm
  ·exact h4 b hbm
  ·have:=hf b hbm;omega
 ·intro g hgo hgm;rcases hat with e|e<;>rw [e] at hgo
  ·rcases List.mem_append.1 hgm with hgm|hgm
   ·exact h5 g hgo hgm
   ·have:=hlt g hgo;have:=hf g hgm;omega
  ·injection hgo with hgo;subst hgo;rcases List.mem_append.1 hgm with hgm|hgm
   ·have:=hfl _ hgm;omega
   ·have:=ht.lt _ hgm;omega
section
variable {B:Nat}{w0 w1:Bb}{v:Value}{ts:List Tm}{k n:Int}{ks:List Tm}{A:Ba}{c:Nat}
theorem tY (hp:Part B w0 v ts)(hb:Bw w0 w1)(hB:B<=w0.heap.size)(hfr:Fresh w0.heap.size w1 A ks)(hl:ks.length<=9223372036854775807)(hlen:ts.length<=1099511627776)(ty:TypeId) :
  ∃v' w',(Builtin.append_ #[29,29] ty #[v,.slice (some ⟨w1.heap.size,0,none⟩) 1 1]).run prog (w1.alloc (.cells (Ro k n A ks.length c) 32)) = .ok v' w'/\
   Part B w' v' (ts++[.mk k n ks])/\Below B w1 w'/\w1.grownBy w' v.ownBlock:=by
 obtain ⟨fp,h1,h2,h3⟩:=(hfr.alloc (.cells (Ro k n A ks.length c) 32));have hs:=hb.size;obtain ⟨v',w',r1,r2,r3,r4⟩:=yO (t:=.mk k n ks) (x1:=[.int .i64 k,.int .i64 n,.slice A ks.length c]) (f1:=fp) (c:=1) (ty:=ty) hp (hb.alloc hs _) hB (OwT.iff.2 ⟨A,c,rfl,hl,h1⟩) h2 h3 hlen ⟨w1.heap.size,0,none⟩ (by
  intro j u hj;match j,hj with
  | 0,hj=>simp only [List.getElem?_cons_zero,Option.some.injEq] at hj;subst hj;simp [Addr.add]
  | 1,hj=>simp only [List.getElem?_cons_succ,List.getElem?_cons_zero,Option.some.injEq] at hj;subst hj;simp [Addr.add]
  | 2,hj=>simp only [List.getElem?_cons_succ,List.getElem?_cons_zero,Option.some.injEq] at hj;subst hj;simp [Addr.add])
 exact ⟨v',w',r1,r2,((eI _ _).alloc Ac _).trans r3,mQ (lS (nE _ _) _) r4⟩
theorem cZ (hp:Part B w0 v ts)(hb:Bw w0 w1)(hB:B<=w0.heap.size)(hfr:Fresh w0.heap.size w1 A ks)(hl:ks.length<=9223372036854775807){m:Nat}(hm:ts.length=m)(hlen:m<=1099511627776)
  {ops:Array Oper} {rest:List Oper} {o:Oper} {a:Act} {Q:Exit->Act->Bb->Prop} (hgd:o.guard=none) (s x:Operand)
  (ho : o.op = .call { callee := .builtin .append, args := #[s, x], argTypes := #[29, 29] }) (hs : a.eval s = v) (hx : a.eval x = .slice (some ⟨w1.heap.size, 0, none⟩) 1 1)
  (h : ∀ A' c' w', Part B w' (.slice A' (m + 1) c') (ts ++ [.mk k n ks]) -> Below B w1 w' -> w1.grownBy w' v.ownBlock -> wpList prog ops Q rest (a.put o.dst (.slice A' (m + 1) c')) w') :
  wpList prog ops Q (o::rest) a (w1.alloc (.cells (Ro k n A ks.length c) 32)):=by
 subst hm;refine wpList_plain hgd λK hK=>?_
 obtain ⟨v',w',hrun,h2,h3,h4⟩:=tY (k:=k) (n:=n) (c:=c) hp hb hB hfr hl hlen o.type;unfold Oper.wp execOp;simp only [ho,resolve,invoke,builtin,Sem.run_bind,Sem.run_pure,Result.andThen_ok,List.map_toArray,List.map_cons,List.map_nil,hs,hx,hrun];obtain ⟨A',c',rfl⟩:=h2.shape;rw [List.length_append] at h2⊢;exact hK _ _ (h A' c' w' h2 h3 h4)
end
def aX (k:Int):Int:=
 if k=1 then 0 else if k=2 then 0 else if k=6 then 0 else if k=7 then 0 else if k=8 then 1 else if k=11 then 1 else if k=15 then 1 else if k=16 then 1 else
 if k=3 then 2 else if k=4 then 2 else if k=5 then 2 else if k=13 then 2 else if k=10 then 3 else if k=12 then 3 else if k=14 then 3 else if k=9 then 4 else -1
def dL (k:Int):Int:=if k=1 then 20 else if k=2 then 3 else 0
theorem dM (n lo hi:Int)(w:Bb) :
  Calls prog 36 #[.int .i64 n,.int .i64 lo,.int .i64 hi] w λe w'=>e = .returned (.bool (decide (lo<=n) && decide (n<=hi)))/\w=w':=by
 go_enter func36,ntmps36;go_wp2;all_goals go_ret
 all_goals refine ⟨dE ?_,rfl⟩
 ·have h:lo<=n:=by assumption
  simp [h]
 ·have h:n<lo:=by assumption
  simp [show ¬lo<=n from by omega]
theorem nV (k:Int)(w:Bb):Calls prog 100 #[.int .i64 k] w λe w'=>e = .returned (.int .i64 (aX k))/\w=w':=by
 go_enter func100,ntmps100;go_wp2;all_goals go_ret
 all_goals refine ⟨cN ?_,rfl⟩
 all_goals simp_all [aX]
theorem oE (k:Int)(w:Bb):Calls prog 101 #[.int .i64 k] w λe w'=>e = .returned (.int .i64 (dL k))/\w=w':=by
 go_enter func101,ntmps101;go_wp2;all_goals go_ret
 all_goals refine ⟨cN ?_,rfl⟩
 all_goals simp_all [dL]
theorem pX (k:Int)(w:Bb):Calls prog 114 #[.int .i64 k] w λe w'=>e = .returned (.int .i64 (dL k))/\w=w':=by
 go_enter func114,ntmps114;go_wp2;all_goals go_ret
 all_goals refine ⟨cN ?_,rfl⟩
 all_goals simp_all [dL]
theorem jA (k:Int)(w:Bb):Calls prog 113 #[.int .i64 k] w λe w'=>e = .returned (.int .i64 (aX k))/\Bw w w':=by
 by_cases hk:1<=k/\k<=16
 ·have hc:k=1\/k=2\/k=3\/k=4\/k=5\/k=6\/k=7\/k=8\/k=9\/k=10\/k=11\/k=12\/k=13\/k=14\/k=15\/k=16:=by omega
  have hx:(#[Value.int .i64 0,Value.int .i64 0,Value.int .i64 2,Value.int .i64 2,Value.int .i64 2,Value.int .i64 0,Value.int .i64 0,Value.int .i64 1,Value.int .i64 4,Value.int .i64 3,Value.int .i64 1,Value.int .i64 3,Value.int .i64 2,Value.int .i64 3,Value.int .i64 1,Value.int .i64 1]:Array Value)[k.toNat - 1]?=some (.int .i64 (aX k)):=by
   rcases hc with rfl|rfl|rfl|rfl|rfl|rfl|rfl|rfl|rfl|rfl|rfl|rfl|rfl|rfl|rfl|rfl<;>rfl
  obtain ⟨h1,h2⟩:=hk;have hb:(decide (1<=k) && decide (k<=16))=true:=by simp [h1,h2]
  clear hc;go_enter func113,ntmps113;go_wp2_with (go_at_call 36;refine (dM _ _ _ _).mono ?_;rintro e w' ⟨rfl,rfl⟩);go_ret;exact ⟨rfl,bw1⟩
 ·have hb:(decide (1<=k) && decide (k<=16))=false:=by
   rw [Bool.and_eq_false_iff,decide_eq_false_iff_not,decide_eq_false_iff_not];omega
  have hH:=aD hk;clear hk;go_enter func113,ntmps113;go_wp2_with (go_at_call 36;refine (dM _ _ _ _).mono ?_;rintro e w' ⟨rfl,rfl⟩);go_ret;exact ⟨cN (by have:=hH.out;unfold aX;repeat (rw [Aw Ac])),eI _ _⟩
def binds (k:Int):Bool:=k==3 || k==4 || k==13
def aN (k:Int)(i:Int):Int:=if i=1/\binds k=true then 1 else 0
theorem dA (k i:Int):0<=aN k i/\aN k i<=1:=by unfold aN;split<;>omega
theorem tJ (k:Int)(w:Bb):Calls prog 132 #[.int .i64 k] w λe w'=>e = .returned (.bool (binds k))/\w=w':=by
 by_cases h3:k=3
 ·subst h3;go_enter func132,ntmps132;go_wp2_with fail;go_ret;exact ⟨rfl,rfl⟩
 by_cases h4:k=4
 ·subst h4;go_enter func132,ntmps132;go_wp2_with fail;go_ret;exact ⟨rfl,rfl⟩
 have e3:(k==3)=false:=by simpa using h3
 have e4:(k==4)=false:=by simpa using h4
 have hz:binds k=(k==13):=by simp [binds,e3,e4]
 rw [hz];go_enter func132,ntmps132;go_wp2_with fail;go_ret;exact ⟨dE Ag,rfl⟩
theorem lQ (k i:Int)(w:Bb):Calls prog 108 #[.int .i64 k,.int .i64 i] w λe w'=>e = .returned (.int .i64 (aN k i))/\w=w':=by
 by_cases hi:i=1
 ·subst hi;cases hb:binds k with
  | false=>
   have hz:aN k 1=0:=by simp [aN,hb]
   rw [hz];go_enter func108,ntmps108;go_wp2_with (go_at_call 132;refine (tJ _ _).mono ?_;rw [hb];rintro e w1 ⟨rfl,rfl⟩);go_ret;exact ⟨rfl,rfl⟩
  | true=>
   have hz:aN k 1=1:=by simp [aN,hb]
   rw [hz];go_enter func108,ntmps108;go_wp2_with (go_at_call 132;refine (tJ _ _).mono ?_;rw [hb];rintro e w1 ⟨rfl,rfl⟩);go_ret;exact ⟨rfl,rfl⟩
 ·have e1:(i==1)=false:=by simpa using hi
  have hz:aN k i=0:=by simp [aN,hi]
  clear hi;rw [hz];go_enter func108,ntmps108;go_wp2_with fail;go_ret;exact ⟨rfl,rfl⟩
theorem wW (k i:Int)(w:Bb):Calls prog 75 #[.int .i64 k,.int .i64 i] w λe w'=>e = .returned (.bool (i==1 && binds k))/\w=w':=by
 by_cases hi:i=1
 ·subst hi;by_cases h3:k=3
  ·subst h3;go_enter func75,ntmps75;go_wp2_with fail;go_ret;exact ⟨rfl,rfl⟩
  by_cases h4:k=4
  ·subst h4;go_enter func75,ntmps75;go_wp2_with fail;go_ret;exact ⟨rfl,rfl⟩
  have e3:(k==3)=false:=by simpa using h3
  have e4:(k==4)=false:=by simpa using h4
  have hz:((1:Int)==1 && binds k)=(k==13):=by simp [binds,e3,e4]
  rw [hz];go_enter func75,ntmps75;go_wp2_with fail;go_ret;exact ⟨dE Ag,rfl⟩
 ·have e1:(i==1)=false:=by simpa using hi
  rw [e1,Bool.false_and];clear hi;go_enter func75,ntmps75;go_wp2_with fail;go_ret;exact ⟨rfl,rfl⟩
theorem nR (k i:Int)(w:Bb):Calls prog 44 #[.int .i64 k,.int .i64 i] w λe w'=>e = .returned (.int .i64 (aN k i))/\w=w':=by
 cases hb:(i==1 && binds k) with
 | false=>
  have hz:aN k i=0:=by
   unfold aN;rw [Aw];rintro ⟨h1,h2⟩;subst h1;simp [h2] at hb
  rw [hz];go_enter func44,ntmps44;go_wp2_with (go_at_call 75;refine (wW _ _ _).mono ?_;rw [hb];rintro e w1 ⟨rfl,rfl⟩);go_ret;exact ⟨rfl,rfl⟩
 | true=>
  have hz:aN k i=1:=by
   unfold aN;rw [Av];simpa using hb
  rw [hz];go_enter func44,ntmps44;go_wp2_with (go_at_call 75;refine (wW _ _ _).mono ?_;rw [hb];rintro e w1 ⟨rfl,rfl⟩);go_ret;exact ⟨rfl,rfl⟩
def shape:Nat->Tm->Bool
 | 0,_=>false
 | d+1,.mk k n ks=>aX k==(ks.length:Int) && decide (0<=n) && decide (n<=dL k) && ks.all (shape d)
theorem bH (d:Nat)(k n:Int)(ks:List Tm):shape (d+1) (.mk k n ks)=true↔aX k=(ks.length:Int)/\0<=n/\n<=dL k/\∀t,t∈ks->shape d t=true:=by
 simp only [shape,Bool.and_eq_true,beq_iff_eq,decide_eq_true_eq,List.all_eq_true,and_assoc]
theorem wI (d:Nat)(k n:Int)(ks:List Tm)(h:¬(aX k=(ks.length:Int)/\0<=n/\n<=dL k)):shape (d+1) (.mk k n ks)=false:=by
 cases e:shape (d+1) (.mk k n ks) with
 | false=>rfl
 | true=>have:=(bH d k n ks).1 e;exact absurd ⟨this.1,this.2.1,this.2.2.1⟩ h
theorem vA (d:Nat):∀(k n:Int) (ks:List Tm) (A:Ba) (c:Nat) (w:Bb),d<=1000->ks.length<=9223372036854775807->Rd w A 0 ks->
  Calls prog 72 #[.agg (Ro k n A ks.length c),.int .i64 d] w λe w'=>e = .returned (.bool (shape d (.mk k n ks)))/\Bw w w':=by
 induction d with
 | zero=>
  intro k n ks A c w hd hl hr;go_enter func72,ntmps72;go_wp2_with fail;refine aXu bw1 ?_;intro wx hb0;refine cW (λw'=>Bw wx w') (by kernel_rfl) (by kernel_rfl) (eI _ _).drew ?_;repeat (first|refine qS ?_|refine qO ?_)
  refine fT ?_;intro w2 hb2;go_wp2_with fail;go_ret;exact ⟨rfl,hb0.trans (hb2.mono hb0.size)⟩
 | succ d ih=>
  intro k n ks A c w hd hl hr;have hz:=aD (bH d k n ks);rw [show ((d+1:Nat):Int)=(d:Int)+1 from by omega];have q0:decide ((d:Int)+1<1)=false:=by simp;omega
  by_cases h1:aX k=(ks.length:Int)
  ·have q1:(aX k != (ks.length:Int))=false:=by simpa using h1
   by_cases h2:0<=n
   ·by_cases h3:n<=dL k
    ·have H:=aD (And.intro h1 (And.intro h2 h3));have q2:decide (n<0)=false:=by simp;omega
     have q3:decide (dL k<n)=false:=by simp;omega
     clear h1;go_enter func72,ntmps72;go_wp2_with fail;refine aU ?_;intro wx hwx;have hb0:Bw w wx:=by rw [hwx];exact bw1
     have hB:Blk wx w.heap.size (Ro k n A ks.length c):=by rw [hwx];exact Blk.new _ _ _
     have hrx:Rd wx A 0 ks:=by rw [hwx];exact hr.alloc _
     have r0:=hB.rule (i:=0) rfl;have r1:=hB.rule (i:=1) rfl;have r2:=hB.rule (i:=2) rfl;clear hwx;refine cW (λw'=>Bw wx w') (by kernel_rfl) (by kernel_rfl) (eI _ _).drew ?_;repeat (first|refine qS ?_|refine qO ?_|refine qM 100 (hc:=λw' hS'=>by exact nV _ _) (h:=?_)|refine qM 101 (hc:=λw' hS'=>by exact oE _ _) (h:=?_))
     refine fT ?_;intro w2 hb2;replace hB:=hB.keep hb2;replace hrx:=hrx.below hb2;replace hb0:=hb0.trans (hb2.mono hb0.size);clear r0 r1 r2 hb2;go_wp2_with fail;go_loopw [5] (λi wr=>∃j:Nat,j<=ks.length/\i = .int .i64 j/\Hid (∀t,t∈ks.take j->shape d t=true)/\Bw w2 wr) (λi _=>ks.length - (intOf i).toNat)
     case atStart=>exact ⟨0,Nat.zero_le _,rfl,aD Ag,eI _ _⟩
     case round=>
      obtain ⟨j,hj,rfl,hall,hb⟩:=hrel;replace hB:=hB.keep hb;have c2:=hB.at_ (i:=2) rfl;by_cases hlt:j<ks.length
      ·obtain ⟨b,off,k1,n1,ks1,A1,c1,rfl,hkj,hc1,hc2,hc3,hl1,hr1⟩:=(hrx.below hb).at_ hlt;have H3:=aD hkj;clear hkj;go_wp2_with (go_at_call 72;refine (ih k1 n1 ks1 A1 c1 _ Ac hl1 hr1).mono ?_;rintro e w3 ⟨rfl,hb3⟩)
       ·go_ret;have hne:(!shape d (.mk k1 n1 ks1))=true:=by assumption
        refine ⟨dE ?_,hb0.trans ((hb.trans (hb3.mono hb.size)).mono hb0.size)⟩;cases e:shape (d+1) (.mk k n ks) with
        | false=>rfl
        | true=>
         have:=(hz.out.1 e).2.2.2 ks[j] (gM hlt);rw [H3.out] at this;rw [this] at hne;cases hne
       ·have hne:(!shape d (.mk k1 n1 ks1))=false:=by assumption
        go_roundw
        case rel=>
         refine ⟨j+1,by omega,by go_num,aD ?_,hb.trans (hb3.mono hb.size)⟩;rw [tM hlt,H3.out];intro t ht;rcases List.mem_append.1 ht with ht|ht
         ·exact hall.out t ht
         ·simp only [List.mem_singleton] at ht;subst ht;simpa using hne
        case measure=>simp [intOf];omega
      ·go_wp2_with fail;go_ret;have hjl:j=ks.length:=by omega
       have hall':=hall.out;rw [hjl,List.take_length] at hall';exact ⟨dE (hz.out.2 ⟨H.out.1,H.out.2.1,H.out.2.2,hall'⟩).symm,hb0.trans (hb.mono hb0.size)⟩
    ·have H:=aD h3;have q2:decide (n<0)=false:=by simp;omega
     have q3:decide (dL k<n)=true:=by simp;omega
     clear h1;go_enter func72,ntmps72;go_wp2_with fail;refine aU ?_;intro wx hwx;have hb0:Bw w wx:=by rw [hwx];exact bw1
     have hB:Blk wx w.heap.size (Ro k n A ks.length c):=by rw [hwx];exact Blk.new _ _ _
     have hrx:Rd wx A 0 ks:=by rw [hwx];exact hr.alloc _
     have r0:=hB.rule (i:=0) rfl;have r1:=hB.rule (i:=1) rfl;have r2:=hB.rule (i:=2) rfl;clear hwx;refine cW (λw'=>Bw wx w') (by kernel_rfl) (by kernel_rfl) (eI _ _).drew ?_;repeat (first|refine qS ?_|refine qO ?_|refine qM 100 (hc:=λw' hS'=>by exact nV _ _) (h:=?_)|refine qM 101 (hc:=λw' hS'=>by exact oE _ _) (h:=?_))
     refine fT ?_;intro w2 hb2;replace hB:=hB.keep hb2;replace hrx:=hrx.below hb2;replace hb0:=hb0.trans (hb2.mono hb0.size);clear r0 r1 r2 hb2;go_wp2_with fail;go_ret;exact ⟨dE (wI _ _ _ _ (by have:=H.out;omega)).symm,hb0⟩
   ·have H:=aD h2;have q2:decide (n<0)=true:=by simp;omega
    clear h1;go_enter func72,ntmps72;go_wp2_with fail;refine aU ?_;intro wx hwx;have hb0:Bw w wx:=by rw [hwx];exact bw1
    have hB:Blk wx w.heap.size (Ro k n A ks.length c):=by rw [hwx];exact Blk.new _ _ _
    have hrx:Rd wx A 0 ks:=by rw [hwx];exact hr.alloc _
    have r0:=hB.rule (i:=0) rfl;have r1:=hB.rule (i:=1) rfl;have r2:=hB.rule (i:=2) rfl;clear hwx;refine cW (λw'=>Bw wx w') (by kernel_rfl) (by kernel_rfl) (eI _ _).drew ?_;repeat (first|refine qS ?_|refine qO ?_|refine qM 100 (hc:=λw' hS'=>by exact nV _ _) (h:=?_)|refine qM 101 (hc:=λw' hS'=>by exact oE _ _) (h:=?_))
    refine fT ?_;intro w2 hb2;replace hB:=hB.keep hb2;replace hrx:=hrx.below hb2;replace hb0:=hb0.trans (hb2.mono hb0.size);clear r0 r1 r2 hb2;go_wp2_with fail;go_ret;exact ⟨dE (wI _ _ _ _ (by have:=H.out;omega)).symm,hb0⟩
  ·have q1:(aX k != (ks.length:Int))=true:=by simpa using h1
   have H:=aD h1;clear h1;go_enter func72,ntmps72;go_wp2_with fail;refine aU ?_;intro wx hwx;have hb0:Bw w wx:=by rw [hwx];exact bw1
   have hB:Blk wx w.heap.size (Ro k n A ks.length c):=by rw [hwx];exact Blk.new _ _ _
   have hrx:Rd wx A 0 ks:=by rw [hwx];exact hr.alloc _
   have r0:=hB.rule (i:=0) rfl;have r1:=hB.rule (i:=1) rfl;have r2:=hB.rule (i:=2) rfl;clear hwx;refine cW (λw'=>Bw wx w') (by kernel_rfl) (by kernel_rfl) (eI _ _).drew ?_;repeat (first|refine qS ?_|refine qO ?_|refine qM 100 (hc:=λw' hS'=>by exact nV _ _) (h:=?_)|refine qM 101 (hc:=λw' hS'=>by exact oE _ _) (h:=?_))
   refine fT ?_;intro w2 hb2;replace hB:=hB.keep hb2;replace hrx:=hrx.below hb2;replace hb0:=hb0.trans (hb2.mono hb0.size);clear r0 r1 r2 hb2;go_wp2_with fail;go_ret;exact ⟨dE (wI _ _ _ _ (by have:=H.out;omega)).symm,hb0⟩
theorem xV {B:Nat}{w0 w:Bb}{v:Value}{ts:List Tm}{t:Tm}{x1:List Value}{f1:List Nat}(hp:Part B w0 v ts)(hb:∀b,B<=b->b<w0.heap.size->w.heap[b]?=w0.heap[b]?)(hsz:w0.heap.size<=w.heap.size)(hB:B<=w0.heap.size)
  (ht : OwT w t x1 f1) (hn : f1.Nodup) (hf : ∀ b, b ∈ f1 -> w0.heap.size <= b) (hlen : ts.length <= 1099511627776) (ad : Addr) (c : Nat) (hc : ∀ j u, x1[j]? = some u -> w.cell? (ad.add j) = some u) (ty : TypeId) :
  ∃v' w',(Builtin.append_ #[29,29] ty #[v,.slice (some ad) 1 c]).run prog w = .ok v' w'/\Part B w' v' (ts++[t])/\Below B w w'/\w.grownBy w' v.ownBlock:=by
 obtain ⟨i,hi,hz,hz1,hz2⟩:=info_parts mJ;obtain ⟨xs,f,h1,h2,h3,h4,h5⟩:=hp;have hlt:∀g,v.ownBlock=some g->g<w0.heap.size:=λg hg=>(h1.lt g hg).2
 have hge:∀g,v.ownBlock=some g->B<=g:=λg hg=>(h1.lt g hg).1
 have hfl:=h2.lt;have k1:w.ownsRow B 32 3 v ts.length xs:=by
  refine ⟨h1.1,?_⟩;rcases h1.2 with hn|⟨g,cap,cur,rfl,hb',hg,r⟩
  ·exact .inl hn
  ·exact .inr ⟨g,cap,cur,rfl,hb',(hb g hb' (hlt g rfl)).trans hg,r⟩
 have k2:OwX w ts xs f:=h2.frame λb hbf=>hb b (h4 b hbf) (hfl b hbf)
 obtain ⟨v',w',hrun,hown,hg,_,hat⟩:=run_append_own_at (P:=prog) w B 29 ty 32 i _ 3 40 Tryz.underlying29 hi hz hz1 hz2 rfl Ac v ts.length xs k1 ad 1 c x1 ht.length hc ht.oneCell
  (by simp only [maxLen]; omega) Ac Ac
 have e1:∀b,b∈f->w'.heap[b]?=w.heap[b]?:=λb hbf=>hg.block b (by have:=hfl b hbf;omega) (λe=>h5 b e.symm hbf)
 have e2:∀b,b∈f1->w'.heap[b]?=w.heap[b]?:=λb hbf=>hg.block b (ht.lt b hbf) (λe=>by have:=hlt b e.symm;have:=hf b hbf;omega)
 refine ⟨v',w',hrun,⟨xs++x1,f++f1,by simpa using hown,(k2.frame e1).append (OwX.one (ht.frame e2)),?_,?_,?_⟩,⟨hg.os,hg.tape,hg.output,hg.size,λk hk=>hg.block k Ac (λe=>by have:=hge k e.symm;omega)⟩,hg⟩
 ·refine List.nodup_append.2 ⟨h3,hn,λx hx y hy e=>?_⟩;have:=hfl x hx;have:=hf y hy;omega
 ·intro b hbm;rcases List.mem_append.1 hbm with hbm|hbm
  ·exact h4 b hbm
  ·have:=hf b hbm;omega
 ·intro g hgo hgm;rcases hat with e|e<;>rw [e] at hgo
  ·rcases List.mem_append.1 hgm with hgm|hgm
   ·exact h5 g hgo hgm
   ·have:=hlt g hgo;have:=hf g hgm;omega
  ·injection hgo with hgo;subst hgo;rcases List.mem_append.1 hgm with hgm|hgm
   ·have:=hfl _ hgm;omega
   ·have:=ht.lt _ hgm;omega
section
variable {B:Nat}{w0 w1:Bb}{v:Value}{ts:List Tm}{k n:Int}{ks:List Tm}{A:Ba}{c:Nat}
theorem sV (hp:Part B w0 v ts)(hb:∀b,B<=b->b<w0.heap.size->w1.heap[b]?=w0.heap[b]?)(hs:w0.heap.size<=w1.heap.size)(hB:B<=w0.heap.size)(hfr:Fresh w0.heap.size w1 A ks)(hl:ks.length<=9223372036854775807)(hlen:ts.length<=1099511627776)(ty:TypeId) :
  ∃v' w',(Builtin.append_ #[29,29] ty #[v,.slice (some ⟨w1.heap.size,0,none⟩) 1 1]).run prog (w1.alloc (.cells (Ro k n A ks.length c) 32)) = .ok v' w'/\
   Part B w' v' (ts++[.mk k n ks])/\Below B w1 w'/\w1.grownBy w' v.ownBlock:=by
 obtain ⟨fp,h1,h2,h3⟩:=(hfr.alloc (.cells (Ro k n A ks.length c) 32));obtain ⟨v',w',r1,r2,r3,r4⟩:=xV (t:=.mk k n ks) (x1:=[.int .i64 k,.int .i64 n,.slice A ks.length c]) (f1:=fp) (c:=1) (ty:=ty) hp (λb h1 h2=>(Below.heap_alloc w1 _ b Ac).trans (hb b h1 h2)) Ai hB (OwT.iff.2 ⟨A,c,rfl,hl,h1⟩) h2 h3 hlen ⟨w1.heap.size,0,none⟩ (by
  intro j u hj;match j,hj with
  | 0,hj=>simp only [List.getElem?_cons_zero,Option.some.injEq] at hj;subst hj;simp [Addr.add]
  | 1,hj=>simp only [List.getElem?_cons_succ,List.getElem?_cons_zero,Option.some.injEq] at hj;subst hj;simp [Addr.add]
  | 2,hj=>simp only [List.getElem?_cons_succ,List.getElem?_cons_zero,Option.some.injEq] at hj;subst hj;simp [Addr.add])
 exact ⟨v',w',r1,r2,((eI _ _).alloc Ac _).trans r3,mQ (lS (nE _ _) _) r4⟩
theorem pZ (hp:Part B w0 v ts)(hb:∀b,B<=b->b<w0.heap.size->w1.heap[b]?=w0.heap[b]?)(hs:w0.heap.size<=w1.heap.size)(hB:B<=w0.heap.size)(hfr:Fresh w0.heap.size w1 A ks)(hl:ks.length<=9223372036854775807){m:Nat}(hm:ts.length=m)(hlen:m<=1099511627776)
  {ops:Array Oper} {rest:List Oper} {o:Oper} {a:Act} {Q:Exit->Act->Bb->Prop} (hgd:o.guard=none) (s x:Operand)
  (ho : o.op = .call { callee := .builtin .append, args := #[s, x], argTypes := #[29, 29] }) (hse : a.eval s = v) (hx : a.eval x = .slice (some ⟨w1.heap.size, 0, none⟩) 1 1)
  (h : ∀ A' c' w', Part B w' (.slice A' (m + 1) c') (ts ++ [.mk k n ks]) -> Below B w1 w' -> w1.grownBy w' v.ownBlock -> wpList prog ops Q rest (a.put o.dst (.slice A' (m + 1) c')) w') :
  wpList prog ops Q (o::rest) a (w1.alloc (.cells (Ro k n A ks.length c) 32)):=by
 subst hm;refine wpList_plain hgd λK hK=>?_
 obtain ⟨v',w',hrun,h2,h3,h4⟩:=sV (k:=k) (n:=n) (c:=c) hp hb hs hB hfr hl hlen o.type;unfold Oper.wp execOp;simp only [ho,resolve,invoke,builtin,Sem.run_bind,Sem.run_pure,Result.andThen_ok,List.map_toArray,List.map_cons,List.map_nil,hse,hx,hrun];obtain ⟨A',c',rfl⟩:=h2.shape;rw [List.length_append] at h2⊢;exact hK _ _ (h A' c' w' h2 h3 h4)
end
def aUe (m:Nat)(most r:Int):Prop:=1<=r/\r<=m/\(r=m\/most<r)
def aMk (m:Nat)(most:Int)(w:Bb)(e:Ending)(w':Bb):Prop:=∃r:Int,e = .returned (.int .i64 r)/\aUe m most r/\Bw w w'
theorem lO (ks:List Tm)(j:Nat)(hj:j<ks.length):aG (ks.take (j+1))=aG (ks.take j)+ks[j].size:=by
 rw [tM hj,sJ];simp [aG]
theorem eP (ks:List Tm)(j:Nat):aG (ks.take j)<=aG ks:=by
 have:=sJ (ks.take j) (ks.drop j);rw [List.take_append_drop] at this;omega
theorem aEv (N:Nat):∀(k n:Int) (ks:List Tm) (A:Ba) (c:Nat) (most:Int) (w:Bb),aG ks<N->aG ks<=1099511627776->-1099511627776<=most->most<=1099511627776->Rd w A 0 ks->
  Calls prog 73 #[.agg (Ro k n A ks.length c),.int .i64 most] w (aMk (aG ks+1) most w):=by
 induction N with
 | zero=>intro k n ks A c most w hN;exact absurd hN (Nat.not_lt_zero _)
 | succ N ih=>
 intro k n ks A c most w hN hM hlo hhi hr;have hlen:=aJ ks;go_enter func73,ntmps73;go_wp2_with fail;go_loopw [5,6] (λa i wr=>∃(j:Nat) (acc:Int),j<=ks.length/\i = .int .i64 j/\a = .int .i64 acc/\1<=acc/\acc<=1+aG (ks.take j)/\Hid (acc=1+aG (ks.take j)\/most<acc)/\Blk wr w.heap.size (Ro k n A ks.length c)/\Bw w wr)
  (λ_ i _ => ks.length - (intOf i).toNat)
 case atStart=>exact ⟨0,1,Nat.zero_le _,rfl,rfl,by omega,by simp [aG],aD (by simp [aG]),Blk.new _ _ _,bw1⟩
 case round=>
  obtain ⟨j,acc,hj,rfl,rfl,ha1,ha2,ha3,hB,hb⟩:=hrel;have c2:=hB.at_ (i:=2) rfl;have hsl:=eP ks j;by_cases hlt:j<ks.length
  ·by_cases hm:acc<=most
   ·obtain ⟨b,off,k1,n1,ks1,A1,c1,rfl,hkj,hc1,hc2,hc3,hl1,hr1⟩:=(hr.below hb).at_ hlt;have hst:=lO ks j hlt;have hsz:=cG (gM hlt);rw [hkj] at hsz hst;simp only [Tm.size] at hsz hst;have H3:=aD hst;clear hkj hst;go_wp2_with (go_at_call 73;refine (ih k1 n1 ks1 A1 c1 _ _ Ac Ac Ac Ac hr1).mono ?_;rintro e w3 ⟨r,rfl,⟨hr1,hr2,hr3⟩,hb3⟩;have hr3':=aD hr3;clear hr3);go_roundw
    case rel=>
     refine ⟨j+1,acc+r,by omega,by go_num,rfl,by omega,by rw [H3.out];have:=ha3.out;omega,aD ?_,hB.keep hb3,hb.trans (hb3.mono hb.size)⟩;rw [H3.out];have h1:=ha3.out;have h2:=hr3'.out;omega
    case measure=>simp [intOf];omega
   ·go_wp2_with fail;go_ret;exact ⟨acc,rfl,⟨ha1,by omega,Or.inr Ac⟩,hb⟩
  ·go_wp2_with fail;go_ret;have h1:=ha3.out;have hjl:j=ks.length:=by omega
   rw [hjl,List.take_length] at h1 ha2;exact ⟨acc,rfl,⟨ha1,by omega,by omega⟩,hb⟩
def aE (t:Tm):Bool:=shape 30 t && decide (t.size<=400)
theorem aR (k n:Int)(ks:List Tm)(A:Ba)(c:Nat)(w:Bb)(hM:aG ks<=1099511627775)(hr:Rd w A 0 ks) :
  Calls prog 41 #[.agg (Ro k n A ks.length c)] w λe w'=>e = .returned (.bool (aE (.mk k n ks)))/\Bw w w':=by
 have hlen:=aJ ks;cases hs:shape 30 (.mk k n ks) with
 | false=>
  have hv:aE (.mk k n ks)=false:=by simp [aE,hs]
  rw [hv];go_enter func41,ntmps41;go_wp2_with (go_at_call 72;refine (vA 30 k n ks A c _ Ac Ac (hr.alloc _)).mono ?_;rintro e w1 ⟨rfl,hb1⟩;obtain ⟨hc,hf⟩:=aOq hb1);go_ret;exact ⟨rfl,bw1.trans (hb1.mono Ag)⟩
 | true=>
  have hv:aE (.mk k n ks)=decide (aG ks+1<=400):=by simp [aE,hs,Tm.size]
  rw [hv];go_enter func41,ntmps41;go_wp2_with (first|(go_at_call 72;refine (vA 30 k n ks A c _ Ac Ac (hr.alloc _)).mono ?_;rintro e w1 ⟨rfl,hb1⟩;obtain ⟨hc,hf⟩:=aOq hb1)|(go_at_call 73;refine (aEv (aG ks+1) k n ks A c 400 _ Ac Ac Ac Ac ((hr.alloc _).below hb1)).mono ?_;rintro e w2 ⟨r,rfl,⟨hr1,hr2,hr3⟩,hb2⟩;have hr3':=aD hr3;clear hr3));go_ret;have h3:=hr3'.out;exact ⟨dE (by rw [decide_eq_decide];omega),bw1.trans ((hb1.trans (hb2.mono hb1.size)).mono Ag)⟩
mutual
def gL:Tm->Tm->Bool
 | .mk k n ks,.mk k' n' ks'=>k==k' && n==n' && kW ks ks'
def kW:List Tm->List Tm->Bool
 | [],[]=>true
 | t::ts,u::us=>gL t u && kW ts us
 | _,_=>false
end
theorem tmEq_both:(∀t u,gL t u=true↔t=u)/\(∀ts us,kW ts us=true↔ts=us):=by
 refine bA (λk n ks ih u=>?_) (λus=>?_) (λt ts h1 h2 us=>?_)
 ·obtain ⟨k',n',ks'⟩:=u;simp only [gL,Bool.and_eq_true,beq_iff_eq,ih,Tm.mk.injEq,and_assoc]
 ·cases us<;>simp [kW]
 ·cases us with
  | nil=>simp [kW]
  | cons u us=>simp only [kW,Bool.and_eq_true,h1,h2,List.cons.injEq]
theorem tmEq_iff {t u:Tm}:gL t u=true↔t=u:=tmEq_both.1 t u
theorem tmsEq_iff {ts us:List Tm}:kW ts us=true↔ts=us:=tmEq_both.2 ts us
theorem nA (t:Tm):gL t t=true:=tmEq_iff.2 rfl
theorem lW (ts:List Tm):kW ts ts=true:=tmsEq_iff.2 rfl
theorem iM {ts us:List Tm}(h:ts≠us):kW ts us=false:=by
 cases e:kW ts us with
 | false=>rfl
 | true=>exact absurd (tmsEq_iff.1 e) h
def RdX (p:Nat->Prop)(w:Bb):List Tm->List Value->Prop
 | [],xs=>xs=[]
 | .mk k n ks::ts,xs=>∃A c ys,xs = .int .i64 k :: .int .i64 n :: .slice A ks.length c::ys/\ks.length<=9223372036854775807/\RdP p w A 0 ks/\RdX p w ts ys
theorem RdX.keep {p q:Nat->Prop}{w w':Bb}(hq:∀b,p b->q b)(hk:∀b,p b->b<w.heap.size->w'.heap[b]?=w.heap[b]?):∀{ts:List Tm} {xs:List Value},RdX p w ts xs->RdX q w' ts xs
 | [],xs,h=>h
 | .mk k n ks::ts,xs,h=>by
  obtain ⟨A,c,ys,e,hl,hr,hx⟩:=h;exact ⟨A,c,ys,e,hl,(hr.blocks hk).mono hq,hx.keep hq hk⟩
theorem RdX.append {p:Nat->Prop}{w:Bb}{us:List Tm}{y:List Value}(hu:RdX p w us y):∀{ts:List Tm} {xs:List Value},RdX p w ts xs->RdX p w (ts++us) (xs++y)
 | [],xs,h=>by have h:xs=[]:=h;subst h;exact hu
 | .mk k n ks::ts,xs,h=>by
  obtain ⟨A,c,ys,rfl,hl,hr,hx⟩:=h;exact ⟨A,c,ys++y,rfl,hl,hr,RdX.append hu hx⟩
theorem RdX.length {p:Nat->Prop}{w:Bb}:∀{ts:List Tm} {xs:List Value},RdX p w ts xs->xs.length=ts.length*3
 | [],xs,h=>by have h:xs=[]:=h;subst h;rfl
 | .mk k n ks::ts,xs,h=>by
  obtain ⟨A,c,ys,rfl,hl,hr,hx⟩:=h;have:=hx.length;simp only [List.length_cons];omega
theorem RdX.rd {p:Nat->Prop}{w:Bb}{g off:Nat}:∀{ts:List Tm} {xs:List Value} {i:Nat},RdX p w ts xs->(∀j u,xs[j]?=some u->w.cell? ⟨g,off+i*3+j,none⟩=some u)->Rd w (some ⟨g,off,none⟩) i ts
 | [],xs,i,_,_=>Rd.nil
 | .mk k n ks::ts,xs,i,h,hc=>by
  obtain ⟨A,c,ys,rfl,hl,hr,hx⟩:=h;refine Rd.cons_iff.2 ⟨⟨g,off,rfl,RdC.iff.2 ⟨hc 0 _ rfl,hc 1 _ rfl,A,c,hc 2 _ rfl,hl,hr.rd⟩⟩,hx.rd λj u hu=>?_⟩;have:=hc (j+3) u (by simpa using hu);rw [<- this];congr 2;omega
theorem RdX.rdp {p:Nat->Prop}{w:Bb}{g off:Nat}(hg:p g):∀{ts:List Tm} {xs:List Value} {i:Nat},RdX p w ts xs->(∀j u,xs[j]?=some u->w.cell? ⟨g,off+i*3+j,none⟩=some u)->RdP p w (some ⟨g,off,none⟩) i ts
 | [],xs,i,_,_=>RdP.nil
 | .mk k n ks::ts,xs,i,h,hc=>by
  obtain ⟨A,c,ys,rfl,hl,hr,hx⟩:=h;refine RdP.cons_iff.2 ⟨⟨g,off,rfl,RdPC.iff.2 ⟨hg,hc 0 _ rfl,hc 1 _ rfl,A,c,hc 2 _ rfl,hl,hr⟩⟩,hx.rdp hg λj u hu=>?_⟩;have:=hc (j+3) u (by simpa using hu);rw [<- this];congr 2;omega
def PB (lo:Nat->Prop)(B:Nat)(w:Bb)(v:Value)(b:Nat):Prop:=(lo b\/B<=b)/\b<w.heap.size/\v.ownBlock≠some b
def PartR (lo:Nat->Prop)(B:Nat)(w:Bb)(v:Value)(ts:List Tm):Prop:=
 ∃xs,w.ownsRow B 32 3 v ts.length xs/\RdX (PB lo B w v) w ts xs
section
variable {lo:Nat->Prop}{B:Nat}{w w':Bb}{v:Value}{ts:List Tm}
theorem PartR.nil:PartR lo B w (.slice none 0 0) []:=⟨[],World.ownsRow_nil _ _ _ _,rfl⟩
theorem PartR.below (h:PartR lo B w v ts)(hk:Bw w w'):PartR lo B w' v ts:=by
 obtain ⟨xs,h1,h2⟩:=h;refine ⟨xs,⟨h1.1,?_⟩,h2.keep (λb hb=>⟨hb.1,vM hb.2.1 hk.size,hb.2.2⟩) λb hb hl=>hk.block b hl⟩;rcases h1.2 with hn|⟨g,cap,cur,rfl,hb,hg,r⟩
 ·exact .inl hn
 ·exact .inr ⟨g,cap,cur,rfl,hb,(hk.block g (Array.getElem?_eq_some_iff.1 hg).1).trans hg,r⟩
theorem PartR.alloc (h:PartR lo B w v ts)(o:Obj):PartR lo B (w.alloc o) v ts:=h.below (bw1)
theorem PartR.setCell (h:PartR lo B w v ts){a:Addr}(ha:¬lo a.block/\a.block<B)(u:Value):PartR lo B (w.setCell a u) v ts:=by
 obtain ⟨xs,h1,h2⟩:=h;refine ⟨xs,⟨h1.1,?_⟩,h2.keep (λb hb=>⟨hb.1,by simpa using hb.2.1,hb.2.2⟩) λb hb hl=>sC w a u b (λe=>by subst e;exact hb.1.elim ha.1 (λh=>by omega))⟩;rcases h1.2 with hn|⟨g,cap,cur,rfl,hb,hg,r⟩
 ·exact .inl hn
 ·exact .inr ⟨g,cap,cur,rfl,hb,(sC w a u g Ac).trans hg,r⟩
theorem PartR.rd (h:PartR lo B w v ts):∃A c,v = .slice A ts.length c/\RdP (λb=>lo b\/B<=b) w A 0 ts:=by
 obtain ⟨xs,h1,h2⟩:=h;rcases h1.2 with ⟨rfl,h0⟩|⟨g,cap,cur,rfl,hb,hg,_,_,_,htk⟩
 ·have:ts=[]:=lEn h0;subst this;exact ⟨none,0,rfl,RdP.nil⟩
 ·refine ⟨_,_,rfl,RdX.rdp (.inr hb) (h2.keep (λb hb=>hb.1) λ_ _ _=>rfl) λj u hu=>?_⟩;rw [show 0+0*3+j=j by omega,cell_of_row w g j cur 32 (0,0) hg];have h3:=htk;rw [<- h3,List.getElem?_take] at hu;split at hu
  ·simpa using hu
  ·cases hu
theorem PartR.shape (h:PartR lo B w v ts):∃A c,v = .slice A ts.length c:=by
 obtain ⟨A,c,hv,_⟩:=h.rd;exact ⟨A,c,hv⟩
end
section
variable {lo:Nat->Prop}{B:Nat}{w:Bb}{v:Value}{ts:List Tm}{k n:Int}{ks:List Tm}{A:Ba}{c:Nat}{q:Nat->Prop}
theorem yM (hp:PartR lo B w v ts)(hB:B<=w.heap.size)(hr:RdP q w A 0 ks)(hq:∀b,q b->PB lo B w v b)(hl:ks.length<=9223372036854775807)(hlen:ts.length<=1099511627776)(ty:TypeId) :
  ∃v' w',(Builtin.append_ #[29,29] ty #[v,.slice (some ⟨w.heap.size,0,none⟩) 1 1]).run prog (w.alloc (.cells (Ro k n A ks.length c) 32)) = .ok v' w'/\
   PartR lo B w' v' (ts++[.mk k n ks])/\Below B w w'/\w.grownBy w' v.ownBlock:=by
 obtain ⟨i,hi,hz,hz1,hz2⟩:=info_parts mJ;obtain ⟨xs,k1,h2⟩:=hp.alloc (.cells (Ro k n A ks.length c) 32);have hge:∀g,v.ownBlock=some g->B<=g:=λg hg=>(k1.lt g hg).1
 obtain ⟨v',w',hrun,hown,hg,_,hat⟩:=run_append_own_at (P:=prog) (w.alloc (.cells (Ro k n A ks.length c) 32)) B 29 ty 32 i _ 3 40 Tryz.underlying29 hi hz hz1 hz2 rfl Ag v ts.length xs k1 ⟨w.heap.size,0,none⟩ 1 1 [.int .i64 k,.int .i64 n,.slice A ks.length c] rfl (by
  intro j u hj;match j,hj with
  | 0,hj=>simp only [List.getElem?_cons_zero,Option.some.injEq] at hj;subst hj;simp [Addr.add]
  | 1,hj=>simp only [List.getElem?_cons_succ,List.getElem?_cons_zero,Option.some.injEq] at hj;subst hj;simp [Addr.add]
  | 2,hj=>simp only [List.getElem?_cons_succ,List.getElem?_cons_zero,Option.some.injEq] at hj;subst hj;simp [Addr.add]) (by
  intro u hu;simp only [List.mem_cons,List.not_mem_nil,or_false] at hu;rcases hu with rfl|rfl|rfl<;>rfl) (by simp only [maxLen];omega) Ac Ai
 have hsz:w.heap.size+1<=w'.heap.size:=by have:=hg.size;simpa using this
 have hne:∀b,b<(w.alloc (.cells (Ro k n A ks.length c) 32)).heap.size->v.ownBlock≠some b->v'.ownBlock≠some b:=by
  intro b hb hv e;rcases hat with e'|e'
  ·exact hv (e'.symm.trans e)
  ·rw [e'] at e;injection e with e;omega
 have hst:∀b,PB lo B (w.alloc (.cells (Ro k n A ks.length c) 32)) v b->PB lo B w' v' b:=λb hb=>⟨hb.1,by have:=hb.2.1;have:=hg.size;omega,hne b hb.2.1 hb.2.2⟩
 have hkp:∀b,PB lo B (w.alloc (.cells (Ro k n A ks.length c) 32)) v b->b<(w.alloc (.cells (Ro k n A ks.length c) 32)).heap.size->w'.heap[b]?=(w.alloc (.cells (Ro k n A ks.length c) 32)).heap[b]?:=λb hb hl=>hg.block b hl (λe=>hb.2.2 e.symm)
 have hr':RdP (PB lo B w' v') w' A 0 ks:=(((hr.alloc (.cells (Ro k n A ks.length c) 32)).mono (q:=PB lo B (w.alloc (.cells (Ro k n A ks.length c) 32)) v) (λb hb=>⟨(hq b hb).1,by have:=(hq b hb).2.1;simp;omega,(hq b hb).2.2⟩)).blocks hkp).mono hst;refine ⟨v',w',hrun,⟨xs++[.int .i64 k,.int .i64 n,.slice A ks.length c],by simpa using hown,RdX.append (show RdX (PB lo B w' v') w' [.mk k n ks] _ from ⟨A,c,[],rfl,hl,hr',rfl⟩) (h2.keep hst hkp)⟩,?_,mQ (lS (nE _ _) _) hg⟩;exact ((eI _ _).alloc hB _).trans ⟨hg.os,hg.tape,hg.output,hg.size,λk hk=>hg.block k Ai (λe=>by have:=hge k e.symm;omega)⟩
theorem jU (hp:PartR lo B w v ts)(hB:B<=w.heap.size)(hr:RdP q w A 0 ks)(hq:∀b,q b->PB lo B w v b)(hl:ks.length<=9223372036854775807){m:Nat}(hm:ts.length=m)(hlen:m<=1099511627776)
  {ops:Array Oper} {rest:List Oper} {o:Oper} {a:Act} {Q:Exit->Act->Bb->Prop} (hgd:o.guard=none) (s x:Operand)
  (ho : o.op = .call { callee := .builtin .append, args := #[s, x], argTypes := #[29, 29] }) (hse : a.eval s = v) (hx : a.eval x = .slice (some ⟨w.heap.size, 0, none⟩) 1 1)
  (h : ∀ A' c' w', PartR lo B w' (.slice A' (m + 1) c') (ts ++ [.mk k n ks]) -> Below B w w' -> w.grownBy w' v.ownBlock -> wpList prog ops Q rest (a.put o.dst (.slice A' (m + 1) c')) w') :
  wpList prog ops Q (o::rest) a (w.alloc (.cells (Ro k n A ks.length c) 32)):=by
 subst hm;refine wpList_plain hgd λK hK=>?_
 obtain ⟨v',w',hrun,h2,h3,h4⟩:=yM (k:=k) (n:=n) (c:=c) hp hB hr hq hl hlen o.type;unfold Oper.wp execOp;simp only [ho,resolve,invoke,builtin,Sem.run_bind,Sem.run_pure,Result.andThen_ok,List.map_toArray,List.map_cons,List.map_nil,hse,hx,hrun];obtain ⟨A',c',rfl⟩:=h2.shape;rw [List.length_append] at h2⊢;exact hK _ _ (h A' c' w' h2 h3 h4)
end
theorem RdX.set {p:Nat->Prop}{w:Bb}{ku nu:Int}{us:List Tm}{U:Ba}{cu:Nat}(hl:us.length<=9223372036854775807)(hu:RdP p w U 0 us):∀{ts:List Tm} {xs:List Value} {i:Nat},RdX p w ts xs->i<ts.length->
  RdX p w (ts.set i (.mk ku nu us)) (((xs.set (i*3) (.int .i64 ku)).set (i*3+1) (.int .i64 nu)).set (i*3+2) (.slice U us.length cu))
 | [],_,_,_,h=>absurd h (Nat.not_lt_zero _)
 | .mk k n ks::ts,xs,0,h,_=>by
  obtain ⟨A,c,ys,rfl,hl1,hr,hx⟩:=h;exact ⟨U,cu,ys,rfl,hl,hu,hx⟩
 | .mk k n ks::ts,xs,i+1,h,hi=>by
  obtain ⟨A,c,ys,rfl,hl1,hr,hx⟩:=h;refine ⟨A,c,_,?_,hl1,hr,RdX.set (cu:=cu) hl hu hx (Nat.lt_of_succ_lt_succ hi)⟩;rw [show (i+1)*3=i*3+3 from by omega,show i*3+3+1=(i*3+1)+3 from by omega,show i*3+3+2=(i*3+2)+3 from by omega];rfl
def RowS (p:Nat->Prop)(w:Bb)(g:Nat)(ts:List Tm):Prop:=
 ∃(cur:Array Value) (xs:List Value),Blk w g cur/\(∀(j:Nat) (u:Value),xs[j]?=some u->cur[j]?=some u)/\RdX p w ts xs
section
variable {p:Nat->Prop}{w w':Bb}{g:Nat}{ts:List Tm}
theorem RowS.lt (h:RowS p w g ts):g<w.heap.size:=by obtain ⟨_,_,h,_⟩:=h;exact h.lt
theorem RowS.frozen (h:RowS p w g ts)(j:Nat):w.frozen? ⟨g,j,none⟩=false:=by obtain ⟨_,_,h,_⟩:=h;exact h.frozen j
theorem RowS.cell (h:RowS p w g ts){j:Nat}(hj:j<ts.length*3):∃u,w.cell? ⟨g,j,none⟩=some u:=by
 obtain ⟨cur,xs,hB,hcl,h2⟩:=h;have hxl:=h2.length;exact ⟨xs[j]' Ac,hB.at_ (hcl j _ (sE Ac))⟩
theorem RowS.below (h:RowS p w g ts)(hb:Bw w w')(hp:∀b,p b->b<w.heap.size):RowS p w' g ts:=by
 obtain ⟨cur,xs,hB,hcl,h2⟩:=h;exact ⟨cur,xs,hB.keep hb,hcl,h2.keep (λ_ h=>h) λb hb' _=>hb.block b (hp b hb')⟩
theorem RowS.setCell (h:RowS p w g ts){a:Addr}(ha:¬p a.block)(hg:g≠a.block)(u:Value):RowS p (w.setCell a u) g ts:=by
 obtain ⟨cur,xs,hB,hcl,h2⟩:=h;exact ⟨cur,xs,hB.far hg u,hcl,h2.keep (λ_ h=>h) λb hb' _=>sC w a u b (λe=>ha (e▸hb'))⟩
theorem RowS.set (h:RowS p w g ts)(hpg:¬p g){i:Nat}(hi:i<ts.length){ku nu:Int}{us:List Tm}{U:Ba}{cu:Nat}(hl:us.length<=9223372036854775807){q r:Nat->Prop}(hu:RdP q w U 0 us)(hq:¬q g)(hr1:∀b,p b->r b)(hr2:∀b,q b->r b)(hrg:r g) :
  RdP r (((w.setCell ⟨g,i*3,none⟩ (.int .i64 ku)).setCell ⟨g,i*3+1,none⟩ (.int .i64 nu)).setCell ⟨g,i*3+2,none⟩ (.slice U us.length cu)) (some ⟨g,0,none⟩) 0 (ts.set i (.mk ku nu us)):=by
 obtain ⟨cur,xs,hB1,hcl,h2⟩:=h;have hxl:=h2.length;have h3:RdX (λb=>b≠g/\r b) w ts xs:=h2.keep (λb hb=>⟨λ(e:b=g)=>hpg (e▸hb),hr1 b hb⟩) λ_ _ _=>rfl
 have h4:=RdX.set (ku:=ku) (nu:=nu) (cu:=cu) hl (hu.mono (q:=λb=>b≠g/\r b) λb hb=>⟨λ(e:b=g)=>hq (e▸hb),hr2 b hb⟩) h3 hi;have hset:=((hB1.set_ (i*3) (.int .i64 ku)).set_ (i*3+1) (.int .i64 nu)).set_ (i*3+2) (.slice U us.length cu);refine RdX.rdp hrg (h4.keep (q:=r) (λ_ h=>h.2) λb hb hl=>?_) λj u hu2=>?_
 ·rw [sC _ _ _ b (by simpa using hb.1),sC _ _ _ b (by simpa using hb.1),sC _ _ _ b (by simpa using hb.1)]
 ·rw [show 0+0*3+j=j from by omega];refine hset.at_ ?_;have hcs':∀j,j<xs.length->j<cur.size:=λj hj=>by
   have:=hcl j _ (sE hj);exact (Array.getElem?_eq_some_iff.1 this).1
  rw [Array.getElem?_setIfInBounds,Array.getElem?_setIfInBounds,Array.getElem?_setIfInBounds];rw [List.getElem?_set,List.getElem?_set,List.getElem?_set] at hu2;simp only [List.length_set] at hu2;have hb2:i*3+2<xs.length:=by omega
  have c0:=hcs' (i*3) Ac;have c1:=hcs' (i*3+1) Ac;have c2:=hcs' (i*3+2) Ac;simp only [Array.size_setIfInBounds];by_cases j2:i*3+2=j
  ·rw [Av j2] at hu2⊢;rw [Av Ac] at hu2;rw [Av Ac];exact hu2
  ·rw [Aw j2] at hu2⊢;by_cases j1:i*3+1=j
   ·rw [Av j1] at hu2⊢;rw [Av Ac] at hu2;rw [Av Ac];exact hu2
   ·rw [Aw j1] at hu2⊢;by_cases j0:i*3=j
    ·rw [Av j0] at hu2⊢;rw [Av Ac] at hu2;rw [Av Ac];exact hu2
    ·rw [Aw j0] at hu2⊢;exact hcl j u hu2
def RowT (p:Nat->Prop)(w:Bb)(g:Nat)(ts:List Tm):Prop:=RowS p w g ts/\∀b,p b->b<w.heap.size
theorem RowT.below (h:RowT p w g ts)(hb:Bw w w'):RowT p w' g ts:=⟨h.1.below hb h.2,λb hp=>vM (h.2 b hp) hb.size⟩
theorem RowT.setCell (h:RowT p w g ts){a:Addr}(ha:¬p a.block)(hg:g≠a.block)(u:Value):RowT p (w.setCell a u) g ts:=⟨h.1.setCell ha hg u,λb hb=>by simpa using h.2 b hb⟩
end
theorem PartR.rowS {lo:Nat->Prop}{B:Nat}{w:Bb}{A:Ba}{n c:Nat}{ts:List Tm}(h:PartR lo B w (.slice A n c) ts)(hi:0<ts.length) :
  ∃g,A=some ⟨g,0,none⟩/\n=ts.length/\B<=g/\g<w.heap.size/\RowT (λb=>(lo b\/B<=b)/\b<w.heap.size/\b≠g) w g ts:=by
 obtain ⟨xs,h1,h2⟩:=h;rcases h1.2 with ⟨e,h0⟩|⟨g,cap,cur,e,hb,hg,hn,hmx,hcs,htk⟩
 ·omega
 ·injection e with e1 e2 e3;subst e1 e2 e3;have hB:Blk w g cur:=⟨32,hg⟩;refine ⟨g,rfl,rfl,hb,hB.lt,⟨cur,xs,hB,λj u hu=>?_,h2.keep (λb hb=>⟨hb.1,hb.2.1,λe=>hb.2.2 (by rw [e];rfl)⟩) λ_ _ _=>rfl⟩,λb hb=>hb.2.1⟩;rw [<- htk,List.getElem?_take] at hu;split at hu
  ·simpa using hu
  ·cases hu
theorem aBg {p:Nat->Prop}{w:Bb}{b off:Nat}:∀{ts:List Tm} {i:Nat},RdP p w (some ⟨b,off,none⟩) i ts->∃xs,RdX p w ts xs/\∀j u,xs[j]?=some u->w.cell? ⟨b,off+i*3+j,none⟩=some u
 | [],i,_=>⟨[],rfl,λj u h=>by simp at h⟩
 | .mk k n ks::ts,i,h=>by
  obtain ⟨⟨b',off',hA,hc⟩,hr⟩:=RdP.cons_iff.1 h;injection hA with hA;injection hA with h1 h2;subst h1 h2;obtain ⟨hp,c0,c1,A,c,c2,hl,hk⟩:=RdPC.iff.1 hc;obtain ⟨xs,hx,hcx⟩:=aBg hr;refine ⟨.int .i64 k :: .int .i64 n :: .slice A ks.length c::xs,⟨A,c,xs,rfl,hl,hk,hx⟩,λj u hj=>?_⟩;match j,hj with
  | 0,hj=>simp only [List.getElem?_cons_zero,Option.some.injEq] at hj;subst hj;exact c0
  | 1,hj=>simp only [List.getElem?_cons_succ,List.getElem?_cons_zero,Option.some.injEq] at hj;subst hj;exact c1
  | 2,hj=>simp only [List.getElem?_cons_succ,List.getElem?_cons_zero,Option.some.injEq] at hj;subst hj;exact c2
  | j+3,hj=>
   simp only [List.getElem?_cons_succ] at hj;have:=hcx j u hj;rw [<- this];congr 2;omega
theorem RdX.oneC {p:Nat->Prop}{w:Bb}:∀{ts:List Tm} {xs:List Value},RdX p w ts xs->∀u,u∈xs->u.oneCell'=true
 | [],xs,h,u,hu=>by have h:xs=[]:=h;subst h;cases hu
 | .mk k n ks::ts,xs,h,u,hu=>by
  obtain ⟨A,c,ys,rfl,hl,hr,hx⟩:=h;simp only [List.mem_cons] at hu;rcases hu with rfl|rfl|rfl|hu
  ·rfl
  ·rfl
  ·rfl
  ·exact hx.oneC u hu
section
variable {lo:Nat->Prop}{B:Nat}{w:Bb}{v:Value}{ts:List Tm}{k n:Int}{ks:List Tm}{A:Ba}{c:Nat}{q:Nat->Prop}
theorem wO (hp:PartR lo B w v ts)(hB:B<=w.heap.size)(hr:RdP q w A 0 ks)(hq:∀b,q b->PB lo B w v b)(hl:ks.length<=9223372036854775807)(hlen:ts.length<=1099511627776)(g cc:Nat)
  (hb : Blk w g (Ro k n A ks.length c)) (ty : TypeId) :
  ∃v' w',(Builtin.append_ #[29,29] ty #[v,.slice (some ⟨g,0,none⟩) 1 cc]).run prog w = .ok v' w'/\
   PartR lo B w' v' (ts++[.mk k n ks])/\Below B w w'/\w.grownBy w' v.ownBlock/\∀b,b<w.heap.size->v.ownBlock≠some b->v'.ownBlock≠some b:=by
 obtain ⟨i,hi,hz,hz1,hz2⟩:=info_parts mJ;obtain ⟨xs,k1,h2⟩:=hp;have hge:∀g,v.ownBlock=some g->B<=g:=λg hg=>(k1.lt g hg).1
 obtain ⟨c0,c1,c2⟩:w.cell? ⟨g,0,none⟩=some (.int .i64 k)/\w.cell? ⟨g,1,none⟩=some (.int .i64 n)/\w.cell? ⟨g,2,none⟩=some (.slice A ks.length c):=⟨hb.at_ (i:=0) rfl,hb.at_ (i:=1) rfl,hb.at_ (i:=2) rfl⟩;obtain ⟨v',w',hrun,hown,hg,_,hat⟩:=run_append_own_at (P:=prog) w B 29 ty 32 i _ 3 40 Tryz.underlying29 hi hz hz1 hz2 rfl Ac v ts.length xs k1 ⟨g,0,none⟩ 1 cc [.int .i64 k,.int .i64 n,.slice A ks.length c] rfl (by
  intro j u hj;match j,hj with
  | 0,hj=>simp only [List.getElem?_cons_zero,Option.some.injEq] at hj;subst hj;simpa [Addr.add] using c0
  | 1,hj=>simp only [List.getElem?_cons_succ,List.getElem?_cons_zero,Option.some.injEq] at hj;subst hj;simpa [Addr.add] using c1
  | 2,hj=>simp only [List.getElem?_cons_succ,List.getElem?_cons_zero,Option.some.injEq] at hj;subst hj;simpa [Addr.add] using c2) (by
  intro u hu;simp only [List.mem_cons,List.not_mem_nil,or_false] at hu;rcases hu with rfl|rfl|rfl<;>rfl) (by simp only [maxLen];omega) Ac Ac
 have hsz:=hg.size;have hne:∀b,b<w.heap.size->v.ownBlock≠some b->v'.ownBlock≠some b:=by
  intro b hb hv e;rcases hat with e'|e'
  ·exact hv (e'.symm.trans e)
  ·rw [e'] at e;injection e with e;omega
 have hst:∀b,PB lo B w v b->PB lo B w' v' b:=λb hb=>⟨hb.1,by have:=hb.2.1;omega,hne b hb.2.1 hb.2.2⟩
 have hkp:∀b,PB lo B w v b->b<w.heap.size->w'.heap[b]?=w.heap[b]?:=λb hb hl=>hg.block b hl (λe=>hb.2.2 e.symm)
 have hr':RdP (PB lo B w' v') w' A 0 ks:=((hr.mono (q:=PB lo B w v) hq).blocks hkp).mono hst;refine ⟨v',w',hrun,⟨xs++[.int .i64 k,.int .i64 n,.slice A ks.length c],by simpa using hown,RdX.append (show RdX (PB lo B w' v') w' [.mk k n ks] _ from ⟨A,c,[],rfl,hl,hr',rfl⟩) (h2.keep hst hkp)⟩,?_,hg,hne⟩;exact ⟨hg.os,hg.tape,hg.output,hg.size,λk hk=>hg.block k Ac (λe=>by have:=hge k e.symm;omega)⟩
theorem bP (hp:PartR lo B w v ts)(hB:B<=w.heap.size)(hr:RdP q w A 0 ks)(hq:∀b,q b->PB lo B w v b)(hl:ks.length<=9223372036854775807){m:Nat}(hm:ts.length=m)(hlen:m<=1099511627776)(g cc:Nat)
  (hb : Blk w g (Ro k n A ks.length c))
  {ops:Array Oper} {rest:List Oper} {o:Oper} {a:Act} {Q:Exit->Act->Bb->Prop} (hgd:o.guard=none) (s x:Operand)
  (ho : o.op = .call { callee := .builtin .append, args := #[s, x], argTypes := #[29, 29] }) (hse : a.eval s = v) (hx : a.eval x = .slice (some ⟨g, 0, none⟩) 1 cc)
  (h : ∀ A' c' w', PartR lo B w' (.slice A' (m + 1) c') (ts ++ [.mk k n ks]) -> Below B w w' -> w.grownBy w' v.ownBlock -> (∀ b, b < w.heap.size -> v.ownBlock ≠ some b -> (Value.slice A' (m + 1) c').ownBlock ≠ some b) -> wpList prog ops Q rest (a.put o.dst (.slice A' (m + 1) c')) w') :
  wpList prog ops Q (o::rest) a w:=by
 subst hm;refine wpList_plain hgd λK hK=>?_
 obtain ⟨v',w',hrun,h2,h3,h4,h5⟩:=wO (k:=k) (n:=n) (c:=c) hp hB hr hq hl hlen g cc hb o.type;unfold Oper.wp execOp;simp only [ho,resolve,invoke,builtin,Sem.run_bind,Sem.run_pure,Result.andThen_ok,List.map_toArray,List.map_cons,List.map_nil,hse,hx,hrun];obtain ⟨A',c',rfl⟩:=h2.shape;rw [List.length_append] at h2⊢;exact hK _ _ (h A' c' w' h2 h3 h4 (by rw [List.length_append] at h5;exact h5))
end
section
variable {p:Nat->Prop}{w:Bb}{l:List Tm}{L:Ba}{cl g:Nat}
theorem uJ (hg:w.heap[g]?=some (.cells #[] 32 (0,0)))(hl:RdP p w L 0 l)(hp:∀b,p b->b<w.heap.size/\b≠g)(hlen:l.length<=1099511627776)(ty:TypeId) :
  ∃v' w',(Builtin.append_ #[29,29] ty #[.slice (some ⟨g,0,none⟩) 0 0,.slice L l.length cl]).run prog w = .ok v' w'/\PartR p g w' v' l/\w.grownBy w' (some g):=by
 have hgw:g<w.heap.size:=(Array.getElem?_eq_some_iff.1 hg).1;obtain ⟨i,hi,hz,hz1,hz2⟩:=info_parts mJ;have k1:w.ownsRow g 32 3 (.slice (some ⟨g,0,none⟩) 0 0) 0 []:=⟨by simp,.inr ⟨g,0,#[],rfl,mC _,hg,mC _,by simp [maxLen],by simp,by simp⟩⟩;cases l with
 | nil=>
  refine ⟨.slice (some ⟨g,0,none⟩) 0 0,w,run_append_nothing w 29 29 ty 32 i Tryz.underlying29 hi _ 0 0 (mC _) _ ⟨.inl ⟨32,Tryz.underlying29⟩,λw'=>by simp [Builtin.lenOf],by cases L<;>simp [Builtin.firstCells,loadCells,loadCellsFrom],by cases L<;>simp [Builtin.firstCells,loadCells,loadCellsFrom],by simp,λu hu=>by cases hu⟩,⟨[],k1,rfl⟩,nE _ _⟩
 | cons t ts=>
  obtain ⟨⟨b,off,rfl,_⟩,_⟩:=RdP.cons_iff.1 hl;obtain ⟨x1,hx,hc⟩:=aBg hl;obtain ⟨v',w',hrun,hown,hgr,_,hat⟩:=run_append_own_at (P:=prog) w g 29 ty 32 i _ 3 40 Tryz.underlying29 hi hz hz1 hz2 rfl Ac _ 0 [] k1 ⟨b,off,none⟩ (t::ts).length cl x1 hx.length (λj u hj=>by
    have:=hc j u hj;rw [show Addr.add ⟨b,off,none⟩ j=⟨b,off+0*3+j,none⟩ from by simp only [Addr.add];split<;>simp_all];exact this) hx.oneC (by simp only [maxLen];omega) Ac Ac
  rw [Nat.zero_add,List.nil_append] at hown;have hsz:=hgr.size;have hvo:∀b,b<w.heap.size->b≠g->v'.ownBlock≠some b:=by
   intro b hb hbg e;rcases hat with e'|e'
   ·rw [e'] at e;injection e with e;exact hbg e.symm
   ·rw [e'] at e;injection e with e;omega
  exact ⟨v',w',hrun,⟨x1,hown,hx.keep (λb hb=>⟨.inl hb,by have:=(hp b hb).1;omega,hvo b (hp b hb).1 (hp b hb).2⟩) λb hb hl=>hgr.block b hl (λe=>(hp b hb).2 (by injection e))⟩,hgr⟩
end
section
variable {p:Nat->Prop}{w:Bb}{l:List Tm}{L:Ba}{cl g:Nat}
theorem fA (hg:w.heap[g]?=some (.cells #[] 32 (0,0)))(hl:RdP p w L 0 l)(hp:∀b,p b->b<w.heap.size/\b≠g){m:Nat}(hm:l.length=m)(hlen:m<=1099511627776)
  {ops:Array Oper} {rest:List Oper} {o:Oper} {a:Act} {Q:Exit->Act->Bb->Prop} (hgd:o.guard=none) (s x:Operand)
  (ho : o.op = .call { callee := .builtin .append, args := #[s, x], argTypes := #[29, 29] }) (hs : a.eval s = .slice (some ⟨g, 0, none⟩) 0 0) (hx : a.eval x = .slice L m cl)
  (h : ∀ A' c' w', PartR p g w' (.slice A' m c') l -> w.grownBy w' (some g) -> wpList prog ops Q rest (a.put o.dst (.slice A' m c')) w') :
  wpList prog ops Q (o::rest) a w:=by
 subst hm;refine wpList_plain hgd λK hK=>?_
 obtain ⟨v',w',hrun,h2,h3⟩:=uJ (cl:=cl) hg hl hp hlen o.type;unfold Oper.wp execOp;simp only [ho,resolve,invoke,builtin,Sem.run_bind,Sem.run_pure,Result.andThen_ok,List.map_toArray,List.map_cons,List.map_nil,hs,hx,hrun];obtain ⟨A',c',rfl⟩:=h2.shape;exact hK _ _ (h A' c' w' h2 h3)
end
def aXy (p:Nat->Prop)(w:Bb)(ks:List Tm)(e:Ending)(w':Bb):Prop:=
 ∃A c,e = .returned (.slice A ks.length c)/\PartR p w.heap.size w' (.slice A ks.length c) ks/\Bw w w'
theorem jM (p:Nat->Prop)(ks:List Tm)(A:Ba)(c:Nat)(w:Bb)(hl:ks.length<=1099511627776)(hr:RdP p w A 0 ks)(hpw:∀b,p b->b<w.heap.size) :
  Calls prog 94 #[.slice A ks.length c] w (aXy p w ks):=by
 cases A with
 | none=>
  have hk:ks=[]:=by
   cases ks with
   | nil=>rfl
   | cons t ts=>obtain ⟨⟨b,off,h,_⟩,_⟩:=RdP.cons_iff.1 hr;cases h
  subst hk;have hq:∀w',(binOp .eql 29 (.slice none 0 c) (.slice none 0 0)).run prog w' = .ok (.bool true) w':=λw'=>by rw [Go.Lib.run_eql_slice_nil (t:=29) (h:=Tryz.underlying29)];rfl
  go_enter func94,ntmps94;go_wp2_with fail;go_ret;exact ⟨none,0,rfl,PartR.nil,eI _ _⟩
 | some a=>
  have hq:∀w',(binOp .eql 29 (.slice (some a) ks.length c) (.slice none 0 0)).run prog w' = .ok (.bool false) w':=λw'=>by rw [Go.Lib.run_eql_slice_nil (t:=29) (h:=Tryz.underlying29)];rfl
  go_enter func94,ntmps94;go_wp2_with (at_builtin;refine fA (p:=p) (g:=w.heap.size) (cl:=c) (heap_alloc_new w _) (hr.alloc _) (λb hb=>⟨by have:=hpw b hb;simp;omega,by have:=hpw b hb;omega⟩) rfl hl rfl _ _ rfl rfl rfl ?_;intro A2 c2 w2 hp2 hg2);go_ret;exact ⟨A2,c2,rfl,hp2,bw1.trans ⟨hg2.os,hg2.tape,hg2.output,hg2.size,λk hk=>hg2.block k Ai (λe=>by injection e;omega)⟩⟩
end Go.Proofs.YtjlaenhcemacdaaGreat
