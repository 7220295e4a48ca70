/- Parts of the proof. No condition. -/
import Derived.Test.YtjlaenhcemacdaaGreatK1
open Go.Proofs.Tryz
namespace Go.Proofs.YtjlaenhcemacdaaGreat
open Go.RowKit
set_option maxHeartbeats 2000000
set_option maxRecDepth 100000
set_option linter.unusedSimpArgs false
set_option linter.unusedVariables false
mutual
def vI (f:Int->Int->Tm):Int->Tm->Tm
 | d,.mk k n ks=>if k=1 then f n d else .mk k n (iE f k d 0 ks)
def iE (f:Int->Int->Tm):Int->Int->Nat->List Tm->List Tm
 | _,_,_,[]=>[]
 | k,d,i,t::ts=>vI f (d+aN k i) t::iE f k d (i+1) ts
end
mutual
def eW (ok:Int->Int->Bool):Int->Tm->Bool
 | d,.mk k n ks=>if k=1 then ok n d else dR ok k d 0 ks
def dR (ok:Int->Int->Bool):Int->Int->Nat->List Tm->Bool
 | _,_,_,[]=>true
 | k,d,i,t::ts=>eW ok (d+aN k i) t && dR ok k d (i+1) ts
end
theorem uW (f:Int->Int->Tm)(k d:Int)(us:List Tm):∀(ts:List Tm) (i:Nat),iE f k d i (ts++us)=iE f k d i ts++iE f k d (i+ts.length) us
 | [],i=>by simp [iE]
 | t::ts,i=>by rw [List.cons_append,iE,iE,uW f k d us ts (i+1),List.cons_append,List.length_cons,show i+1+ts.length=i+(ts.length+1) from by omega]
theorem qA (f:Int->Int->Tm)(k d:Int):∀(ts:List Tm) (i:Nat),(iE f k d i ts).length=ts.length
 | [],i=>by simp [iE]
 | t::ts,i=>by rw [iE,List.length_cons,List.length_cons,qA f k d ts (i+1)]
theorem qY (ok:Int->Int->Bool)(k d:Int)(us:List Tm):∀(ts:List Tm) (i:Nat),dR ok k d i (ts++us)=(dR ok k d i ts && dR ok k d (i+ts.length) us)
 | [],i=>by simp [dR]
 | t::ts,i=>by rw [List.cons_append,dR,dR,qY ok k d us ts (i+1),List.length_cons,show i+1+ts.length=i+(ts.length+1) from by omega,Bool.and_assoc]
theorem aMd (f:Int->Int->Tm)(k d:Int){ks:List Tm}{j:Nat}(hj:j<ks.length):iE f k d 0 (ks.take (j+1))=iE f k d 0 (ks.take j)++[vI f (d+aN k j) ks[j]]:=by
 rw [tM hj,uW,List.length_take,Nat.min_eq_left (Nat.le_of_lt hj),Nat.zero_add,iE,iE]
theorem aFh (ok:Int->Int->Bool)(k d:Int){ks:List Tm}{j:Nat}(hj:j<ks.length):dR ok k d 0 (ks.take (j+1))=(dR ok k d 0 (ks.take j) && eW ok (d+aN k j) ks[j]):=by
 rw [tM hj,qY,List.length_take,Nat.min_eq_left (Nat.le_of_lt hj),Nat.zero_add,dR,dR,Bool.and_true]
theorem gQ (t:Tm):∃k n ks,t = .mk k n ks:=by cases t;exact ⟨_,_,_,rfl⟩
def aVu (g:Nat)(w:Bb)(t:Tm)(b:Bool)(e:Ending)(w':Bb):Prop:=
 ∃A c,e = .returned (.agg (Ro t.k t.n A t.ks.length c))/\t.ks.length<=9223372036854775807/\Fresh w.heap.size w' A t.ks/\Blk w' g #[.bool b]/\w.grownBy w' (some g)
theorem oZ {g:Nat}{w:Bb}{k n:Int}{ks:List Tm}{b:Bool}{e:Ending}{w':Bb}(h:aVu g w (.mk k n ks) b e w') :
  ∃A c,e = .returned (.agg (Ro k n A ks.length c))/\ks.length<=9223372036854775807/\Fresh w.heap.size w' A ks/\Blk w' g #[.bool b]/\w.grownBy w' (some g):=h
theorem aEa {a w w':Bb}{row:Option Nat}{B:Nat}(h:a.grownBy w row)(k:Below B w w')(hB:a.heap.size<=B):a.grownBy w' row:=
 ⟨k.os.trans h.os,k.tape.trans h.tape,k.output.trans h.output,Nat.le_trans h.size k.size,λi hi hne=>(k.block i Ac).trans (h.block i hi hne)⟩
def aOw (F:Nat)(caps:List Value)(W0:Bb)(g:Nat)(f:Int->Int->Tm)(ok:Int->Int->Bool):Prop:=
 ∀(n d:Int) (w:Bb) (b:Bool),0<=n->n<=20->0<=d->d<=60->W0.grownBy w (some g)->Blk w g #[.bool b]->Calls prog F (.int .i64 n :: .int .i64 d::caps).toArray w (aVu g w (f n d) (b && ok n d))
theorem iK {a w w':Bb}{row:Option Nat}(h:a.grownBy w row)(k:w.grownBy w' row):a.grownBy w' row:=gJ h k
theorem Blk.ruleG {wx:Bb}{g b:Nat}{cs:Array Value}(h:Blk wx b cs)(hb:b≠g){i:Nat}{v:Value}(hi:cs[i]?=some v):∀w':Bb,wx.grownBy w' (some g)->w'.cell? ⟨b,i,none⟩=some v:=
 λ_ hw=>(h.grown hw (by simpa using hb)).at_ hi
theorem fS {F : Nat}{fn : Func}(hf : prog.funcs[F]? = some fn)(h1 : (fn.name == "runtime.NumGoroutine") = false)(h2 : fn.body.isNone = false)(args : Array Value)(w : Bb) : (callFunc F args).run prog w = .ok (.enter F args) w := by
 have h1' : fn.name ≠ "runtime.NumGoroutine" := by simpa using h1
 have h2':fn.body≠none:=by intro e;rw [e] at h2;cases h2
 simp [callFunc,go_sem,hf,h1',h2']
theorem iL {F:Nat}{caps:List Value}{W0:Bb}{g:Nat}{f:Int->Int->Tm}{ok:Int->Int->Bool}(hF:aOw F caps W0 g f ok)(hrun:∀(args:Array Value) (w:Bb),(callFunc F args).run prog w = .ok (.enter F args) w)(N:Nat) :
  ∀(k n:Int) (ks:List Tm) (A:Ba) (c:Nat) (d:Int) (q:Nat) (w:Bb) (b:Bool),aG ks<N->shape q (.mk k n ks)=true->0<=d->d+q<=60->aG ks<=1099511627776->
   W0.grownBy w (some g)->Blk w g #[.bool b]->RdP (·≠g) w A 0 ks->
   Calls prog 82 #[.agg (Ro k n A ks.length c),.int .i64 d,.func (.func F) #[] caps.toArray] w (aVu g w (vI f d (.mk k n ks)) (b && eW ok d (.mk k n ks))):=by
 induction N with
 | zero=>intro k n ks A c d q w b hN;exact absurd hN (Nat.not_lt_zero _)
 | succ N ih=>
 intro k n ks A c d q w b hN hsh hd0 hdq hM hW hg hr;have hlen:=aJ ks;obtain ⟨q,rfl⟩:∃q',q=q'+1:=by cases q with|zero=>simp [shape] at hsh|succ q=>exact ⟨q,rfl⟩
 obtain ⟨ha,hm1,hm2,hkids⟩:=(bH q k n ks).1 hsh;have hgl:=hg.lt;by_cases hk:k=1
 ·subst hk;have hz:vI f d (.mk 1 n ks)=f n d:=by rw [vI,Av rfl]
  have hzo:eW ok d (.mk 1 n ks)=ok n d:=by rw [eW,Av rfl]
  have hn2:n<=20:=by simpa [dL] using hm2
  rw [hz,hzo];generalize hft:f n d=ft;go_enter func82,ntmps82;go_wp2_with (refine (hF n d _ b hm1 hn2 hd0 Ac ((iK hW (bG (bG (nE _ _) _) _))) ((hg.alloc _).alloc _)).mono ?_;rw [hft];rintro e w3 ⟨A3,c3,rfl,hl3,hf3,hg3,hgr3⟩;have hT:Blk w3 (w.heap.size+1) Zr:=(aC (n:=w.heap.size+1) (w.alloc (.cells (Ro 1 n A ks.length c) 32)) 32 Zr Ag).grown hgr3 Ai;have d0:=hT.at_ (i:=0) rfl;have d1:=hT.at_ (i:=1) rfl;have d2:=hT.at_ (i:=2) rfl;obtain ⟨e0,e1,e2⟩:=bkf hT);have hgr:w.grownBy w3 (some g):=iK (bG (bG (nE _ _) _) _) hgr3;have hsz:w.heap.size+1<w3.heap.size:=by have:=hT.lt;simpa using this
  have hgne:g≠w.heap.size+1:=by omega
  refine bodyPost_ret (v:=.agg (Ro ft.k ft.n A3 ft.ks.length c3)) (by simp [results,results82,go_sem,d0,d1,d2]) rfl ⟨A3,c3,rfl,hl3,?_,?_,?_⟩
  ·exact (vF hf3).mono Ai
  ·exact ((hg3.far (by simpa using hgne) _).far (by simpa using hgne) _).far (by simpa using hgne) _
  ·exact aK (aK (aK hgr (.inr Ag) _) (.inr Ag) _) (.inr Ag) _
 ·have hz:vI f d (.mk k n ks) = .mk k n (iE f k d 0 ks):=by rw [vI,Aw hk]
  have hzo:eW ok d (.mk k n ks)=dR ok k d 0 ks:=by rw [eW,Aw hk]
  have q1:(k==1)=false:=by simpa using hk
  rw [hz,hzo];have hkids':=aD hkids;clear hz hzo hk hkids ha hm1 hm2 hsh;go_enter func82,ntmps82;go_wp2_with fail;go_loopw [26] (λi wr=>∃(j:Nat) (v:Value),j<=ks.length/\i = .int .i64 j/\Part (w.heap.size+3) wr v (iE f k d 0 (ks.take j))/\Blk wr (w.heap.size+1+1) #[.int .i64 k,.int .i64 n,v]/\Blk wr (w.heap.size+1) Zr/\Blk wr w.heap.size (Ro k n A ks.length c)/\Blk wr g #[.bool (b && dR ok k d 0 (ks.take j))]/\w.grownBy wr (some g))
   (λi _=>ks.length - (intOf i).toNat)
  case atStart=>exact ⟨0,_,Nat.zero_le _,rfl,Part.nil,aC _ _ _ Ag,(aC _ _ _ Ag).alloc _,((aC _ _ _ rfl).alloc _).alloc _,by simpa [dR] using ((hg.alloc _).alloc _).alloc _,bG (bG (bG (nE _ _) _) _) _⟩
  case round=>
   obtain ⟨j,v,hj,rfl,hp,hB3,hB2,hB1,hGr,hgr⟩:=hrel;by_cases hlt:j<ks.length
   ·obtain ⟨b1,off,k',n',ks',A',c',rfl,hkj,hc1,hc2,hc3,hl',hr'⟩:=(hr.grown hgr (λb hb e=>hb (by injection e))).at_ hlt;have hbl:=kF _ _ hc1;have hsz:=cG (gM hlt);have hsk:=hkids'.out _ (gM hlt);rw [hkj] at hsz hsk;simp only [Tm.size] at hsz;have H3:=aD hkj;have H4:=aD hsk;clear hkj hsk;have hz3:=hB3.lt;have c2:wr.cell? ⟨w.heap.size+1+1,2,none⟩=some v:=hB3.at_ rfl;go_wp2_with fail;refine aU ?_;intro wx hwx;have hXB:Blk wx wr.heap.size (Ro k' n' A' ks'.length c'):=by rw [hwx];exact aC _ _ _ rfl
    have hpx:Part (w.heap.size+3) wx v (iE f k d 0 (ks.take j)):=by rw [hwx];exact hp.alloc _
    have hrx:RdP (·≠g) wx A' 0 ks':=by rw [hwx];exact hr'.alloc _
    have hB3x:Blk wx (w.heap.size+1+1) #[.int .i64 k,.int .i64 n,v]:=by rw [hwx];exact hB3.alloc _
    have hB2x:Blk wx (w.heap.size+1) Zr:=by rw [hwx];exact hB2.alloc _
    have hB1x:Blk wx w.heap.size (Ro k n (some ⟨b1,off,none⟩) ks.length c):=by rw [hwx];exact hB1.alloc _
    have hGx:Blk wx g #[.bool (b && dR ok k d 0 (ks.take j))]:=by rw [hwx];exact hGr.alloc _
    have hgx:w.grownBy wx (some g):=by rw [hwx];exact bG hgr _
    have hs1:wr.heap.size<wx.heap.size:=by rw [hwx];simp
    have hs2:w.heap.size+1+1<wx.heap.size:=by omega
    have x2:=hB3x.ruleG (g:=g) Ac (i:=2) rfl;have x0:=hB1x.ruleG (g:=g) Ac (i:=0) rfl;have y0:=hXB.ruleG (g:=g) Ac (i:=0) rfl;have y1:=hXB.ruleG (g:=g) Ac (i:=1) rfl;have y2:=hXB.ruleG (g:=g) Ac (i:=2) rfl;have hun:=dA k j;clear hwx;refine bQ (λw'=>wx.grownBy w' (some g)) [0,1,2,3,4,5,6,7,8,9] [10,11] [12,13,14] [_,_,_,_,_,_,_,_,_,_] [_,_] [_,_,_] (by kernel_rfl) (by kernel_rfl) rfl rfl rfl (λ_ _ d _ _ h=>by cases d<;>exact h) (qR (nE _ _)) ?_;repeat (first|((refine lU (a':=?_) ?_ ?_ ?_);(rotate_left);(· (simp [Region.wanted,yielded];done));(· (simp only [Act.put,List.setIfInBounds_toArray,List.set_cons_zero,List.set_cons_succ];exact rfl)))|((refine lM (v:=?_) (a':=?_) ?_ ?_ ?_ ?_);(rotate_left 2);(· (simp [Region.wanted,yielded];done));(· (intro w' hS';go_simp;try (with_reducible rfl)));(· (simp only [Act.put,List.setIfInBounds_toArray,List.set_cons_zero,List.set_cons_succ];exact rfl)))|((refine oM (v:=?_) (a':=?_) 108 ?_ ?_ ?_ ?_ ?_ ?_);(rotate_left 3);(· (simp [Region.wanted,yielded];done));(· (intro w' hS';go_simp;try (with_reducible rfl)));(· (intro w' hS';exact lQ _ _ _));(· (simp only [Act.put,List.setIfInBounds_toArray,List.set_cons_zero,List.set_cons_succ];exact rfl))))
    obtain ⟨k2,n2,ks2,hct⟩:∃k2 n2 ks2,vI f (d+aN k j) (.mk k' n' ks') = .mk k2 n2 ks2:=gQ _;have hct':=aD hct;clear hct;refine nL (bO ?_);go_wp2_with (go_at_call 82;refine (ih k' n' ks' A' c' (d+aN k j) q _ (b && dR ok k d 0 (ks.take j)) Ac H4.out Ac Ac Ac (iK hW (iK hgx (qR (nE _ _)))) hGx.drew hrx.drew).mono ?_;rw [hct'.out];intro e w1 hpost;obtain ⟨A1,c1,rfl,hl1,hf1,hG1,hg1⟩:=oZ hpost;clear hpost);have hx1:wx.grownBy w1 (some g):=iK (qR (nE _ _)) hg1;have hw1:wx.heap.size<=w1.heap.size:=hx1.size;refine aS hx1 (bO ?_);go_wp2_with fail;refine aS (bG hx1 _) (eB ?_);refine pZ (B:=w.heap.size+3) (m:=j) hpx.drew (λb h1 h2=>hg1.block b h2 Ai) hw1 Ai hf1 hl1 (by rw [qA];simp;omega) Ac rfl (.tmp 32) (.tmp 42) rfl rfl rfl ?_;intro A2 c2 w2 hp2 hb2 hg2;have q3:Blk w2 (w.heap.size+1+1) #[.int .i64 k,.int .i64 n,v]:=(hB3x.grown hx1 Ai).below hb2 Ac;have q2:Blk w2 (w.heap.size+1) Zr:=(hB2x.grown hx1 Ai).below hb2 Ac;have q1:Blk w2 w.heap.size (Ro k n (some ⟨b1,off,none⟩) ks.length c):=(hB1x.grown hx1 Ai).below hb2 Ac;have qg:=hG1.below hb2 Ac;have c3:w2.cell? ⟨w.heap.size+1+1,2,none⟩=some v:=q3.at_ rfl;have z3:=q3.frozen 2;have hgf:w.grownBy w2 (some g):=aEa (iK hgx hx1) hb2 Ac;clear x2 y0 y1 y2 x0 hpx hrx hB3x hB2x hB1x hGx;go_wp2_with fail;go_roundw
    case rel=>
     refine ⟨j+1,_,by omega,by go_num,?_,q3.set_ 2 _,q2.far Ag _,q1.far Ai _,?_,aK hgf (.inr Ai) _⟩
     ·rw [aMd f k d hlt,H3.out,hct'.out];exact hp2.setCell Ag _
     ·rw [aFh ok k d hlt,H3.out,<- Bool.and_assoc];exact qg.far Ai _
    case measure=>simp [intOf];omega
   ·have hjl:j=ks.length:=by omega
    subst hjl;rw [List.take_length] at hp hGr;obtain ⟨Ar,cr,rfl,hfr⟩:=hp.fresh;have c0:wr.cell? ⟨w.heap.size+1+1,0,none⟩=some (.int .i64 k):=hB3.at_ rfl;have c1:wr.cell? ⟨w.heap.size+1+1,1,none⟩=some (.int .i64 n):=hB3.at_ rfl;have c2:wr.cell? ⟨w.heap.size+1+1,2,none⟩=some (.slice Ar (iE f k d 0 ks).length cr):=hB3.at_ rfl;have d0:wr.cell? ⟨w.heap.size+1,0,none⟩=some (.int .i64 0):=hB2.at_ rfl;have d1:wr.cell? ⟨w.heap.size+1,1,none⟩=some (.int .i64 0):=hB2.at_ rfl;have d2:wr.cell? ⟨w.heap.size+1,2,none⟩=some (.slice none 0 0):=hB2.at_ rfl;obtain ⟨e0,e1,e2⟩:=bkf hB2;have hgne:g≠w.heap.size+1:=by omega
    go_wp2_with fail;refine bodyPost_ret (v:=.agg #[.int .i64 k,.int .i64 n,.slice Ar (iE f k d 0 ks).length cr]) (by simp [results,results82,go_sem,d0,d1,d2]) rfl ⟨Ar,cr,rfl,by rw [show (Tm.mk k n (iE f k d 0 ks)).ks=iE f k d 0 ks from rfl,qA];omega,?_,?_,?_⟩
    ·exact (vF hfr).mono Ac
    ·exact ((hGr.far (by simpa using hgne) _).far (by simpa using hgne) _).far (by simpa using hgne) _
    ·exact aK (aK (aK hgr (.inr Ag) _) (.inr Ag) _) (.inr Ag) _
end Go.Proofs.YtjlaenhcemacdaaGreat
