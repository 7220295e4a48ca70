/- Parts of the proof. No condition. -/
import Derived.Test.YtjlaenhcemacdaaGreatK3
open Go.Proofs.Tryz
namespace Go.Proofs.YtjlaenhcemacdaaGreat
open Go.RowKit
set_option maxHeartbeats 2000000
set_option maxRecDepth 100000
set_option linter.unusedSimpArgs false
set_option linter.unusedVariables false
theorem nH {k n k' n':Int}{ks ls:List Tm}(h:¬(k=k'/\n=n'/\ks.length=ls.length)):gL (.mk k n ks) (.mk k' n' ls)=false:=by
 cases e:gL (.mk k n ks) (.mk k' n' ls) with
 | false=>rfl
 | true=>have:=tmEq_iff.1 e;injection this with h1 h2 h3;exact absurd ⟨h1,h2,by rw [h3]⟩ h
theorem aBa {k n:Int}{ks ls:List Tm}:gL (.mk k n ks) (.mk k n ls)=kW ks ls:=by
 by_cases h:ks=ls
 ·subst h;rw [nA,lW]
 ·rw [iM h];cases e:gL (.mk k n ks) (.mk k n ls) with
  | false=>rfl
  | true=>have:=tmEq_iff.1 e;injection this with h1 h2 h3;exact absurd h3 h
theorem jT (N:Nat):∀(k n:Int) (ks:List Tm) (A:Ba) (c:Nat) (k' n':Int) (ls:List Tm) (B:Ba) (d:Nat) (w:Bb),aG ks<N->ks.length<=9223372036854775807->ls.length<=9223372036854775807->Rd w A 0 ks->Rd w B 0 ls->
      Calls prog 104 #[.agg (Ro k n A ks.length c),.agg (Ro k' n' B ls.length d)] w λe w'=>e = .returned (.bool (gL (.mk k n ks) (.mk k' n' ls)))/\Bw w w':=by
  induction N with
  | zero=>intro k n ks A c k' n' ls B d w hN;exact absurd hN (Nat.not_lt_zero _)
  | succ N ih=>
  intro k n ks A c k' n' ls B d w hN hl hl' hr hr';have hb2:∀o o',Bw w ((w.alloc o).alloc o'):=λo o'=>bw2
  by_cases hk:k=k'
  · subst hk
    by_cases hn:n=n'
    · subst hn
      by_cases hlen:ks.length=ls.length
      · rw [aBa]
        have q1:(k != k)=false:=by simp
        have q2:(n != n)=false:=by simp
        have q3:((ks.length:Int) != (ls.length:Int))=false:=by simp [hlen]
        have hH:=aD hlen;have hle:ls.length<=ks.length:=by omega
        have hge:ks.length<=ls.length:=by omega
        clear hlen;go_enter func104,ntmps104;go_wp2_with fail;go_loopw [5] (λi wr=>∃j:Nat,j<=ks.length/\i = .int .i64 j/\Hid (ks.take j=ls.take j)/\Blk wr w.heap.size (Ro k n A ks.length c)/\Blk wr (w.heap.size+1) (Ro k n B ls.length d)/\Bw w wr) (λi _=>ks.length - (intOf i).toNat)
        case atStart=>exact ⟨0,Nat.zero_le _,rfl,aD Ag,(aC _ _ _ rfl).alloc _,aC _ _ _ Ag,hb2 _ _⟩
        case round=>
          obtain ⟨j,hj,rfl,heq,hB1,hB2,hb⟩:=hrel;have b2:=hB1.at_ (i:=2) rfl;by_cases hlt:j<ks.length
          · have hlt':j<ls.length:=by omega
            obtain ⟨b,off,k1,n1,ks1,A1,c1,rfl,hkj,hc1,hc2,hc3,hl1,hr1⟩:=(hr.below hb).at_ hlt;obtain ⟨b2,off2,k2,n2,ks2,A2,c2,rfl,hkj2,hd1,hd2,hd3,hl2,hr2⟩:=(hr'.below hb).at_ hlt';have hsz:=cG (gM hlt);rw [hkj] at hsz;simp only [Tm.size] at hsz;have H3:=aD hkj;have H4:=aD hkj2;clear hkj hkj2;go_wp2_with fail;obtain ⟨r1,r2,r3⟩:=pG hc1 hc2 hc3;obtain ⟨r4,r5,r6⟩:=pG hd1 hd2 hd3;have r7:=hB1.rule (i:=2) rfl;have r8:=hB2.rule (i:=2) rfl;refine bQ (λw'=>Bw wr w') [0,1,2,3,4,5,6,7,8,9] [] [10,11] [_,_,_,_,_,_,_,_,_,_] [] [_,_] (by kernel_rfl) (by kernel_rfl) rfl rfl rfl (λ_ _ d _ _ h=>by cases d<;>exact h) (eI _ _).drew ?_;refine bU (aD ?_);refine eB ?_;clear r1 r2 r3 r4 r5 r6 r7 r8;cases hte:gL (.mk k1 n1 ks1) (.mk k2 n2 ks2) with
            | false=>
              have hte':=aD hte;clear hte;go_wp2_with (go_at_call 104;refine (ih k1 n1 ks1 A1 c1 k2 n2 ks2 A2 c2 _ Ac hl1 hl2 hr1.drew hr2.drew).mono ?_;rw [hte'.out];rintro e w1 ⟨rfl,hb1⟩);go_ret;refine ⟨dE (iM λe=>?_).symm,hb.drew.trans (hb1.mono (by simpa using hb.size))⟩;have:=hte'.out;subst e;rw [<- H3.out,<- H4.out,nA] at this;cases this
            | true=>
              have hte':=aD hte;clear hte;go_wp2_with (go_at_call 104;refine (ih k1 n1 ks1 A1 c1 k2 n2 ks2 A2 c2 _ Ac hl1 hl2 hr1.drew hr2.drew).mono ?_;rw [hte'.out];rintro e w1 ⟨rfl,hb1⟩);replace hb1:Bw wr w1:=(eI _ _).drew.trans hb1;go_roundw
              case rel=>exact ⟨j+1,by omega,by go_num,aD (by rw [tM hlt,tM hlt',heq.out,H3.out,H4.out,tmEq_iff.1 hte'.out]),hB1.keep hb1,hB2.keep hb1,hb.trans (hb1.mono hb.size)⟩
              case measure=>simp [intOf];omega
          · go_wp2_with fail
            go_ret;have hjl:j=ks.length:=by omega
            have h5:=heq.out;rw [hjl,List.take_length,hH.out,List.take_length] at h5;exact ⟨dE (tmsEq_iff.2 h5).symm,hb⟩
      · have q1:(k != k)=false:=by simp
        have q2:(n != n)=false:=by simp
        have q3:((ks.length:Int) != (ls.length:Int))=true:=by simp;omega
        rw [nH (by rintro ⟨-,-,h⟩;exact hlen h)];clear hlen;go_enter func104,ntmps104;go_wp2_with fail;go_ret;exact ⟨rfl,hb2 _ _⟩
    · have q1:(k != k)=false:=by simp
      have q2:(n != n')=true:=by simpa using hn
      rw [nH (by rintro ⟨-,h,-⟩;exact hn h)];clear hn;go_enter func104,ntmps104;go_wp2_with fail;go_ret;exact ⟨rfl,hb2 _ _⟩
  · have q1:(k != k')=true:=by simpa using hk
    rw [nH (by rintro ⟨h,-⟩;exact hk h)];clear hk;go_enter func104,ntmps104;go_wp2_with fail;go_ret;exact ⟨rfl,hb2 _ _⟩
theorem xK {N:Nat}(ih:∀(ks:List Tm) (A:Ba) (c:Nat) (ls:List Tm) (B:Ba) (d:Nat) (w:Bb),aG ks<N->ks.length<=9223372036854775807->ls.length<=9223372036854775807->Rd w A 0 ks->Rd w B 0 ls->
      Calls prog 111 #[.slice A ks.length c,.slice B ls.length d,.func (.func 87) #[] #[]] w λe w'=>e = .returned (.bool (kW ks ls))/\Bw w w')
    (k n:Int) (ks:List Tm) (A:Ba) (c:Nat) (k' n':Int) (ls:List Tm) (B:Ba) (d:Nat) (w:Bb) (hN:aG ks<N) (hl:ks.length<=9223372036854775807) (hl':ls.length<=9223372036854775807) (hr:Rd w A 0 ks) (hr':Rd w B 0 ls) :
    Calls prog 87 #[.agg (Ro k n A ks.length c),.agg (Ro k' n' B ls.length d)] w λe w'=>e = .returned (.bool (gL (.mk k n ks) (.mk k' n' ls)))/\Bw w w':=by
  have hb2:∀o o',Bw w ((w.alloc o).alloc o'):=λo o'=>bw2
  by_cases hk:k=k'
  · subst hk
    by_cases hn:n=n'
    · subst hn
      rw [aBa];generalize ht:kW ks ls=b;have ht':=aD ht;clear ht;go_enter func87,ntmps87;go_wp2_with (go_at_call 111;refine (ih ks A c ls B d _ hN hl hl' ((hr.alloc _).alloc _) ((hr'.alloc _).alloc _)).mono ?_;rw [ht'.out];rintro e w1 ⟨rfl,hb1⟩;replace hb1:Bw w w1:=(hb2 _ _).trans (hb1.mono Ai));go_ret;exact ⟨rfl,hb1⟩
    · have q2:(n==n')=false:=by simpa using hn
      rw [nH (by rintro ⟨-,h,-⟩;exact hn h)];clear hn;go_enter func87,ntmps87;go_wp2_with fail;go_ret;exact ⟨rfl,hb2 _ _⟩
  · have q1:(k==k')=false:=by simpa using hk
    rw [nH (by rintro ⟨h,-⟩;exact hk h)];clear hk;go_enter func87,ntmps87;go_wp2_with fail;go_ret;exact ⟨rfl,hb2 _ _⟩
theorem aGa (N:Nat):∀(ks:List Tm) (A:Ba) (c:Nat) (ls:List Tm) (B:Ba) (d:Nat) (w:Bb),aG ks<N->ks.length<=9223372036854775807->ls.length<=9223372036854775807->Rd w A 0 ks->Rd w B 0 ls->
      Calls prog 111 #[.slice A ks.length c,.slice B ls.length d,.func (.func 87) #[] #[]] w λe w'=>e = .returned (.bool (kW ks ls))/\Bw w w':=by
  induction N with
  | zero=>intro ks A c ls B d w hN;exact absurd hN (Nat.not_lt_zero _)
  | succ N ih=>
  intro ks A c ls B d w hN hl hl' hr hr';have hrun:=fS func87 (by kernel_rfl) (by kernel_rfl);by_cases hlen:ks.length=ls.length
  · have hq:((ks.length:Int) != (ls.length:Int))=false:=by simp [hlen]
    have hH:=aD hlen;have hle:ls.length<=ks.length:=by omega
    have hge:ks.length<=ls.length:=by omega
    clear hlen;go_enter func111,ntmps111;go_wp2_with fail;go_loopw [17] (λi wr=>∃j:Nat,j<=ks.length/\i = .int .i64 j/\Hid (ks.take j=ls.take j)/\Bw w wr) (λi _=>ks.length - (intOf i).toNat)
    case atStart=>exact ⟨0,Nat.zero_le _,rfl,aD Ag,eI _ _⟩
    case round=>
      obtain ⟨j,hj,rfl,heq,hb⟩:=hrel;by_cases hlt:j<ks.length
      · have hlt':j<ls.length:=by omega
        obtain ⟨b,off,k1,n1,ks1,A1,c1,rfl,hkj,hc1,hc2,hc3,hl1,hr1⟩:=(hr.below hb).at_ hlt;obtain ⟨b2,off2,k2,n2,ks2,A2,c2,rfl,hkj2,hd1,hd2,hd3,hl2,hr2⟩:=(hr'.below hb).at_ hlt';have hbl:=kF _ _ hc1;have hbl2:=kF _ _ hd1;have hsz:=cG (gM hlt);rw [hkj] at hsz;simp only [Tm.size] at hsz;have H3:=aD hkj;have H4:=aD hkj2;clear hkj hkj2;have hx:∀o o',Bw wr ((wr.alloc o).alloc o'):=λo o'=>bw2
        cases hte:gL (.mk k1 n1 ks1) (.mk k2 n2 ks2) with
        | false=>
          have hte':=aD hte;clear hte;go_wp2_with (go_at_call 87;refine (xK ih k1 n1 ks1 A1 c1 k2 n2 ks2 A2 c2 _ Ac hl1 hl2 ((hr1.alloc _).alloc _) ((hr2.alloc _).alloc _)).mono ?_;rw [hte'.out];rintro e w1 ⟨rfl,hb1⟩;replace hb1:Bw wr w1:=(hx _ _).trans (hb1.mono Ai));go_ret;refine ⟨dE (iM λe=>?_).symm,hb.trans (hb1.mono hb.size)⟩;have:=hte'.out;subst e;rw [<- H3.out,<- H4.out,nA] at this;cases this
        | true=>
          have hte':=aD hte;clear hte;go_wp2_with (go_at_call 87;refine (xK ih k1 n1 ks1 A1 c1 k2 n2 ks2 A2 c2 _ Ac hl1 hl2 ((hr1.alloc _).alloc _) ((hr2.alloc _).alloc _)).mono ?_;rw [hte'.out];rintro e w1 ⟨rfl,hb1⟩;replace hb1:Bw wr w1:=(hx _ _).trans (hb1.mono Ai));go_roundw
          case rel=>exact ⟨j+1,by omega,by go_num,aD (by rw [tM hlt,tM hlt',heq.out,H3.out,H4.out,tmEq_iff.1 hte'.out]),hb.trans (hb1.mono hb.size)⟩
          case measure=>simp [intOf];omega
      · go_wp2_with fail
        go_ret;have hjl:j=ks.length:=by omega
        have h5:=heq.out;rw [hjl,List.take_length,hH.out,List.take_length] at h5;exact ⟨dE (tmsEq_iff.2 h5).symm,hb⟩
  · have hq:((ks.length:Int) != (ls.length:Int))=true:=by simp;omega
    rw [iM (λe=>hlen (by rw [e]))];clear hlen;go_enter func111,ntmps111;go_wp2_with fail;go_ret;exact ⟨rfl,eI _ _⟩
theorem jP (k n:Int)(ks:List Tm)(A:Ba)(c:Nat)(k' n':Int)(ls:List Tm)(B:Ba)(d:Nat)(w:Bb)(hl:ks.length<=9223372036854775807)(hl':ls.length<=9223372036854775807)(hr:Rd w A 0 ks)(hr':Rd w B 0 ls) :
  Calls prog 87 #[.agg (Ro k n A ks.length c),.agg (Ro k' n' B ls.length d)] w λe w'=>e = .returned (.bool (gL (.mk k n ks) (.mk k' n' ls)))/\Bw w w':=
 xK (N:=aG ks+1) (aGa _) k n ks A c k' n' ls B d w (mV _) hl hl' hr hr'
end Go.Proofs.YtjlaenhcemacdaaGreat
