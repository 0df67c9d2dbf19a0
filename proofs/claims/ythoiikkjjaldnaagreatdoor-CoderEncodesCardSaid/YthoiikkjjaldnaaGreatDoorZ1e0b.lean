/- Texts that the law rests on. -/
import Derived.Test.YthoiikkjjaldnaaGreatDoorZ1e0a
import Derived.Test.YthoiikkjjaldnaaGreatDoorZ1e0i
import Derived.Test.YthoiikkjjaldnaaGreatDoorZ1e08
namespace Go.Proofs.YthoiikkjjaldnaaGreatDoor
set_option linter.unusedVariables false
set_option linter.unusedSimpArgs false
set_option maxRecDepth 100000
set_option maxHeartbeats 8000000
open Go.RowKit
def okI(x:Int):Bool:=decide (0<=x/\x<=9)
theorem GZ{x:Int}(h1:0<=x)(h2:x<=9):okI x=true:=by unfold okI;simp;omega
theorem Ql{x:Int}(h:x<0\/9<x):okI x=false:=by unfold okI;simp;omega
def atB(t p:Int):Bool:=decide (0<=t/\t<=3)&&okI p
def atV(t p:Int):Int:=if atB t p then t+4*p else 0
def AtAns(t p:Int)(w:World)(e:Ending)(w':World):Prop:=e=.returned (.tuple #[.int .i64 (atV t p),.int .i64 (aZ (atB t p))])/\w=w'
theorem AtAns.bad{t p:Int}{w:World}(h: ¬((0<=t/\t<=3)/\0<=p/\p<=9)):AtAns t p w (.returned (.tuple #[.int .i64 0,.int .i64 2])) w:=by
 have hb:atB t p=false:=MR
 exact⟨Ns,rfl⟩
theorem AtAns.good{t p:Int}{w:World}(h:(0<=t/\t<=3)/\0<=p/\p<=9):AtAns t p w (.returned (.tuple #[.int .i64 (t+4*p),.int .i64 0])) w:=by
 have hb:atB t p=true:=MR
 exact⟨Ns,rfl⟩
theorem afk(t p:Int)(w:World):Calls Tryz.prog 167 #[.int .i64 t,.int .i64 p] w (AtAns t p w):=by
 by_cases h:(0<=t/\t<=3)/\0<=p/\p<=9
 ·have FIN:=hid (AtAns.good (w:=w) h)
  obtain⟨⟨h1,h2⟩,h3,h4⟩:=h
  have k1: ¬t<0:=ah
  have k2: ¬4<=t:=ah
  have k3: ¬3<t:=ah
  have k4: ¬p<0:=ah
  have k5: ¬10<=p:=ah
  have k6: ¬9<p:=ah
  go_enter Tryz.func167,Tryz.ntmps167
  go_wp2
  go_ret2
  first|exact FIN.out|(rw[Int.add_comm] at FIN;exact FIN.out)|exact FIN.out.comm
 have FIN:=hid (AtAns.bad (w:=w) h)
 by_cases k1:t<0
 ·exact l91
 by_cases k2:3<t
 ·have k3:4<=t:=ah
  exact l91
 have k3: ¬4<=t:=ah
 by_cases k4:p<0
 ·exact l91
 have k5:9<p:=ah
 have k6:10<=p:=ah
 exact l91
def blS(signs size:Int):Bool:=decide ((0<=signs/\signs<=15)/\0<=size/\size<=32767)
def blB(idx:List Int)(signs size:Int):Bool:=blS signs size&&idx.all okI
def blE(idx:List Int)(signs size:Int)(j:Nat):Int:=if idx.getD (j%4) 0=(j/4:Nat) then(if signs/2^(j%4)%2=1 then size else-size) else 0
def blL(idx:List Int)(signs size:Int):List Int:=if blB idx signs size then(List.range 40).map (blE idx signs size) else[]
def blN(idx:List Int)(signs size:Int)(n:Nat):List Int:=(List.range 40).map (fun j=>if j%4<n then blE idx signs size j else 0)
def blK(idx:List Int)(signs size:Int)(k:Nat):List Int:=(List.range 40).map (fun j=>if j<k then blE idx signs size j else 0)
theorem rV(idx:List Int)(signs size:Int)(n:Nat):(blN idx signs size n).length=40:=by simp[blN]
theorem qN(idx:List Int)(signs size:Int)(n:Nat):(blK idx signs size n).length=40:=by simp[blK]
theorem afl(idx:List Int)(signs size:Int):blN idx signs size 0=List.replicate 40 0:=by
 refine bV (by simp[rV]) fun j hj=>?_
 rw[rV] at hj
 rw[zI];unfold blN;rw[aT _ hj,if_neg ah]
theorem afm(idx:List Int)(signs size:Int):blK idx signs size 0=List.replicate 40 0:=by
 refine bV (by simp[qN]) fun j hj=>?_
 rw[qN] at hj
 rw[zI];unfold blK;rw[aT _ hj,if_neg ah]
theorem afn(idx:List Int)(signs size:Int):blN idx signs size 4=(List.range 40).map (blE idx signs size):=by
 refine bV (by simp[rV]) fun j hj=>?_
 rw[rV] at hj
 unfold blN;rw[aT _ hj,aT _ hj,if_pos ah]
theorem afo(idx:List Int)(signs size:Int):blK idx signs size 40=(List.range 40).map (blE idx signs size):=by
 refine bV (by simp[qN]) fun j hj=>?_
 rw[qN] at hj
 unfold blK;rw[aT _ hj,aT _ hj,if_pos hj]
theorem afp(idx:List Int)(signs size:Int){n p:Nat}(hn:n<4)(hp:p<10)(h:idx.getD n 0=(p:Nat))(v:Int)(hv:v=if signs/2^n%2=1 then size else-size):(blN idx signs size n).set (n+4*p) v=blN idx signs size (n+1):=by
 refine bV (by simp[rV]) fun j hj=>?_
 rw[List.length_set,rV] at hj
 have hm:(n+4*p)%4=n:=ah
 have hd:(n+4*p)/4=p:=ah
 by_cases e:n+4*p=j
 ·subst e
  rw[gQ _ _ _ (by rw[rV];exact hj)]
  unfold blN
  rw[aT _ hj,if_pos ah]
  unfold blE
  rw[hm,hd,if_pos h,hv]
 rw[iw _ _ e]
 unfold blN
 rw[aT _ hj,aT _ hj]
 by_cases h2:j%4<n
 ·rw[if_pos h2,if_pos ah]
 rw[if_neg h2]
 by_cases h3:j%4=n
 ·rw[if_pos ah]
  unfold blE
  rw[h3,h,if_neg ah]
 rw[if_neg ah]
theorem afq(idx:List Int)(signs size:Int){k:Nat}(hk:k<40)(v:Int)(hv:v=blE idx signs size k):(blK idx signs size k).set k v=blK idx signs size (k+1):=by
 refine bV (by simp[qN]) fun j hj=>?_
 rw[List.length_set,qN] at hj
 by_cases e:k=j
 ·subst e
  rw[gQ _ _ _ (by rw[qN];exact hj),hv]
  unfold blK
  rw[aT _ hj,if_pos ah]
 rw[iw _ _ e]
 unfold blK
 rw[aT _ hj,aT _ hj]
 by_cases h2:j<k
 ·rw[if_pos h2,if_pos ah]
 rw[if_neg h2,if_neg ah]
theorem afr(idx:List Int)(signs size:Int){k:Nat}(h:blE idx signs size k=0):blK idx signs size (k+1)=blK idx signs size k:=by
 refine bV (by simp[qN]) fun j hj=>?_
 rw[qN] at hj
 unfold blK
 rw[aT _ hj,aT _ hj]
 by_cases e:j=k
 ·subst e;rw[if_pos ah,if_neg ah,h]
 by_cases h2:j<k
 ·rw[if_pos h2,if_pos ah]
 rw[if_neg h2,if_neg ah]
theorem G9{idx:List Int}{signs size:Int}{w w':World}(hb:blB idx signs size=false)(hB:Below w.heap.size w w'):NewSE w (blL idx signs size) (aZ (blB idx signs size)) (.returned (.tuple #[.slice none 0 0,.int .i64 2])) w':=by
 rw[show blL idx signs size=[] by unfold blL;rw[hb];rfl,hb]
 exact NewSE.none_ hB
theorem Xr{idx:List Int}{signs size:Int}{w w':World}{A:Option Addr}{c:Nat}(hb:blB idx signs size=true)(hO:Own w' w.heap.size A c ((List.range 40).map (blE idx signs size)))(hB:Below w.heap.size w w'):NewSE w (blL idx signs size) (aZ (blB idx signs size)) (.returned (.tuple #[.slice A 40 c,.int .i64 0])) w':=by
 rw[show blL idx signs size=(List.range 40).map (blE idx signs size) by unfold blL;rw[hb];rfl,hb]
 exact⟨A,c,by simp;rfl,hO,hB⟩
theorem Xt(idx:List Int)(signs size:Int)(w:World)(hl:idx.length=4)(hs1: -9223372036854775808<=size)(hs2:size<=9223372036854775807):
 Calls Tryz.prog 102 #[.agg (agi idx),.int .i64 signs,.int .i64 size] w (NewSE w (blL idx signs size) (aZ (blB idx signs size))):=by
 have BA:=hid ((aA w.heap.size w).alloc (al0z _) (.cells (agi idx) 33))
 have KS:=hid (fun W=>xU size W)
 by_cases h:(0<=signs/\signs<=15)/\0<=size/\size<=32767
 rotate_left
 ·have FB:=hid (fun w' (hB:Below w.heap.size w w')=>G9 (idx:=idx) (signs:=signs) (size:=size) (w:=w) (w':=w') (by unfold blB blS;simp[h]) hB)
  by_cases k1:signs<0
  ·clear h
   exact l46
  by_cases k2:15<signs
  ·have k3:16<=signs:=ah
   clear h
   exact l46
  have k3: ¬16<=signs:=ah
  by_cases k4:size< -32768\/32767<size
  ·have e2:(size !=s16 size)=true:=by rw[bne_iff_ne];exact fun h=>rN k4 h.symm
   have e1:(size==s16 size)=false:=by rw[beq_eq_false_iff_ne];exact fun h=>rN k4 h.symm
   clear h k4
   exact l46
  have k5:size<0:=ah
  have e3:=kH (x:=size) ah ah
  rw[e3] at KS
  clear h k4 e3
  exact l46
 obtain⟨⟨g1,g2⟩,z1,z2⟩:=h
 have hS:blS signs size=true:=by unfold blS;simp;omega
 have FB:=hid (fun w' (h:idx.all okI=false) (hB:Below w.heap.size w w')=>G9 (idx:=idx) (signs:=signs) (size:=size) (w:=w) (w':=w') (by unfold blB;rw[h];simp) hB)
 have FG:=hid (fun w' A c (h:idx.all okI=true) (hO:Own w' w.heap.size A c ((List.range 40).map (blE idx signs size))) (hB:Below w.heap.size w w')=>Xr (idx:=idx) (signs:=signs) (size:=size) (w:=w) (w':=w') (by unfold blB;rw[h,hS];rfl) hO hB)
 have e3:=kH (x:=size) ah ah
 rw[e3] at KS
 have A0:=hid (IB.new w 33 idx)
 have yU:(Tryz.prog.info? 33).map (·.size)=some 4:=au
 have S4:=hid yU
 have HIX:=hid (fun(k:Nat) (hk:k<4) (w:World)=>jp Tryz.underlying33 idx hl k hk w)
 have HL:=hid hl
 have k1: ¬signs<0:=ah
 have k3: ¬16<=signs:=ah
 have k5: ¬size<0:=ah
 clear hS e3 yU hl
 go_enter Tryz.func102,Tryz.ntmps102
 go_wp2_with(first
  |(go_at_call 163;(with_reducible refine(KS.out _).mono ?_);rintro e w' ⟨rfl,rfl⟩)
  |(at_make;refine kR rfl _ _ rfl .i64 .i64 40 rfl rfl w.heap.size ah az ?_;intro w1 hO hG;simp only[bU] at hO;have O1:=hid (show Own w1 w.heap.size (some ⟨w.heap.size+1,0,none⟩) 40 (blN idx signs size 0) by rw[afl];exact hO);have A1:=hid (Blk.grown A0.out hG az);have B1:=hid (BA.out.grown hG az az);clear hO hG)
  |(refine aK rfl 33 (.tmp 3) rfl _ 33 idx 4 _ rfl A1.out Tryz.underlying33 rfl S4.out HL.out ?_))
 go_loopw[31] (fun iv wr=> ∃n:Nat,n<=4/\iv=.int .i64 n/\Hid (allTo okI idx n)/\Hid (Own wr w.heap.size (some ⟨w.heap.size+1,0,none⟩) 40 (blN idx signs size n))/\Hid (Below w.heap.size w wr)) (fun iv _=>4-(intOf iv).toNat)
 case atStart=>exact⟨0,ah,rfl,hid allTo.zero,O1,B1⟩
 case round=>
  clear O1 B1 A1 A0
  obtain⟨n,hn,rfl,HA,HO,HB⟩:=hrel
  by_cases hlt:n<4
  ·have hix:=HIX.out n hlt
   obtain⟨x,hx⟩:∃x,x=idx.getD n 0:=⟨_,rfl⟩
   rw[<-hx] at hix
   have KA:=afk (n:Nat) x wr
   by_cases hok:0<=x/\x<=9
   ·obtain⟨p,rfl⟩:=dP hok.1
    have hb:atB (n:Nat) (p:Nat)=true:=MR
    have hv:atV (n:Nat) (p:Nat)=(n:Nat)+4*(p:Nat):=Ns
    obtain⟨j,hj⟩:∃j,j=n+4*p:=⟨_,rfl⟩
    unfold AtAns at KA
    rw[hb,hv,show((n:Nat):Int)+4*((p:Nat):Int)=(j:Nat) from ah] at KA
    have KA':=hid KA
    have HA2:=hid (HA.out.succ (by rw[<-hx];exact GZ ah ah))
    have hj40:j<40:=ah
    have co:=HO.out.cell j Nk
    have fo:=HO.out.frozen j
    have j1:(j:Int)<40:=ah
    have j2:(0:Int)<=j:=ah
    have ha:=zG (signs/2^n)
    have Set:=hid (fun v hv=>afp idx signs size (p:=p) hlt ah hx.symm v hv)
    rw[<-hj] at Set
    have HX:=hid hx
    have HJ:=hid hj
    have f2:((wr.setCell ⟨w.heap.size+1,j,none⟩ (.int .i64 (-size))).cell? ⟨w.heap.size+1,j,none⟩).isSome=true:=by
     rw[(HO.out.set_ j Nk (-size)).cell j (by simp[rV];exact hj40)];rfl
    clear KA hb hv hx hj
    by_cases hbit:signs/2^n%2=1
    ·have e1:(bits BinOp.and IntKind.i64 (signs/2^n) 1==1)=true:=by rw[ha,hbit];rfl
     have NO:=hid (show Own ((wr.setCell ⟨w.heap.size+1,j,none⟩ (.int .i64 (-size))).setCell ⟨w.heap.size+1,j,none⟩ (.int .i64 size)) w.heap.size (some ⟨w.heap.size+1,0,none⟩) 40 (blN idx signs size (n+1)) from by
      rw[<-Set.out size (by rw[if_pos hbit])]
      have h1:=(HO.out.set_ j Nk (-size)).set_ j (by rw[List.length_set,rV];exact hj40) size
      rwa [List.set_set] at h1)
     have NB:=hid ((HB.out.setCell (p:=⟨w.heap.size+1,j,none⟩) (show w.heap.size<=w.heap.size+1 from ah) (.int .i64 (-size))).setCell (p:=⟨w.heap.size+1,j,none⟩) (show w.heap.size<=w.heap.size+1 from ah) (.int .i64 size))
     exact l95
    have e1:(bits BinOp.and IntKind.i64 (signs/2^n) 1==1)=false:=by rw[ha];simpa using hbit
    have NO:=hid (show Own (wr.setCell ⟨w.heap.size+1,j,none⟩ (.int .i64 (-size))) w.heap.size (some ⟨w.heap.size+1,0,none⟩) 40 (blN idx signs size (n+1)) from by
     rw[<-Set.out (-size) (by rw[if_neg hbit])]
     exact HO.out.set_ j Nk (-size))
    have NB:=hid (HB.out.setCell (p:=⟨w.heap.size+1,j,none⟩) (show w.heap.size<=w.heap.size+1 from ah) (.int .i64 (-size)))
    exact l95
   have hb:atB (n:Nat) x=false:=MR
   have hv:atV (n:Nat) x=0:=Ns
   unfold AtAns at KA
   rw[hb,hv] at KA
   have KA':=hid KA
   have FF:=hid (FB.out wr (iL (i:=n) oK (by rw[<-hx];exact Ql ah)) HB.out)
   have HX:=hid hx
   clear KA hb hv hx hok
   go_wp2_with(go_at_call 167;(with_reducible refine KA'.out.mono ?_);rintro e w' ⟨rfl,rfl⟩)
   go_ret2
   exact FF.out
  obtain rfl:n=4:=ah
  have FF:=hid (FG.out wr _ _ (HA.out.all L9) (by rw[<-afn];exact HO.out) HB.out)
  go_wp2
  go_ret2
  exact FF.out
theorem Xu(idx:List Int)(signs size:Int)(w:World)(hl:idx.length=4):
 Calls Tryz.prog 129 #[.agg (agi idx),.int .i64 signs,.int .i64 size] w (NewSE w (blL idx signs size) (aZ (blB idx signs size))):=by
 have BA:=hid ((aA w.heap.size w).alloc (al0z _) (.cells (agi idx) 33))
 by_cases h:(0<=signs/\signs<=15)/\0<=size/\size<=32767
 rotate_left
 ·have FB:=hid (fun w' (hB:Below w.heap.size w w')=>G9 (idx:=idx) (signs:=signs) (size:=size) (w:=w) (w':=w') (by unfold blB blS;simp[h]) hB)
  by_cases k1:signs<0
  ·exact l82
  by_cases k2:15<signs
  ·exact l82
  by_cases k3:size<0
  ·exact l82
  have k4:32767<size:=ah
  exact l82
 obtain⟨⟨g1,g2⟩,z1,z2⟩:=h
 have hS:blS signs size=true:=by unfold blS;simp;omega
 have FB:=hid (fun w' (h:idx.all okI=false) (hB:Below w.heap.size w w')=>G9 (idx:=idx) (signs:=signs) (size:=size) (w:=w) (w':=w') (by unfold blB;rw[h];simp) hB)
 have FG:=hid (fun w' A c (h:idx.all okI=true) (hO:Own w' w.heap.size A c ((List.range 40).map (blE idx signs size))) (hB:Below w.heap.size w w')=>Xr (idx:=idx) (signs:=signs) (size:=size) (w:=w) (w':=w') (by unfold blB;rw[h,hS];rfl) hO hB)
 have A0:=hid (IB.new w 33 idx)
 have HL:=hid hl
 have k1: ¬signs<0:=ah
 have k2: ¬15<signs:=ah
 have k3: ¬size<0:=ah
 have k4: ¬32767<size:=ah
 clear hS hl
 go_enter Tryz.func129,Tryz.ntmps129
 go_wp2_with(at_make;refine kR rfl _ _ rfl .i64 .i64 40 rfl rfl w.heap.size ah az ?_;intro w1 hO hG;simp only[bU] at hO;have O1:=hid (show Own w1 w.heap.size (some ⟨w.heap.size+1,0,none⟩) 40 (blK idx signs size 0) by rw[afm];exact hO);have A1:=hid (Blk.grown A0.out hG az);have B1:=hid (BA.out.grown hG az az);clear hO hG)
 go_loopw[29] (fun iv wr=> ∃k:Nat,k<=40/\iv=.int .i64 k/\Hid (∀j,j<k->okI (idx.getD (j%4) 0)=true)/\Hid (Own wr w.heap.size (some ⟨w.heap.size+1,0,none⟩) 40 (blK idx signs size k))/\Hid (IB wr w.heap.size 33 idx)/\Hid (Below w.heap.size w wr)) (fun iv _=>40-(intOf iv).toNat)
 case atStart=>exact⟨0,ah,rfl,hid (fun j h=>ah),O1,A1,B1⟩
 case round=>
  clear O1 B1 A1 A0
  obtain⟨k,hk,rfl,HA,HO,HI,HB⟩:=hrel
  by_cases hlt:k<40
  ·obtain⟨m,hm⟩:∃m,m=k%4:=⟨_,rfl⟩
   obtain⟨d,hd⟩:∃d,d=k/4:=⟨_,rfl⟩
   have hm4:m<4:=ah
   have ci:=IB.cell HI.out m (by rw[HL.out];exact hm4)
   have hmod:(k:Int)%4=(m:Nat):=ah
   have hdiv:(k:Int)/4=(d:Nat):=ah
   have HE:=hid (show blE idx signs size k=if idx.getD m 0=(d:Nat) then(if signs/2^m%2=1 then size else-size) else 0 by unfold blE;rw[<-hm,<-hd])
   have HA1:=hid (fun(h:okI (idx.getD m 0)=true)=>show∀j,j<k+1->okI (idx.getD (j%4) 0)=true from fun j hj=>by
    by_cases e:j=k
    ·subst e;rw[<-hm];exact h
    ·exact HA.out j ah)
   have FF:=hid (fun(h:okI (idx.getD m 0)=false)=>FB.out wr (iL (i:=m) (by rw[HL.out];exact hm4) h) HB.out)
   obtain⟨x,hx⟩:∃x,x=idx.getD m 0:=⟨_,rfl⟩
   rw[<-hx] at ci HE HA1 FF
   have m1:(m:Int)<4:=ah
   have m2:(0:Int)<=m:=ah
   have hp0:(0:Int)<2^m:=Int.pow_pos aB
   have b1:0<=signs/2^m:=Int.ediv_nonneg g1 ah
   have HX:=hid hx
   have HM:=hid hm
   have HD:=hid hd
   clear hx hm hd hp0
   by_cases hx0:x<0
   ·have F2:=hid (FF.out (Ql (.inl hx0)))
    go_wp2
    go_ret2
    exact F2.out
   by_cases hx9:9<x
   ·have F2:=hid (FF.out (Ql (.inr hx9)))
    go_wp2
    go_ret2
    exact F2.out
   have HA2:=hid (HA1.out (GZ ah ah))
   have co:=HO.out.cell k (by rw[qN];exact hlt)
   have fo:=HO.out.frozen k
   by_cases he:x=(d:Nat)
   ·have q1:0<=signs/2^m%2:=ah
    have q2:signs/2^m%2<=1:=ah
    obtain⟨b,hb⟩:∃b,b=signs/2^m%2:=⟨_,rfl⟩
    rw[<-hb] at q1 q2
    have hval:size*(2*b-1)=blE idx signs size k:=by
     rw[HE.out,if_pos he,<-hb]
     by_cases h1:b=1
     ·rw[if_pos h1,h1];omega
     obtain rfl:b=0:=ah
     rw[if_neg ah];omega
    obtain⟨v,hv⟩:∃v,v=size*(2*b-1):=⟨_,rfl⟩
    have v1: -32767<=v/\v<=32767:=by
     rw[hv]
     by_cases h1:b=1
     ·rw[h1];omega
     obtain rfl:b=0:=ah
     omega
    obtain⟨v1,v2⟩:=v1
    have NO:=hid (show Own (wr.setCell ⟨w.heap.size+1,k,none⟩ (.int .i64 v)) w.heap.size (some ⟨w.heap.size+1,0,none⟩) 40 (blK idx signs size (k+1)) from by
     rw[<-afq idx signs size hlt v (by rw[hv,hval])]
     exact HO.out.set_ k (by rw[qN];exact hlt) v)
    have NI:=hid (Blk.far HI.out (p:=⟨w.heap.size+1,k,none⟩) (show w.heap.size≠w.heap.size+1 from ah) (.int .i64 v))
    have NB:=hid (HB.out.setCell (p:=⟨w.heap.size+1,k,none⟩) (show w.heap.size<=w.heap.size+1 from ah) (.int .i64 v))
    have hb':signs/2^m%2=b:=hb.symm
    have hv':size*(2*b-1)=v:=hv.symm
    subst he
    clear hb hv hval
    go_wp2
    go_roundw
    case rel=>exact⟨k+1,ah,aO,HA2,NO,NI,NB⟩
    case measure=>simp[intOf]<;>omega
   have NO:=hid (show Own wr w.heap.size (some ⟨w.heap.size+1,0,none⟩) 40 (blK idx signs size (k+1)) from by
    rw[afr idx signs size (by rw[HE.out,if_neg he])];exact HO.out)
   have e1:(x==(d:Int))=false:=by simpa using he
   clear co fo
   go_wp2
   go_roundw
   case rel=>exact⟨k+1,ah,aO,HA2,NO,HI,HB⟩
   case measure=>simp[intOf]<;>omega
  obtain rfl:k=40:=ah
  have hall:idx.all okI=true:=by
   have:allTo okI idx 4:=fun j hj=>by have:=HA.out j ah;rwa [Nat.mod_eq_of_lt hj] at this
   exact this.all L9
  have FF:=hid (FG.out wr _ _ hall (by rw[<-afo];exact HO.out) HB.out)
  clear hall hlt
  go_wp2
  go_ret2
  exact FF.out
def Z4:List Int:=[0,0,0,0]
structure Bst where
 at_:List Int
 first:Bool
 c:Int
 e:Int
def yJ:Bst:=⟨Z4,true,0,0⟩
def fZ(d ring:List Int)(s:Bst)(x:List Int):Bst:=if s.first||dO (scC d x 4) (scE d ring x) s.c s.e then⟨x,false,scC d x 4,scE d ring x⟩ else s
def jk(d ring:List Int)(l:List (List Int)):Bst:=l.foldl (fZ d ring) yJ
theorem ahg(d ring:List Int)(l:List (List Int))(x:List Int):jk d ring (l++[x])=fZ d ring (jk d ring l) x:=by
 unfold jk
 rw[List.foldl_append]
 rfl
theorem DN:Ix Z4:=⟨rfl,aB⟩
theorem ahh{d ring x:List Int}{s:Bst}(h:Ix s.at_)(hx:Ix x):Ix (fZ d ring s x).at_:=by
 unfold fZ
 split
 ·exact hx
 exact h
theorem DR{d ring:List Int}:∀{l:List (List Int)} {s:Bst},Ix s.at_->(∀x∈l,Ix x)->Ix (l.foldl (fZ d ring) s).at_
 |[],_,h,_=>h
 |x::l,s,h,hl=>DR (l:=l) (ahh h (hl x (List.mem_cons_self ..))) fun y hy=>hl y (List.mem_cons_of_mem _ hy)
theorem ahi{d ring x:List Int}{s:Bst}(h:(-9223372036854775808<=s.c/\s.c<=9223372036854775807)/\ -9223372036854775808<=s.e/\s.e<=9223372036854775807):(-9223372036854775808<=(fZ d ring s x).c/\(fZ d ring s x).c<=9223372036854775807)/\ -9223372036854775808<=(fZ d ring s x).e/\(fZ d ring s x).e<=9223372036854775807:=by
 unfold fZ
 split
 ·have:=QY d ring x
  exact⟨QZ d x 4,by show-9223372036854775808<=scE d ring x;omega,by show scE d ring x<=9223372036854775807;omega⟩
 exact h
theorem Ri{d ring:List Int}:∀{l:List (List Int)} {s:Bst},((-9223372036854775808<=s.c/\s.c<=9223372036854775807)/\ -9223372036854775808<=s.e/\s.e<=9223372036854775807)->((-9223372036854775808<=(l.foldl (fZ d ring) s).c/\(l.foldl (fZ d ring) s).c<=9223372036854775807)/\ -9223372036854775808<=(l.foldl (fZ d ring) s).e/\(l.foldl (fZ d ring) s).e<=9223372036854775807)
 |[],_,h=>h
 |x::l,s,h=>Ri (l:=l) (ahi h)
theorem YU(d ring:List Int):∀(l:List (List Int)) (s:Bst),(l.foldl (fZ d ring) s).first=(s.first&&l.isEmpty)
 |[],s=>az
 |x::l,s=>by
  show(l.foldl (fZ d ring) (fZ d ring s x)).first=_
  rw[YU d ring l]
  unfold fZ
  cases hs:s.first<;>simp[hs]
  split<;>simp[hs]
def jL(now:List Int)(t p:Nat):List Int:=now.set t (p:Int)
def jc(now:List Int)(t n:Nat):List (List Int):=(List.range n).map (jL now t)
theorem YV(now:List Int)(t n:Nat):jc now t (n+1)=jc now t n++[jL now t n]:=by unfold jc;rw[List.range_succ,List.map_append];rfl
theorem ahj{x:List Int}(h:qR x=true)(t:Nat){p:Int}(hp:0<=p/\p<=9):qR (x.set t p)=true:=by
 unfold qR at*
 rw[kF] at*
 intro y hy
 rcases List.mem_or_eq_of_mem_set hy with h1|h1
 ·exact h y h1
 subst h1;simpa using hp
theorem YW{now:List Int}(h:Ix now){t p:Nat}(hp:p<10):Ix (jL now t p):=⟨by unfold jL;rw[List.length_set];exact h.1,ahj h.2 t ah⟩
theorem Jc{now:List Int}(h:Ix now)(t:Nat){n:Nat}(hn:n<=10):∀x∈jc now t n,Ix x:=fun x hx=>by
 unfold jc at hx
 obtain⟨k,hk,rfl⟩:=List.mem_map.1 hx
 exact YW h (by have:=List.mem_range.1 hk;omega)
def eu(d ring:List Int):Nat->List Int
 |0=>Z4
 |k+1=>(jk d ring (jc (eu d ring k) (k%4) 10)).at_
theorem wz(d ring:List Int)(k:Nat):Ix (eu d ring k):=by
 induction k with
 |zero=>exact DN
 |succ k ih=>exact DR DN (Jc ih _ (al0z _))
def gZ(d x:List Int):Nat->Nat
 |0=>0
 |t+1=>if 0<=d.getD (plc x t) 0 then gZ d x t+2^t else gZ d x t
theorem DT(d x:List Int)(t:Nat):gZ d x t<2^t:=by
 induction t with
 |zero=>simp[gZ]
 |succ t ih=>
  unfold gZ
  rw[Nat.pow_succ]
  split<;>omega
def mg(d x:List Int)(t:Nat):Int:=(gZ d x t:Nat)
def iV(d ring:List Int):Int:=if d.length=40/\ring.length=40 then(if d.all (fun x=>decide (-1099511627776<=x/\x<=1099511627776)) then 0 else 2) else 1
def seX(d ring x:List Int):List Int:=if iV d ring=0 then x else Z4
def seS(d ring x:List Int):Int:=if iV d ring=0 then mg d x 4 else 0
structure Nx(w wr:World)(p ys:List Int):Prop where
 A:IB wr w.heap.size 22 p
 R:IB wr (w.heap.size+1) 22 Z8
 O:IB wr (w.heap.size+2) 22 ys
 bel:Below w.heap.size w wr
theorem Nx.start(w:World)(p:List Int):Nx w (((w.alloc (.cells (agi p) 22)).alloc (.cells (agi Z8) 22)).alloc (.cells (agi Z8) 22)) p Z8:=by
 have h1:=IB.new w 22 p
 have h2:=IB.new (w.alloc (.cells (agi p) 22)) 22 Z8
 have h3:=IB.new ((w.alloc (.cells (agi p) 22)).alloc (.cells (agi Z8) 22)) 22 Z8
 exact l43
theorem Nx.set_{w wr:World}{p ys:List Int}(h:Nx w wr p ys)(k:Nat)(x:Int):Nx w (wr.setCell ⟨w.heap.size+2,k,none⟩ (.int .i64 x)) p (ys.set k x):=
 ⟨Blk.far h.A (by show w.heap.size≠w.heap.size+2;omega) _,Blk.far h.R (by show w.heap.size+1≠w.heap.size+2;omega) _,IB.set_ h.O k x,h.bel.setCell (p:=⟨w.heap.size+2,k,none⟩) (by show w.heap.size<=w.heap.size+2;omega) _⟩
theorem Nx.drew{w wr:World}{p ys:List Int}(h:Nx w wr p ys):Nx w wr.drew p ys:=⟨h.A,h.R,h.O,h.bel.drew⟩
theorem Y0(p l:List Int)(A:Option Addr)(c n B:Nat)(w:World)(hp:p.length=8)(hr:Rs w w.heap.size A l)(hn:l.length=n)(hl:n<=17592186044416):
 Calls Tryz.prog 137 #[.agg (agi p),.slice A n c] w fun e w'=>e=.returned (.agg (agi (dY p l)))/\Below w.heap.size w w':=by
 have hR:=x8 (fn:=Tryz.f137) (p:=4) (ty:=22) rfl
 have S0:=Nx.start w p
 rw[bW] at S0
 have S0:=hid S0
 have HP:=hid hp
 have HN:=hid hn
 have HR:=hid hr
 have FL:=hid (aeU (l:=l) hp)
 clear hp hn hr
 go_enter Tryz.func137,Tryz.ntmps137
 go_wp2
 go_loopw[7] (fun iv wr=> ∃(k:Nat) (ys:List Int),k<=8/\iv=.int .i64 k/\Hid (ys.length=8/\∀j,j<k->ys.getD j 0=qL p l j)/\Hid (Nx w wr p ys)) (fun iv _=>8-(intOf iv).toNat)
 case atStart=>exact⟨0,Z8,ah,rfl,hid ⟨rfl,fun j h=>ah⟩,S0⟩
 case round=>
  clear S0
  obtain⟨k,ys,hk,rfl,HY,HS⟩:=hrel
  have f0:=fun i=>Blk.frozen HS.out.O i
  by_cases hlt:k<8
  ·have NEXT:=fun x (hx:x=qL p l k)=>hid (show(ys.set k x).length=8/\∀j,j<k+1->(ys.set k x).getD j 0=qL p l j from by
    obtain⟨y1,y2⟩:=HY.out
    refine⟨by simpa using y1,fun j hj=>?_⟩
    by_cases he:k=j
    ·subst he
     rw[gQ _ _ _ ah,hx]
    ·rw[iw _ _ he]
     exact y2 j ah)
   have cy:=IB.cell HS.out.O k EW
   have fy:=f0 k
   clear f0
   by_cases hin:k<n
   ·obtain⟨d,hd⟩:∃d:Nat,n=k+1+d:=⟨n-(k+1),ah⟩
    obtain⟨ad,rfl,_,c1⟩:=(HR.out.below HS.out.bel).at_ (k:=d) BG
    have HX:=NEXT (l.getD d 0) (by unfold qL;rw[if_pos (by rw[HN.out];exact hin),HN.out];congr 1;omega)
    have SX:=hid (HS.out.set_ k (l.getD d 0))
    have SD:=hid (SX.out.drew)
    have hw1:IntKind.i64.wrap ((n:Int)-1)=(n:Int)-1:=aN
    have hw2:IntKind.i64.wrap ((n:Int)-1-(k:Int))=(d:Nat):=aN
    generalize l.getD d 0=x at*
    have hdi:(d:Int)<n:=ah
    exact abY
   obtain⟨d,hd⟩:∃d:Nat,k=n+d:=⟨k-n,ah⟩
   have c1:=IB.cell HS.out.A d (by rw[HP.out];omega)
   have HX:=NEXT (p.getD d 0) (by unfold qL;rw[if_neg (by rw[HN.out];exact hin),HN.out];congr 1;omega)
   have SX:=hid (HS.out.set_ k (p.getD d 0))
   have hw2:IntKind.i64.wrap ((k:Int)-(n:Int))=(d:Nat):=aN
   generalize p.getD d 0=x at*
   have hdi:(d:Int)<8:=ah
   have hd8:d<8:=ah
   exact abY
  obtain rfl:k=8:=ah
  have YE:=hid (show ys=dY p l from by
   rw[FL.out]
   obtain⟨y1,y2⟩:=HY.out
   exact bV (by rw[y1];simp) fun j hj=>by rw[y2 j ah];simp[show j<8 from ah])
  have LY:=hid HY.out.1
  clear hlt f0
  have hRow:=hid (IB.setRow HS.out.R ys)
  have FIN:=hid (aS HS.out.bel (g:=w.heap.size+1) ah (agi ys))
  go_wp2_with(first
   |(refine aK rfl 22 (.tmp 5) rfl _ 22 ys 8 _ rfl HS.out.O Tryz.underlying22 rfl aH LY.out ?_)
   |(refine aP rfl 22 (.tmp 4) (.tmp 33) rfl _ 22 Z8 ys 8 rfl rfl HS.out.R aH rfl LY.out ?_))
  refine bg (v:=_) (hR _ _ _ 22 ys _ 8 rfl hRow.out Tryz.underlying22 rfl aH LY.out) rfl ?_
  exact⟨by rw[YE.out],FIN.out⟩
theorem DV(q0 q1 q2 q3 q4 q5 q6 q7:Int):agi [q0,q1,q2,q3,q4,q5,q6,q7]= #[.int .i64 q0,.int .i64 q1,.int .i64 q2,.int .i64 q3,.int .i64 q4,.int .i64 q5,.int .i64 q6,.int .i64 q7]:=rfl
theorem ahw(a p l:List Int)(A:Option Addr)(c n m:Nat)(w:World)(ha:a.length=9)(hp:p.length=8)(oa:okP a=true)(op:aG p=true)(ol:aG l=true)(hr:Rs w w.heap.size A l)(hn:l.length=n)(hl:n<=17592186044416)(hm:m<=n)(hc:n<=c):
 Calls Tryz.prog 136 #[.agg (agi a),.agg (agi p),.slice A n c,.int .i64 m] w fun e w'=>e=.returned (.int .i64 (ni a (dY p (l.take m))))/\Below w.heap.size w w':=by
 obtain⟨p0,p1,p2,p3,p4,p5,p6,p7,rfl⟩:=Rj hp
 obtain⟨ys,hy⟩:∃ys,ys=dY [p0,p1,p2,p3,p4,p5,p6,p7] (l.take m):=⟨_,rfl⟩
 have hyl:ys.length=8:=by rw[hy];exact qK _ _ rfl
 have h16:aG ys=true:=by rw[hy];exact Dc _ _ op (WY ol m)
 have KN:=fun(W:World) (hW:Rs W W.heap.size A (l.take m))=>Y0 [p0,p1,p2,p3,p4,p5,p6,p7] (l.take m) A c m 0 W rfl hW aJ ah
 rw[<-hy] at KN|-
 obtain⟨y0,y1,y2,y3,y4,y5,y6,y7,rfl⟩:=Rj hyl
 rw[DV,DV] at KN
 have KN:=hid KN
 have hI:=IB.new w 90 a
 have hJ:=IB.new (w.alloc (.cells (agi a) 90)) 22 [p0,p1,p2,p3,p4,p5,p6,p7]
 simp only[bU] at hJ
 have hI:=Blk.alloc hI (.cells (agi [p0,p1,p2,p3,p4,p5,p6,p7]) 22)
 have hB:=(((aA _ w).alloc (al0z _) (.cells (agi a) 90)).alloc az (.cells (agi [p0,p1,p2,p3,p4,p5,p6,p7]) 22))
 have hs:((w.alloc (.cells (agi a) 90)).alloc (.cells (agi [p0,p1,p2,p3,p4,p5,p6,p7]) 22)).heap.size=w.heap.size+1+1:=az
 have hr1:=hr.below hB
 have HA:=hid ha
 have OA:=hid oa
 have HY:=hid hy
 have H16:=hid h16
 rw[DV] at hI hJ hB hs hr1
 generalize hW:(w.alloc (.cells (agi a) 90)).alloc (.cells #[.int .i64 p0,.int .i64 p1,.int .i64 p2,.int .i64 p3,.int .i64 p4,.int .i64 p5,.int .i64 p6,.int .i64 p7] 22)=W at hI hJ hB hs hr1
 have c0:W.cell? ⟨w.heap.size+1,0,none⟩=some (.int .i64 p0):=IB.cell hJ 0 az
 have c1:W.cell? ⟨w.heap.size+1,1,none⟩=some (.int .i64 p1):=IB.cell hJ 1 az
 have c2:W.cell? ⟨w.heap.size+1,2,none⟩=some (.int .i64 p2):=IB.cell hJ 2 az
 have c3:W.cell? ⟨w.heap.size+1,3,none⟩=some (.int .i64 p3):=IB.cell hJ 3 az
 have c4:W.cell? ⟨w.heap.size+1,4,none⟩=some (.int .i64 p4):=IB.cell hJ 4 az
 have c5:W.cell? ⟨w.heap.size+1,5,none⟩=some (.int .i64 p5):=IB.cell hJ 5 az
 have c6:W.cell? ⟨w.heap.size+1,6,none⟩=some (.int .i64 p6):=IB.cell hJ 6 az
 have c7:W.cell? ⟨w.heap.size+1,7,none⟩=some (.int .i64 p7):=IB.cell hJ 7 az
 have HR2:=hid (fun W2 (hb:Below W.heap.size W W2)=>(((hr1.take (k:=m) ah).below (hb.mono ah)).more (show w.heap.size<=W2.heap.size from by have:=hb.size;omega)))
 have hm1:(m:Int)<=c:=ah
 have hm0:(0:Int)<=m:=ah
 have hmc:m<=c:=ah
 have HI:=hid hI
 have HB:=hid hB
 have HW:=hid hW
 have HS:=hid hs
 clear hy hyl h16 hI hJ hB hr1 hs oa op ol ha hr hn
 go_enter Tryz.func136,Tryz.ntmps136
 go_wp2
 rw[DV,hW]
 clear hW
 have HRZ:=hid (HR2.out (W.alloc (.cells (agi Z8) 22)).drew (Below.drew ((aA _ _).alloc (al0z _) _)))
 have KZ:=hid (KN.out (W.alloc (.cells (agi Z8) 22)).drew HRZ.out)
 rw[bW] at KZ
 have hltJ:w.heap.size+1<W.heap.size:=by have:=HS.out;omega
 have hne1: ¬W.heap.size=w.heap.size+1:=ah
 have hne2: ¬w.heap.size+1=W.heap.size:=ah
 go_region_held3 (fun w'=>w'.cell? ⟨w.heap.size+1,0,none⟩=some (.int .i64 p0)/\w'.cell? ⟨w.heap.size+1,1,none⟩=some (.int .i64 p1)/\w'.cell? ⟨w.heap.size+1,2,none⟩=some (.int .i64 p2)/\w'.cell? ⟨w.heap.size+1,3,none⟩=some (.int .i64 p3)/\w'.cell? ⟨w.heap.size+1,4,none⟩=some (.int .i64 p4)/\w'.cell? ⟨w.heap.size+1,5,none⟩=some (.int .i64 p5)/\w'.cell? ⟨w.heap.size+1,6,none⟩=some (.int .i64 p6)/\w'.cell? ⟨w.heap.size+1,7,none⟩=some (.int .i64 p7)) (go_keep) (first
  |(go_at_call 137;(with_reducible refine(KN.out W.drew (HR2.out _ (Below.drew (aA _ _)))).mono ?_);rintro e w2 ⟨rfl,hB⟩;have HB2:=hid hB;clear hB;have hz2:W.heap.size<=w2.heap.size:=HB2.out.size;have n1: ¬w2.heap.size=w.heap.size+1:=ah;have n2: ¬w.heap.size+1=w2.heap.size:=ah;have k0:=(HB2.out.cell (p:=⟨w.heap.size+1,0,none⟩) (show w.heap.size+1<W.drew.heap.size from hltJ)).trans c0;have k1:=(HB2.out.cell (p:=⟨w.heap.size+1,1,none⟩) (show w.heap.size+1<W.drew.heap.size from hltJ)).trans c1;have k2:=(HB2.out.cell (p:=⟨w.heap.size+1,2,none⟩) (show w.heap.size+1<W.drew.heap.size from hltJ)).trans c2;have k3:=(HB2.out.cell (p:=⟨w.heap.size+1,3,none⟩) (show w.heap.size+1<W.drew.heap.size from hltJ)).trans c3;have k4:=(HB2.out.cell (p:=⟨w.heap.size+1,4,none⟩) (show w.heap.size+1<W.drew.heap.size from hltJ)).trans c4;have k5:=(HB2.out.cell (p:=⟨w.heap.size+1,5,none⟩) (show w.heap.size+1<W.drew.heap.size from hltJ)).trans c5;have k6:=(HB2.out.cell (p:=⟨w.heap.size+1,6,none⟩) (show w.heap.size+1<W.drew.heap.size from hltJ)).trans c6;have k7:=(HB2.out.cell (p:=⟨w.heap.size+1,7,none⟩) (show w.heap.size+1<W.drew.heap.size from hltJ)).trans c7)
  |(go_at_call 137;(with_reducible refine KZ.out.mono ?_);rintro e w2 ⟨rfl,hB⟩;have b9:IB w2 W.heap.size 22 Z8:=Blk.below' (Blk.drew (IB.new W 22 Z8)) hB;have z0:w2.cell? ⟨W.heap.size,0,none⟩=some (.int .i64 0):=IB.cell b9 0 aB;have g0:w2.frozen? ⟨W.heap.size,0,none⟩=false:=Blk.frozen b9 0;have z1:w2.cell? ⟨W.heap.size,1,none⟩=some (.int .i64 0):=IB.cell b9 1 aB;have g1:w2.frozen? ⟨W.heap.size,1,none⟩=false:=Blk.frozen b9 1;have z2:w2.cell? ⟨W.heap.size,2,none⟩=some (.int .i64 0):=IB.cell b9 2 aB;have g2:w2.frozen? ⟨W.heap.size,2,none⟩=false:=Blk.frozen b9 2;have z3:w2.cell? ⟨W.heap.size,3,none⟩=some (.int .i64 0):=IB.cell b9 3 aB;have g3:w2.frozen? ⟨W.heap.size,3,none⟩=false:=Blk.frozen b9 3;have z4:w2.cell? ⟨W.heap.size,4,none⟩=some (.int .i64 0):=IB.cell b9 4 aB;have g4:w2.frozen? ⟨W.heap.size,4,none⟩=false:=Blk.frozen b9 4;have z5:w2.cell? ⟨W.heap.size,5,none⟩=some (.int .i64 0):=IB.cell b9 5 aB;have g5:w2.frozen? ⟨W.heap.size,5,none⟩=false:=Blk.frozen b9 5;have z6:w2.cell? ⟨W.heap.size,6,none⟩=some (.int .i64 0):=IB.cell b9 6 aB;have g6:w2.frozen? ⟨W.heap.size,6,none⟩=false:=Blk.frozen b9 6;have z7:w2.cell? ⟨W.heap.size,7,none⟩=some (.int .i64 0):=IB.cell b9 7 aB;have g7:w2.frozen? ⟨W.heap.size,7,none⟩=false:=Blk.frozen b9 7;have HB2:=hid hB;have B9:=hid b9;clear hB b9;have k0:=(HB2.out.cell (p:=⟨w.heap.size+1,0,none⟩) aJ).trans (((aA _ W).alloc (al0z _) _).cell (p:=⟨w.heap.size+1,0,none⟩) hltJ|>.trans c0);have k1:=(HB2.out.cell (p:=⟨w.heap.size+1,1,none⟩) aJ).trans (((aA _ W).alloc (al0z _) _).cell (p:=⟨w.heap.size+1,1,none⟩) hltJ|>.trans c1);have k2:=(HB2.out.cell (p:=⟨w.heap.size+1,2,none⟩) aJ).trans (((aA _ W).alloc (al0z _) _).cell (p:=⟨w.heap.size+1,2,none⟩) hltJ|>.trans c2);have k3:=(HB2.out.cell (p:=⟨w.heap.size+1,3,none⟩) aJ).trans (((aA _ W).alloc (al0z _) _).cell (p:=⟨w.heap.size+1,3,none⟩) hltJ|>.trans c3);have k4:=(HB2.out.cell (p:=⟨w.heap.size+1,4,none⟩) aJ).trans (((aA _ W).alloc (al0z _) _).cell (p:=⟨w.heap.size+1,4,none⟩) hltJ|>.trans c4);have k5:=(HB2.out.cell (p:=⟨w.heap.size+1,5,none⟩) aJ).trans (((aA _ W).alloc (al0z _) _).cell (p:=⟨w.heap.size+1,5,none⟩) hltJ|>.trans c5);have k6:=(HB2.out.cell (p:=⟨w.heap.size+1,6,none⟩) aJ).trans (((aA _ W).alloc (al0z _) _).cell (p:=⟨w.heap.size+1,6,none⟩) hltJ|>.trans c6);have k7:=(HB2.out.cell (p:=⟨w.heap.size+1,7,none⟩) aJ).trans (((aA _ W).alloc (al0z _) _).cell (p:=⟨w.heap.size+1,7,none⟩) hltJ|>.trans c7)))
 ·have IA:=Blk.alloc (Blk.below' (Blk.drew HI.out) HB2.out) (.cells (agi [y0,y1,y2,y3,y4,y5,y6,y7]) 22)
  have IY:=IB.new w2 22 [y0,y1,y2,y3,y4,y5,y6,y7]
  have IL:=((HB.out.drew).trans (HB2.out.mono (show w.heap.size<=W.drew.heap.size from(show w.heap.size<=W.heap.size from ah)))).alloc (show w.heap.size<=w2.heap.size from ah) (.cells (agi [y0,y1,y2,y3,y4,y5,y6,y7]) 22)
  rw[DV] at IA IL
  generalize hV:World.alloc w2 _=V
  rw[hV] at IA IL
  have IY2:IB V w2.heap.size 22 [y0,y1,y2,y3,y4,y5,y6,y7]:=by rw[<-hV];exact IY
  generalize w2.heap.size=g9 at*
  exact l8
 ·have IA0:=Blk.below' (Blk.drew (Blk.alloc HI.out (.cells (agi Z8) 22))) HB2.out
  have far:∀(W2:World) (i:Nat) (v:Value),Blk W2 w.heap.size 90 (agi a)->Blk (W2.setCell ⟨W.heap.size,i,none⟩ v) w.heap.size 90 (agi a):=fun W2 i v h=>Blk.far h (show w.heap.size≠W.heap.size from ah) v
  have IA:=far _ 7 (.int .i64 y7) (far _ 6 (.int .i64 y6) (far _ 5 (.int .i64 y5) (far _ 4 (.int .i64 y4) (far _ 3 (.int .i64 y3) (far _ 2 (.int .i64 y2) (far _ 1 (.int .i64 y1) (far _ 0 (.int .i64 y0) IA0)))))))
  have IY2:=IB.set8 B9.out y0 y1 y2 y3 y4 y5 y6 y7
  have IL:=Y5 (((HB.out.alloc (show w.heap.size<=W.heap.size from ah) (.cells (agi Z8) 22)).drew).trans (HB2.out.mono aJ)) (show w.heap.size<=W.heap.size from ah) y0 y1 y2 y3 y4 y5 y6 y7
  generalize World.setCell _ _ _=V at*
  generalize W.heap.size=g9 at*
  exact l8
end Go.Proofs.YthoiikkjjaldnaaGreatDoor
