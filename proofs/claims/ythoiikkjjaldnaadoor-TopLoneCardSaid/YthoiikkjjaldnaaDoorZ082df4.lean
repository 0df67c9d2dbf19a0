/- Texts that the law rests on, laid together: UnC, ChW. -/
import Derived.Test.YthoiikkjjaldnaaDoorZ306d7b
import Derived.Test.YthoiikkjjaldnaaDoorZ6c66eb
import Derived.BigRegion
import Derived.Test.YthoiikkjjaldnaaDoorZcd3929
import Derived.Test.YthoiikkjjaldnaaDoorZe3ce3e
import Derived.Test.YthoiikkjjaldnaaDoorZcd86f7
import Derived.Deep.RegionHeld3
set_option maxHeartbeats 4000000
namespace Go.Proofs.YthoiikkjjaldnaaDoor
set_option linter.unusedVariables false
set_option linter.unusedSimpArgs false
set_option maxRecDepth 100000
open Go.RowKit
theorem and1b {y:Nat} (hy:y<256):bits BinOp.and IntKind.u8 (y:Int) 1=((y%2:Nat):Int):=by
 have h:(BitVec.ofInt 8 (y:Int)&&&BitVec.ofInt 8 1).toNat=y%2:=by
  rw[BitVec.toNat_and,BitVec.toNat_ofInt,show(BitVec.ofInt 8 1).toNat=2^1-1 from by decide,Nat.and_two_pow_sub_one_eq_mod]
  omega
 show IntKind.u8.wrap ((BitVec.ofInt 8 (y:Int)&&&BitVec.ofInt 8 1).toNat:Int)=_
 rw[h,IntKind.wrap_u8]
 omega
theorem or1 {x u:Nat} (hx:x<1000000) (hu:u<2):bits BinOp.or IntKind.i64 ((x*2:Nat):Int) (u:Int)=((x*2+u:Nat):Int):=by
 have e:x*2+u=x*2|||u:=by
  have h1:=Nat.shiftLeft_add_eq_or_of_lt (a:=x) (b:=u) (i:=1) (by omega)
  rw[Nat.shiftLeft_eq] at h1
  exact h1
 have h:(BitVec.ofInt 64 ((x*2:Nat):Int)|||BitVec.ofInt 64 (u:Int)).toNat=x*2+u:=by
  rw[BitVec.toNat_or,BitVec.toNat_ofInt,BitVec.toNat_ofInt,e]
  congr 1<;>omega
 show IntKind.i64.wrap ((BitVec.ofInt 64 ((x*2:Nat):Int)|||BitVec.ofInt 64 (u:Int)).toNat:Int)=_
 rw[h,IntKind.wrap_i64]
 omega
structure Ust (gB gA:Nat) (A:Option Addr) (c:Nat) (xs:List Int) (n:Nat) (W:World):Prop where
 R:Rb W gB A xs
 B:Blk W gB 39 #[.slice A 15 c]
 A:Blk W gA 3 #[.int .i64 (n:Nat)]
 l1:gB<gA
section
variable {gB gA c n:Nat} {A:Option Addr} {xs:List Int} {W W':World}
theorem Ust.below (s:Ust gB gA A c xs n W) (hb:Below W.heap.size W W'):Ust gB gA A c xs n W':=⟨s.R.below (hb.mono (Nat.le_of_lt (Blk.lt s.B))),Blk.below' s.B hb,Blk.below' s.A hb,s.l1⟩
theorem Ust.drewN (s:Ust gB gA A c xs n W) (k:Nat):Ust gB gA A c xs n (W.drewN k):=⟨s.R,s.B,s.A,s.l1⟩
theorem Ust.put (s:Ust gB gA A c xs n W) (m:Nat):Ust gB gA A c xs m (W.setCell ⟨gA,0,none⟩ (.int .i64 (m:Nat))):=by
 have h1:=s.l1
 refine⟨s.R.below ((Below.refl _ _).setCell (p:=⟨gA,0,none⟩) (by show gB<=gA;omega) _),Blk.far s.B (p:=⟨gA,0,none⟩) (by show gB≠gA;omega) _,?_,h1⟩
 exact Blk.set_ s.A 0 (.int .i64 (m:Nat))
theorem Ust.far (s:Ust gB gA A c xs n W) {p:Addr} (h1:gB<p.block) (h2:gA≠p.block) (v:Value):Ust gB gA A c xs n (W.setCell p v):=
 ⟨s.R.below ((Below.refl _ _).setCell (by omega) _),Blk.far s.B (by omega) v,Blk.far s.A h2 v,s.l1⟩
end
theorem TwoP.drewN {g h:Nat} {w w1:World} (a:TwoP g h w w1) (k:Nat):TwoP g h w (w1.drewN k):=⟨a.os,a.tape,a.output,a.size,a.keep⟩
theorem get_any (gB gA c a n:Nat) (A:Option Addr) (xs:List Int) (w:World) (S:Ust gB gA A c xs a w) (hx:Byts xs) (hl:xs.length=15) (hc:15<=c) (hn:n<=6) (ha:a+n<=112):
 Calls Tryd.prog 72 #[.int .i64 n,.pointer (some ⟨gB,0,none⟩),.pointer (some ⟨gA,0,none⟩)] w
  (fun e w'=>e= .returned (.int .i64 (gt (unV xs) a n:Nat))/\Ust gB gA A c xs (a+n) w'/\TwoP gA gA w w'):=by
 have S0:=hid S
 have HX:=hid hx
 have HL:=hid hl
 clear S hx hl
 go_enter Tryd.func72,Tryd.ntmps72
 go_wp2
 go_loopw [5,7] (fun vv iv wr=> ∃m:Nat,m<=n/\iv= .int .i64 m/\vv= .int .i64 (gt (unV xs) a m:Nat)/\Hid (Ust gB gA A c xs (a+m) wr)/\Hid (TwoP gA gA w wr)) (fun _ iv _=>n-(intOf iv).toNat)
 case atStart=>exact⟨0,by omega,rfl,by unfold gt;simp[Nat.mod_one],S0,hid (TwoP.refl _ _ _)⟩
 case round=>
  clear S0
  obtain⟨m,hm,rfl,rfl,HS,HT⟩:=hrel
  by_cases hlt:m<n
  ·obtain⟨K,hA⟩: ∃K,K=a+m:=⟨_,rfl⟩
   rw[<-hA] at HS
   obtain⟨j,hj⟩: ∃j,j=K/8:=⟨_,rfl⟩
   obtain⟨q,hq⟩: ∃q,q=7-K%8:=⟨_,rfl⟩
   obtain⟨P,hP⟩: ∃P,P=112-a-(m+1):=⟨_,rfl⟩
   have hj14:j<14:=by omega
   have hq8:q<8:=by omega
   have hPe:8*(13-j)+q=P:=by omega
   obtain⟨ad,rfl,had,c0⟩:=HS.out.R.at_ (k:=j) (by rw[HL.out];omega)
   have hd:=nb_dig HX.out hj14
   have hxj:=HX.out j
   have hbit:=gt_bit (V:=unV xs) (e:=8*(13-j)) hq8
   obtain⟨e0,he0⟩: ∃e0,e0=digE (unV xs) (8*(13-j)):=⟨_,rfl⟩
   have he256:e0<256:=by rw[he0];exact digE_lt _ _
   have hxe:xs.getD j 0=(e0:Nat):=by
    have:e0=(xs.getD j 0).toNat:=by rw[he0];exact hd
    omega
   rw[hxe] at c0
   rw[<-he0,hPe] at hbit
   obtain⟨y,hy⟩: ∃y,y=e0/2^q:=⟨_,rfl⟩
   rw[<-hy] at hbit
   have hy256:y<256:=by rw[hy];exact Nat.lt_of_le_of_lt (Nat.div_le_self _ _) he256
   obtain⟨u,hu⟩: ∃u,u=y%2:=⟨_,rfl⟩
   have hu2:u<2:=by omega
   have G1:=hid (show gt (unV xs) a (m+1)=gt (unV xs) a m*2+u from by
    unfold gt
    rw[<-hP,show 112-a-m=P+1 by omega,hu,hbit,Nat.shiftRight_succ]
    exact(gt_step _ _).symm)
   have hv64:gt (unV xs) a m<64:=Nat.lt_of_lt_of_le (gt_lt _ _ _) (show 2^m<=2^6 from Nat.pow_le_pow_right (by decide) (by omega))
   generalize gt (unV xs) a m=v at*
   have hyd:(e0:Int)/2^q=(y:Nat):=by rw[hy];simp
   have hand:=and1b hy256
   rw[<-hu] at hand
   have hor:=or1 (x:=v) (u:=u) (by omega) hu2
   obtain⟨v2,hv2⟩: ∃v2,v2=v*2:=⟨_,rfl⟩
   obtain⟨v3,hv3⟩: ∃v3,v3=v*2+u:=⟨_,rfl⟩
   rw[<-hv3] at hor G1
   rw[<-hv2] at hor
   have hvd:(v:Int)*2=((v2:Nat):Int):=by omega
   have hvw:IntKind.i64.wrap ((v2:Nat):Int)=((v2:Nat):Int):=by rw[IntKind.wrap_i64];omega
   clear hv2 hv3
   have hdj:(K:Int)/8=(j:Nat):=by omega
   have hdr:IntKind.i64.wrap (7-(K:Int)%8)=(q:Nat):=by rw[IntKind.wrap_i64];omega
   have hqu:IntKind.u64.wrap ((q:Nat):Int)=(q:Nat):=by rw[IntKind.wrap_u64];omega
   have hui:IntKind.i64.wrap ((u:Nat):Int)=(u:Nat):=by rw[IntKind.wrap_i64];omega
   have q0:(0:Int)<=q:=by omega
   have q64:(q:Int)<64:=by omega
   have j0:(0:Int)<=j:=by omega
   have j15:(j:Int)<15:=by omega
   have cB:wr.cell? ⟨gB,0,none⟩=some (.slice (some ad) 15 c):=Blk.cell HS.out.B 0
   have cA:wr.cell? ⟨gA,0,none⟩=some (.int .i64 (K:Nat)):=Blk.cell HS.out.A 0
   have fA:=Blk.frozen HS.out.A 0
   have hK1:IntKind.i64.wrap ((K:Int)+1)=(K:Int)+1:=by rw[IntKind.wrap_i64];omega
   have SN:=hid ((HS.out.drewN 1).put (K+1))
   have TN:=hid ((HT.out.drewN 1).set1 0 (.int .i64 ((K+1:Nat):Int)))
   have HA:=hid hA
   clear hA hj hq hP hPe hd hxj hbit he0 hxe hy hu had
   go_wp2
   go_region
   go_wp2
   go_roundw
   case rel=>exact⟨m+1,by omega,by go_num,by rw[G1.out],hid (by rw[show a+(m+1)=K+1 by have:=HA.out;omega];exact SN.out),TN⟩
   case measure=>simp[intOf]<;>omega
  ·obtain rfl:m=n:=by omega
   go_wp2
   go_ret
   exact⟨rfl,HS.out,HT.out⟩
end Go.Proofs.YthoiikkjjaldnaaDoor
namespace Go.Proofs.YthoiikkjjaldnaaDoor
set_option linter.unusedVariables false
set_option linter.unusedSimpArgs false
set_option maxRecDepth 100000
open Go.RowKit
theorem upto_setN {f:Nat->Int} {ys:List Int} {n k:Nat} (hl:ys.length=n) (h: ∀j,j<k->ys.getD j 0=f j) (hk:k<n):(ys.set k (f k)).length=n/\∀j,j<k+1->(ys.set k (f k)).getD j 0=f j:=by
 refine⟨by simpa using hl,fun j hj=>?_⟩
 by_cases e:k=j
 ·subst e;exact get_set_same _ _ _ (by omega)
 ·rw[get_set_other _ _ e];exact h j (by omega)
theorem upto_allN {f:Nat->Int} {ys:List Int} {n:Nat} (hl:ys.length=n) (h: ∀j,j<n->ys.getD j 0=f j):ys=(List.range n).map f:=
 list_ext (by simpa using hl) fun k hk=>by rw[hl] at hk;rw[h k hk,range_get f hk]
theorem addB (a:Addr) (n:Nat):(a.add n).block=a.block:=by unfold Addr.add;split<;>rfl
theorem less_any (A A2:Option Addr) (c c2:Nat) (a b:List Int) (w:World) (hr:Rs w w.heap.size A a) (hr2:Rs w w.heap.size A2 b) (hn:a.length=40) (hm:b.length=40) (h1:In16 a) (h2:In16 b):
 Calls Tryd.prog 49 #[.slice A 40 c,.slice A2 40 c2] w (NewS w (lessL a b 40)):=by
 have HX:=hid hr
 have HY:=hid hr2
 have HN:=hid hn
 have HM:=hid hm
 have H1:=hid h1
 have H2:=hid h2
 clear hr hr2 hn hm h1 h2
 go_enter Tryd.func49,Tryd.ntmps49
 go_wp2_with (at_make;refine wpList_makeI rfl _ _ rfl .i64 .i64 40 rfl rfl w.heap.size (by omega) (Nat.le_refl _) ?_;intro w1 hO hG;have O1:=hid hO;have B1:=hid ((Below.refl w.heap.size w).grown hG (Nat.le_refl _) (by simp));clear hO hG)
 go_loopw [6,12] (fun _ iv wr=> ∃(k:Nat) (ys:List Int),k<=40/\iv= .int .i64 k/\Hid (ys.length=40/\∀j,j<k->ys.getD j 0=lessE a b j)/\Hid (Own wr w.heap.size (some ⟨w.heap.size,0,none⟩) 40 ys)/\Hid (Below w.heap.size w wr)) (fun _ iv _=>40-(intOf iv).toNat)
 case atStart=>exact⟨0,_,by omega,rfl,hid ⟨by simp,fun j h=>by omega⟩,O1,B1⟩
 case round=>
  clear O1 B1
  obtain⟨k,ys,hk,rfl,HY2,HO,HB⟩:=hrel
  by_cases hlt:k<40
  ·obtain⟨ad,rfl,hadb,k0⟩:=(HX.out.below HB.out).at_ (k:=k) (by rw[HN.out];exact hlt)
   obtain⟨ae,rfl,haeb,k1⟩:=(HY.out.below HB.out).at_ (k:=k) (by rw[HM.out];exact hlt)
   have x16:=H1.out k
   have y16:=H2.out k
   have cp:=HO.out.cell k (by rw[HY2.out.1];exact hlt)
   have fp:=HO.out.frozen k
   have NO:=hid (HO.out.set_ k (by rw[HY2.out.1];exact hlt) (lessE a b k))
   have NB:=hid (HB.out.setCell (p:=⟨w.heap.size,k,none⟩) (Nat.le_refl _) (.int .i64 (lessE a b k)))
   have NX:=hid (upto_setN (f:=lessE a b) HY2.out.1 HY2.out.2 hlt)
   have KS:=hid (fun W=>show Calls Tryd.prog 81 #[.int .i64 (a.getD k 0-b.getD k 0)] W (fun e w'=>e= .returned (.int .i64 (lessE a b k))/\W=w') from codersat_any _ W)
   generalize lessE a b k=z at*
   generalize a.getD k 0=x at*
   generalize b.getD k 0=y at*
   have hw1:IntKind.i64.wrap (x-y)=x-y:=by rw[IntKind.wrap_i64];omega
   have i40:(k:Int)<40:=by omega
   have hadn:ad.block≠w.heap.size:=by omega
   have haen:ae.block≠w.heap.size:=by omega
   have P1:(wr.setCell ⟨w.heap.size,k,none⟩ (.int .i64 z)).drew.cell? (ad.add k)=some (.int .i64 x):=by
    show(wr.setCell ⟨w.heap.size,k,none⟩ (.int .i64 z)).cell? (ad.add k)=_
    refine(World.cell?_setCell_far _ _ _ _ fun e=>hadn ?_).trans k0
    first|exact(addB _ _).symm.trans e.symm|exact(addB _ _).symm.trans e
   have P2:(wr.setCell ⟨w.heap.size,k,none⟩ (.int .i64 z)).drew.cell? (ae.add k)=some (.int .i64 y):=by
    show(wr.setCell ⟨w.heap.size,k,none⟩ (.int .i64 z)).cell? (ae.add k)=_
    refine(World.cell?_setCell_far _ _ _ _ fun e=>haen ?_).trans k1
    first|exact(addB _ _).symm.trans e.symm|exact(addB _ _).symm.trans e
   go_wp2
   go_region_held3 (fun w'=>w'.cell? (ad.add k)=some (.int .i64 x)/\w'.cell? (ae.add k)=some (.int .i64 y)) (first|(exact⟨P1,P2⟩)|go_keep) (first
    |(go_at_call 81;(with_reducible refine(KS.out _).mono ?_);rintro e w' ⟨rfl,rfl⟩))
   go_wp2
   go_roundw
   case rel=>exact⟨k+1,_,by omega,by go_num,NX,NO,hid (NB.out.trans ((Below.refl _ _).drew.mono NB.out.size))⟩
   case measure=>simp[intOf]<;>omega
  ·obtain rfl:k=40:=by omega
   go_wp2
   go_ret
   exact⟨_,_,by rw[lessL_len];rfl,by unfold lessL;rw[<-upto_allN HY2.out.1 HY2.out.2];exact HO.out,HB.out⟩
theorem scale_any (A:Option Addr) (c:Nat) (a:List Int) (g:Int) (w:World) (hr:Rs w w.heap.size A a) (hn:a.length=40) (h1:In16 a) (hg: -32768<=g/\g<=32767):
 Calls Tryd.prog 57 #[.slice A 40 c,.int .i64 g] w (NewS w (scaleL a g 40)):=by
 have HX:=hid hr
 have HN:=hid hn
 have H1:=hid h1
 clear hr hn h1
 go_enter Tryd.func57,Tryd.ntmps57
 go_wp2_with (at_make;refine wpList_makeI rfl _ _ rfl .i64 .i64 40 rfl rfl w.heap.size (by omega) (Nat.le_refl _) ?_;intro w1 hO hG;have O1:=hid hO;have B1:=hid ((Below.refl w.heap.size w).grown hG (Nat.le_refl _) (by simp));clear hO hG)
 go_loopw [6,7,13] (fun _ _ iv wr=> ∃(k:Nat) (ys:List Int),k<=40/\iv= .int .i64 k/\Hid (ys.length=40/\∀j,j<k->ys.getD j 0=scaleE a g j)/\Hid (Own wr w.heap.size (some ⟨w.heap.size,0,none⟩) 40 ys)/\Hid (Below w.heap.size w wr)) (fun _ _ iv _=>40-(intOf iv).toNat)
 case atStart=>exact⟨0,_,by omega,rfl,hid ⟨by simp,fun j h=>by omega⟩,O1,B1⟩
 case round=>
  clear O1 B1
  obtain⟨k,ys,hk,rfl,HY2,HO,HB⟩:=hrel
  by_cases hlt:k<40
  ·obtain⟨ad,rfl,hadb,k0⟩:=(HX.out.below HB.out).at_ (k:=k) (by rw[HN.out];exact hlt)
   have x16:=H1.out k
   have cp:=HO.out.cell k (by rw[HY2.out.1];exact hlt)
   have fp:=HO.out.frozen k
   have NO:=hid (HO.out.set_ k (by rw[HY2.out.1];exact hlt) (scaleE a g k))
   have NB:=hid (HB.out.setCell (p:=⟨w.heap.size,k,none⟩) (Nat.le_refl _) (.int .i64 (scaleE a g k)))
   have NX:=hid (upto_setN (f:=scaleE a g) HY2.out.1 HY2.out.2 hlt)
   have KS:=hid (fun W=>show Calls Tryd.prog 81 #[.int .i64 ((a.getD k 0*g+8192)/16384)] W (fun e w'=>e= .returned (.int .i64 (scaleE a g k))/\W=w') from codersat_any _ W)
   generalize scaleE a g k=z at*
   generalize a.getD k 0=x at*
   obtain⟨p1,p2⟩:=prod16 x16.1 x16.2 hg.1 hg.2
   have hw1:IntKind.i64.wrap (x*g)=x*g:=by rw[IntKind.wrap_i64];omega
   have hw2:IntKind.i64.wrap (x*g+8192)=x*g+8192:=by rw[IntKind.wrap_i64];omega
   have hw3:IntKind.i64.wrap ((x*g+8192)/16384)=(x*g+8192)/16384:=by rw[IntKind.wrap_i64];omega
   have i40:(k:Int)<40:=by omega
   have hadn:ad.block≠w.heap.size:=by omega
   go_wp2_with (go_at_call 81;(with_reducible refine(KS.out _).mono ?_);rintro e w' ⟨rfl,rfl⟩)
   go_roundw
   case rel=>exact⟨k+1,_,by omega,by go_num,NX,NO,NB⟩
   case measure=>simp[intOf]<;>omega
  ·obtain rfl:k=40:=by omega
   go_wp2
   go_ret
   exact⟨_,_,by rw[scaleL_len];rfl,by unfold scaleL;rw[<-upto_allN HY2.out.1 HY2.out.2];exact HO.out,HB.out⟩
theorem coderdot_any (A A2:Option Addr) (cA cB n m:Nat) (xs ys:List Int) (w:World) (hx:Rs w w.heap.size A xs) (hy:Rs w w.heap.size A2 ys) (hn:xs.length=n) (hm:ys.length=m) (hnm:n<=m) (hl:n<=1000) (h1:In16 xs) (h2:In16 ys):
 Calls Tryd.prog 62 #[.slice A n cA,.slice A2 m cB] w fun e w'=>e= .returned (.int .i64 (dotL xs ys n))/\w=w':=by
 have HX:=hid hx
 have HY:=hid hy
 have HN:=hid hn
 have HM:=hid hm
 have H1:=hid h1
 have H2:=hid h2
 clear hx hy hn hm h1 h2
 go_enter Tryd.func62,Tryd.ntmps62
 go_wp2
 go_loop [5,10] (fun sv iv=> ∃(k:Nat) (s:Int),k<=n/\iv= .int .i64 k/\sv= .int .i64 s/\Hid (s=dotL xs ys k)) (fun _ iv=>n-(intOf iv).toNat)
 case atStart=>exact⟨0,0,by omega,rfl,rfl,hid rfl⟩
 case round=>
  obtain⟨k,s,hk,rfl,rfl,HS⟩:=hrel
  by_cases hlt:k<n
  ·have dr:=dotL_range H1.out H2.out k
   rw[<-HS.out] at dr
   have s1: -1073741824000<=s:=by omega
   have s2:s<=1073741824000:=by omega
   have ST:=hid (show dotL xs ys (k+1)=s+xs.getD k 0*ys.getD k 0 by rw[HS.out];rfl)
   obtain⟨ad,rfl,_,k0⟩:=HX.out.at_ (k:=k) (by rw[HN.out];exact hlt)
   obtain⟨ae,rfl,_,k1⟩:=HY.out.at_ (k:=k) (by rw[HM.out];omega)
   have x16:=H1.out k
   have y16:=H2.out k
   generalize xs.getD k 0=x at*
   generalize ys.getD k 0=y at*
   obtain⟨p1,p2⟩:=prod16 x16.1 x16.2 y16.1 y16.2
   have i2:(k:Int)<m:=by omega
   clear dr
   go_wp2
   go_round
   case rel=>exact⟨k+1,_,by omega,by go_num,rfl,hid ST.out.symm⟩
   case measure=>simp[intOf]<;>omega
  ·obtain rfl:k=n:=by omega
   go_wp2
   go_ret
   exact⟨by rw[<-HS.out];rfl,rfl⟩
def quietB (l:List Int) (n:Nat):Bool:=decide (dotL l l n<16*(n:Int))
theorem quiet_any (A:Option Addr) (c n:Nat) (l:List Int) (w:World) (hx:Rs w w.heap.size A l) (hn:l.length=n) (hl:n<=1000) (h1:In16 l):
 Calls Tryd.prog 28 #[.slice A n c] w fun e w'=>e= .returned (.bool (quietB l n))/\w=w':=by
 have HX:=hid hx
 have HN:=hid hn
 have H1:=hid h1
 clear hx hn h1
 go_enter Tryd.func28,Tryd.ntmps28
 go_wp2
 go_loop [3,8] (fun sv iv=> ∃(k:Nat) (s:Int),k<=n/\iv= .int .i64 k/\sv= .int .i64 s/\Hid (s=dotL l l k)) (fun _ iv=>n-(intOf iv).toNat)
 case atStart=>exact⟨0,0,by omega,rfl,rfl,hid rfl⟩
 case round=>
  obtain⟨k,s,hk,rfl,rfl,HS⟩:=hrel
  have dr:=dotL_range H1.out H1.out k
  rw[<-HS.out] at dr
  have s1: -1073741824000<=s:=by omega
  have s2:s<=1073741824000:=by omega
  clear dr
  by_cases hlt:k<n
  ·have ST:=hid (show dotL l l (k+1)=s+l.getD k 0*l.getD k 0 by rw[HS.out];rfl)
   obtain⟨ad,rfl,_,k0⟩:=HX.out.at_ (k:=k) (by rw[HN.out];exact hlt)
   have x16:=H1.out k
   generalize l.getD k 0=x at*
   obtain⟨p1,p2⟩:=prod16 x16.1 x16.2 x16.1 x16.2
   go_wp2
   go_round
   case rel=>exact⟨k+1,_,by omega,by go_num,rfl,hid ST.out.symm⟩
   case measure=>simp[intOf]<;>omega
  ·obtain rfl:k=n:=by omega
   have hw1:IntKind.i64.wrap (16*(k:Int))=16*k:=by rw[IntKind.wrap_i64];omega
   have HQ:=hid (show quietB l k=decide (s<16*(k:Int)) by rw[HS.out];rfl)
   go_wp2
   go_ret
   exact⟨by rw[HQ.out];rfl,rfl⟩
end Go.Proofs.YthoiikkjjaldnaaDoor
