/- Texts that the law rests on, laid together: EnerW, TargW. -/
import Derived.Test.YthoiikkjjaldnaaDoorZa172bc
import Derived.Test.YthoiikkjjaldnaaDoorZbe9dc0
import Derived.Test.YthoiikkjjaldnaaDoorZcd86f7
import Derived.Test.YthoiikkjjaldnaaDoorZdf659f
import Derived.BigQuiet
import Derived.Deep.QuietTactic
import Derived.Test.YthoiikkjjaldnaaDoorZ7e0d48
import Derived.BigRegion
import Derived.Deep.RegionHeld3
set_option maxHeartbeats 4000000
namespace Go.Proofs.YthoiikkjjaldnaaDoor
set_option linter.unusedVariables false
set_option linter.unusedSimpArgs false
set_option maxRecDepth 100000
open Go.RowKit
theorem repl_get (n k:Nat):(List.replicate n (0:Int)).getD k 0=0:=by
 rw[List.getD_eq_getElem?_getD,List.getElem?_replicate]
 split<;>rfl
def lateE (ring:List Int) (a i:Nat):Int:=if a<=i then s16 (ring.getD (i-a) 0) else 0
def lateL (ring:List Int) (a:Nat):List Int:=(List.range 40).map (lateE ring a)
theorem lateE_range (ring:List Int) (a i:Nat): -32768<=lateE ring a i/\lateE ring a i<=32767:=by
 unfold lateE
 split
 ·exact s16_range _
 ·omega
def inH (a:Int):Bool:=decide (0<=a/\a<=39)
def enErr (n:Nat) (a b:Int):Int:=if n=40 then(if inH a&&inH b then 0 else 2) else 1
def enV (ring:List Int) (a b:Int):Int:=if enErr ring.length a b=0 then dotL (lateL ring a.toNat) (lateL ring b.toNat) 40 else 0
def EnAns (ring:List Int) (a b:Int) (w:World) (e:Ending) (w':World):Prop:=e= .returned (.tuple #[.int .i64 (enV ring a b),.int .i64 (enErr ring.length a b)])/\Below w.heap.size w w'
theorem EnAns.bad {ring:List Int} {a b:Int} {w w':World} {er:Int} (h:enErr ring.length a b=er) (h0:er≠0) (hB:Below w.heap.size w w'):EnAns ring a b w (.returned (.tuple #[.int .i64 0,.int .i64 er])) w':=
 ⟨by unfold enV;rw[h,if_neg h0],hB⟩
def enT (ring:List Int) (a b i:Nat):Int:=lateE ring a i*lateE ring b i
theorem enT_sum (ring:List Int) (a b:Nat):dotL (lateL ring a) (lateL ring b) 40=sumN (enT ring a b) 40:=
 sumN_congr 40 fun i hi=>by unfold dterm lateL enT;rw[range_get _ hi,range_get _ hi]
theorem enT_low (ring:List Int) (a b:Nat): ∀k,k<=a\/k<=b->sumN (enT ring a b) k=0
 |0,_=>rfl
 |k+1,h=>by
  have h0:lateE ring a k=0\/lateE ring b k=0:=by
   rcases h with h|h
   ·left;unfold lateE;rw[if_neg (by omega)]
   ·right;unfold lateE;rw[if_neg (by omega)]
  have h1:=enT_low ring a b k (by omega)
  simp only[sumN]
  rw[h1]
  unfold enT
  rcases h0 with h0|h0<;>rw[h0]<;>simp
theorem enT_range (ring:List Int) (a b k:Nat): -(1073741824*(k:Int))<=sumN (enT ring a b) k/\sumN (enT ring a b) k<=1073741824*(k:Int):=by
 induction k with
 |zero=>simp[sumN]
 |succ k ih=>
  have h:=prod16 (lateE_range ring a k).1 (lateE_range ring a k).2 (lateE_range ring b k).1 (lateE_range ring b k).2
  simp only[sumN]
  unfold enT at*
  push_cast
  omega
theorem pulsesEnergy_any (A:Option Addr) (c n:Nat) (ring:List Int) (a b:Int) (w:World) (hr:Rs w w.heap.size A ring) (hrn:ring.length=n) (hw:W64 ring):
 Calls Tryd.prog 100 #[.slice A n c,.int .i64 a,.int .i64 b] w (EnAns ring a b w):=by
 by_cases hn:n=40
 rotate_left
 ·have FIN:=hid (fun w' (hB:Below w.heap.size w w')=>EnAns.bad (ring:=ring) (a:=a) (b:=b) (er:=1) (by rw[hrn];unfold enErr;rw[if_neg hn]) (by decide) hB)
  have d0:((n:Int) !=40)=true:=by simp;omega
  have d00: ¬(n:Int)=40:=by omega
  clear hn hrn hr hw
  go_enter Tryd.func100,Tryd.ntmps100
  go_wp2
  go_ret2
  exact FIN.out _ (Below.refl _ _)
 subst hn
 by_cases hab:inH a=true/\inH b=true
 rotate_left
 ·have FIN:=hid (fun w' (hB:Below w.heap.size w w')=>EnAns.bad (ring:=ring) (a:=a) (b:=b) (er:=2) (by rw[hrn];unfold enErr;rw[if_pos rfl,if_neg (by simpa using hab)]) (by decide) hB)
  unfold inH at hab
  simp only[decide_eq_true_eq] at hab
  clear hrn hr hw
  by_cases a1:a<0
  ·clear hab
   go_enter Tryd.func100,Tryd.ntmps100
   go_wp2
   go_ret2
   exact FIN.out _ (Below.refl _ _)
  by_cases a2:39<a
  ·have a3:40<=a:=by omega
   clear hab
   go_enter Tryd.func100,Tryd.ntmps100
   go_wp2
   go_ret2
   exact FIN.out _ (Below.refl _ _)
  have a3: ¬40<=a:=by omega
  by_cases b1:b<0
  ·clear hab
   go_enter Tryd.func100,Tryd.ntmps100
   go_wp2
   go_ret2
   exact FIN.out _ (Below.refl _ _)
  have b2:39<b:=by omega
  have b3:40<=b:=by omega
  clear hab
  go_enter Tryd.func100,Tryd.ntmps100
  go_wp2
  go_ret2
  exact FIN.out _ (Below.refl _ _)
 have HV:=hid (show enErr ring.length a b=0 by rw[hrn];unfold enErr;rw[if_pos rfl,if_pos (by simpa using hab)])
 have HV2:=hid (show enV ring a b=dotL (lateL ring a.toNat) (lateL ring b.toNat) 40 by unfold enV;rw[if_pos HV.out])
 unfold inH at hab
 simp only[decide_eq_true_eq] at hab
 obtain⟨⟨a1,a2⟩,b1,b2⟩:=hab
 obtain⟨p,rfl⟩:=Int.eq_ofNat_of_zero_le a1
 obtain⟨q,rfl⟩:=Int.eq_ofNat_of_zero_le b1
 rw[show((p:Nat):Int).toNat=p from rfl,show((q:Nat):Int).toNat=q from rfl] at HV2
 have HRN:=hid hrn
 have HR:=hid hr
 have HW:=hid hw
 clear hr hrn hw
 have a3: ¬((p:Nat):Int)<0:=by omega
 have a4: ¬40<=((p:Nat):Int):=by omega
 have b3: ¬((q:Nat):Int)<0:=by omega
 have b4: ¬40<=((q:Nat):Int):=by omega
 by_cases hpq:(p:Int)<q
 ·have H0:=hid (show(0:Int)=sumN (enT ring p q) q from(enT_low ring p q q (.inr (Nat.le_refl _))).symm)
  go_enter Tryd.func100,Tryd.ntmps100
  go_wp2
  go_loopw [8,9] (fun sv iv wr=> ∃(k:Nat) (s:Int),q<=k/\k<=40/\iv= .int .i64 k/\sv= .int .i64 s/\Hid (s=sumN (enT ring p q) k)/\Hid (Below w.heap.size w wr)) (fun _ iv _=>40-(intOf iv).toNat)
  case atStart=>exact⟨q,0,Nat.le_refl _,by omega,rfl,rfl,H0,hid (Below.refl _ _)⟩
  case round=>
   obtain⟨k,s,hk0,hk,rfl,rfl,HS,HB⟩:=hrel
   by_cases hlt:k<40
   ·have sb:=enT_range ring p q k
    have ST:=hid (show sumN (enT ring p q) (k+1)=s+s16 (ring.getD (k-p) 0)*s16 (ring.getD (k-q) 0) by
     rw[HS.out];simp only[sumN];unfold enT lateE;rw[if_pos (by omega),if_pos (by omega)])
    have hs:=HS.out
    rw[<-hs] at sb
    have s1: -1073741824000<=s:=by omega
    have s2:s<=1073741824000:=by omega
    clear hs sb
    obtain⟨ad,rfl,hadb,c0⟩:=(HR.out.below HB.out).at_ (k:=k-p) (by rw[HRN.out];omega)
    obtain⟨ad2,had2,_,c1⟩:=(HR.out.below HB.out).at_ (k:=k-q) (by rw[HRN.out];omega)
    injection had2 with had2
    subst had2
    generalize ring.getD (k-p) 0=x at*
    generalize ring.getD (k-q) 0=y at*
    obtain⟨m,hm⟩: ∃m,m=k-p:=⟨_,rfl⟩
    obtain⟨m2,hm2⟩: ∃m2,m2=k-q:=⟨_,rfl⟩
    rw[<-hm] at c0
    rw[<-hm2] at c1
    have hw0:IntKind.i64.wrap ((k:Int)-(p:Nat))=(m:Nat):=by rw[IntKind.wrap_i64];omega
    have hw1:IntKind.i64.wrap ((k:Int)-(q:Nat))=(m2:Nat):=by rw[IntKind.wrap_i64];omega
    have xr:=s16_range x
    have yr:=s16_range y
    have KX:Hid (∀W,Calls Tryd.prog 85 #[.int .i64 x] W fun e w'=>e= .returned (.int .i64 (s16 x))/\w'=W):=hid (fun W=>(pulsessat_any x W).mono fun _ _ h=>⟨h.1,h.2.symm⟩)
    have KY:Hid (∀W,Calls Tryd.prog 85 #[.int .i64 y] W fun e w'=>e= .returned (.int .i64 (s16 y))/\w'=W):=hid (fun W=>(pulsessat_any y W).mono fun _ _ h=>⟨h.1,h.2.symm⟩)
    generalize s16 x=x' at*
    generalize s16 y=y' at*
    obtain⟨p1,p2⟩:=prod16 xr.1 xr.2 yr.1 yr.2
    have hw2:IntKind.i64.wrap (x'*y')=x'*y':=by rw[IntKind.wrap_i64];omega
    have hw3:IntKind.i64.wrap (s+x'*y')=s+x'*y':=by rw[IntKind.wrap_i64];omega
    have i1:(m:Int)<40:=by omega
    have i2:(0:Int)<=m:=by omega
    have i3:(m2:Int)<40:=by omega
    have i4:(0:Int)<=m2:=by omega
    have HM:=hid hm
    have HM2:=hid hm2
    clear hm hm2 xr yr
    go_wp2
    go_quiet ((go_at_call 85;first|(with_reducible exact Calls.quiet_of_same (KX.out _))|(with_reducible exact Calls.quiet_of_same (KY.out _))))
    clear hw0 hw1 hw2 hw3
    go_wp2
    go_roundw
    case rel=>exact⟨k+1,_,by omega,by omega,by go_num,rfl,hid ST.out.symm,hid (HB.out.trans ((below_drN _ _).mono HB.out.size))⟩
    case measure=>simp[intOf]<;>omega
   ·obtain rfl:k=40:=by omega
    go_wp2
    go_ret2
    exact⟨by rw[HV.out,HV2.out,enT_sum,<-HS.out];rfl,HB.out⟩
 ·have H0:=hid (show(0:Int)=sumN (enT ring p q) p from(enT_low ring p q p (.inl (Nat.le_refl _))).symm)
  have hpq2:(q:Int)<=p:=by omega
  go_enter Tryd.func100,Tryd.ntmps100
  go_wp2
  go_loopw [8,9] (fun sv iv wr=> ∃(k:Nat) (s:Int),p<=k/\k<=40/\iv= .int .i64 k/\sv= .int .i64 s/\Hid (s=sumN (enT ring p q) k)/\Hid (Below w.heap.size w wr)) (fun _ iv _=>40-(intOf iv).toNat)
  case atStart=>exact⟨p,0,Nat.le_refl _,by omega,rfl,rfl,H0,hid (Below.refl _ _)⟩
  case round=>
   obtain⟨k,s,hk0,hk,rfl,rfl,HS,HB⟩:=hrel
   by_cases hlt:k<40
   ·have sb:=enT_range ring p q k
    have ST:=hid (show sumN (enT ring p q) (k+1)=s+s16 (ring.getD (k-p) 0)*s16 (ring.getD (k-q) 0) by
     rw[HS.out];simp only[sumN];unfold enT lateE;rw[if_pos (by omega),if_pos (by omega)])
    have hs:=HS.out
    rw[<-hs] at sb
    have s1: -1073741824000<=s:=by omega
    have s2:s<=1073741824000:=by omega
    clear hs sb
    obtain⟨ad,rfl,hadb,c0⟩:=(HR.out.below HB.out).at_ (k:=k-p) (by rw[HRN.out];omega)
    obtain⟨ad2,had2,_,c1⟩:=(HR.out.below HB.out).at_ (k:=k-q) (by rw[HRN.out];omega)
    injection had2 with had2
    subst had2
    generalize ring.getD (k-p) 0=x at*
    generalize ring.getD (k-q) 0=y at*
    obtain⟨m,hm⟩: ∃m,m=k-p:=⟨_,rfl⟩
    obtain⟨m2,hm2⟩: ∃m2,m2=k-q:=⟨_,rfl⟩
    rw[<-hm] at c0
    rw[<-hm2] at c1
    have hw0:IntKind.i64.wrap ((k:Int)-(p:Nat))=(m:Nat):=by rw[IntKind.wrap_i64];omega
    have hw1:IntKind.i64.wrap ((k:Int)-(q:Nat))=(m2:Nat):=by rw[IntKind.wrap_i64];omega
    have xr:=s16_range x
    have yr:=s16_range y
    have KX:Hid (∀W,Calls Tryd.prog 85 #[.int .i64 x] W fun e w'=>e= .returned (.int .i64 (s16 x))/\w'=W):=hid (fun W=>(pulsessat_any x W).mono fun _ _ h=>⟨h.1,h.2.symm⟩)
    have KY:Hid (∀W,Calls Tryd.prog 85 #[.int .i64 y] W fun e w'=>e= .returned (.int .i64 (s16 y))/\w'=W):=hid (fun W=>(pulsessat_any y W).mono fun _ _ h=>⟨h.1,h.2.symm⟩)
    generalize s16 x=x' at*
    generalize s16 y=y' at*
    obtain⟨p1,p2⟩:=prod16 xr.1 xr.2 yr.1 yr.2
    have hw2:IntKind.i64.wrap (x'*y')=x'*y':=by rw[IntKind.wrap_i64];omega
    have hw3:IntKind.i64.wrap (s+x'*y')=s+x'*y':=by rw[IntKind.wrap_i64];omega
    have i1:(m:Int)<40:=by omega
    have i2:(0:Int)<=m:=by omega
    have i3:(m2:Int)<40:=by omega
    have i4:(0:Int)<=m2:=by omega
    have HM:=hid hm
    have HM2:=hid hm2
    clear hm hm2 xr yr
    go_wp2
    go_quiet ((go_at_call 85;first|(with_reducible exact Calls.quiet_of_same (KX.out _))|(with_reducible exact Calls.quiet_of_same (KY.out _))))
    clear hw0 hw1 hw2 hw3
    go_wp2
    go_roundw
    case rel=>exact⟨k+1,_,by omega,by omega,by go_num,rfl,hid ST.out.symm,hid (HB.out.trans ((below_drN _ _).mono HB.out.size))⟩
    case measure=>simp[intOf]<;>omega
   ·obtain rfl:k=40:=by omega
    go_wp2
    go_ret2
    exact⟨by rw[HV.out,HV2.out,enT_sum,<-HS.out];rfl,HB.out⟩
end Go.Proofs.YthoiikkjjaldnaaDoor
namespace Go.Proofs.YthoiikkjjaldnaaDoor
set_option linter.unusedVariables false
set_option linter.unusedSimpArgs false
set_option maxRecDepth 100000
open Go.RowKit
def tgB (t r:List Int):Bool:=all16 t&&all16 r
def tgErr (t r:List Int):Int:=if t.length=40/\r.length=40 then errOf (tgB t r) else 1
def tgT (t r:List Int) (n i:Nat):Int:=t.getD i 0*lateE r n i
def tgE (t r:List Int) (n:Nat):Int:=sumN (tgT t r n) 40
def tgL (t r:List Int):List Int:=if tgErr t r=0 then(List.range 40).map (tgE t r) else[]
theorem all16_in {xs:List Int} (h:all16 xs=true):In16 xs:=all16_at h
theorem tgT_range {t:List Int} (h:In16 t) (r:List Int) (n k:Nat): -(1073741824*(k:Int))<=sumN (tgT t r n) k/\sumN (tgT t r n) k<=1073741824*(k:Int):=by
 induction k with
 |zero=>simp[sumN]
 |succ k ih=>
  have hp:=prod16 (h k).1 (h k).2 (lateE_range r n k).1 (lateE_range r n k).2
  simp only[sumN]
  unfold tgT at*
  push_cast
  omega
theorem tgT_low (t r:List Int) (n:Nat): ∀k,k<=n->sumN (tgT t r n) k=0
 |0,_=>rfl
 |k+1,h=>by
  simp only[sumN]
  rw[tgT_low t r n k (by omega)]
  unfold tgT lateE
  rw[if_neg (by omega)]
  simp
def tgN (t r:List Int) (n k:Nat):List Int:=(List.range 40).map (fun j=>if j<n then tgE t r j else if j=n then sumN (tgT t r n) k else 0)
theorem tgN_len (t r:List Int) (n k:Nat):(tgN t r n k).length=40:=by simp[tgN]
theorem tgN_at (t r:List Int) {n k:Nat} (hn:n<40):(tgN t r n k).getD n 0=sumN (tgT t r n) k:=by
 unfold tgN;rw[range_get _ hn,if_neg (by omega),if_pos rfl]
theorem tgN_set (t r:List Int) {n k:Nat} (hn:n<40):(tgN t r n k).set n (sumN (tgT t r n) (k+1))=tgN t r n (k+1):=by
 refine list_ext (by simp[tgN_len]) fun j hj=>?_
 rw[List.length_set,tgN_len] at hj
 by_cases e:n=j
 ·subst e;rw[get_set_same _ _ _ (by rw[tgN_len];exact hj),tgN_at t r hn]
 ·rw[get_set_other _ _ e]
  unfold tgN
  rw[range_get _ hj,range_get _ hj]
  by_cases h2:j<n
  ·rw[if_pos h2,if_pos h2]
  ·rw[if_neg h2,if_neg h2,if_neg (by omega),if_neg (by omega)]
theorem tgN_next (t r:List Int) (n:Nat):tgN t r n 40=tgN t r (n+1) (n+1):=by
 refine list_ext (by rw[tgN_len,tgN_len]) fun j hj=>?_
 rw[tgN_len] at hj
 unfold tgN
 rw[range_get _ hj,range_get _ hj]
 by_cases h2:j<n
 ·rw[if_pos h2,if_pos (by omega)]
 ·by_cases h3:j=n
  ·subst h3;rw[if_neg (by omega),if_pos rfl,if_pos (by omega)];rfl
  ·rw[if_neg h2,if_neg h3,if_neg (by omega)]
   by_cases h4:j=n+1
   ·rw[if_pos h4,tgT_low t r (n+1) (n+1) (Nat.le_refl _)]
   ·rw[if_neg h4]
theorem tgN_zero (t r:List Int):tgN t r 0 0=List.replicate 40 0:=by
 refine list_ext (by rw[tgN_len];simp) fun j hj=>?_
 rw[tgN_len] at hj
 rw[repl_get]
 unfold tgN
 rw[range_get _ hj,if_neg (by omega)]
 split<;>rfl
theorem tgN_end (t r:List Int):tgN t r 40 40=(List.range 40).map (tgE t r):=by
 refine list_ext (by rw[tgN_len];simp) fun j hj=>?_
 rw[tgN_len] at hj
 unfold tgN
 rw[range_get _ hj,range_get _ hj,if_pos hj]
theorem tgErr_len {t r:List Int} (h: ¬(t.length=40/\r.length=40)):tgErr t r=1:=by unfold tgErr;rw[if_neg h]
theorem tgErr_all {t r:List Int} (h1:t.length=40) (h2:r.length=40):tgErr t r=errOf (tgB t r):=by unfold tgErr;rw[if_pos ⟨h1,h2⟩]
theorem tgL_bad {t r:List Int} (h:tgErr t r≠0):tgL t r=[]:=by unfold tgL;rw[if_neg h]
theorem tgL_good {t r:List Int} (h:tgErr t r=0):tgL t r=(List.range 40).map (tgE t r):=by unfold tgL;rw[if_pos h]
theorem pulsesTarget_good (A A2:Option Addr) (c c2:Nat) (t r:List Int) (w:World) (ht:Rs w w.heap.size A t) (hr:Rs w w.heap.size A2 r) (lt:t.length=40) (lr:r.length=40) (gt:all16 t=true) (gr:all16 r=true):
 Calls Tryd.prog 58 #[.slice A 40 c,.slice A2 40 c2] w (NewSE w ((List.range 40).map (tgE t r)) 0):=by
 have HT:=hid ht
 have HR:=hid hr
 have LT:=hid lt
 have LR:=hid lr
 have GT:=hid (all16_in gt)
 have GR:=hid (all16_in gr)
 clear ht hr lt lr gt gr
 go_enter Tryd.func58,Tryd.ntmps58
 go_wp2_with (at_make;refine wpList_makeI rfl _ _ rfl .i64 .i64 40 rfl rfl w.heap.size (by omega) (Nat.le_refl _) ?_;intro w1 hO hG;have O1:=hid (show Own w1 w.heap.size (some ⟨w.heap.size,0,none⟩) 40 (tgN t r 0 0) by rw[tgN_zero];exact hO);have B1:=hid ((Below.refl w.heap.size w).grown hG (Nat.le_refl _) (by simp));clear hO hG)
 go_loopw [20] (fun iv wr=> ∃n:Nat,n<=40/\iv= .int .i64 n/\Hid (Own wr w.heap.size (some ⟨w.heap.size,0,none⟩) 40 (tgN t r n n))/\Hid (Below w.heap.size w wr)) (fun iv _=>40-(intOf iv).toNat)
 case atStart=>exact⟨0,by omega,rfl,O1,B1⟩
 case round=>
  clear O1 B1
  obtain⟨n,hn,rfl,HO,HB⟩:=hrel
  obtain⟨wo,rfl⟩: ∃wo:World,wo=wr:=⟨_,rfl⟩
  by_cases hlt:n<40
  ·go_wp2
   go_loopw [8] (fun iv wr=> ∃k:Nat,n<=k/\k<=40/\iv= .int .i64 k/\Hid (Own wr w.heap.size (some ⟨w.heap.size,0,none⟩) 40 (tgN t r n k))/\Hid (Below w.heap.size w wr)) (fun iv _=>40-(intOf iv).toNat)
   case atStart=>exact⟨n,Nat.le_refl _,hn,rfl,HO,HB⟩
   case round=>
    clear HO HB
    obtain⟨k,hnk,hk,rfl,HO,HB⟩:=hrel
    by_cases hlk:k<40
    ·obtain⟨ad,rfl,hadb,c0⟩:=(HT.out.below HB.out).at_ (k:=k) (by rw[LT.out];exact hlk)
     obtain⟨ae,rfl,haeb,c1⟩:=(HR.out.below HB.out).at_ (k:=k-n) (by rw[LR.out];omega)
     have co:=HO.out.cell n (by rw[tgN_len];exact hlt)
     rw[tgN_at t r hlt] at co
     have fo:=HO.out.frozen n
     have sr:=tgT_range GT.out r n k
     have HSet:=hid (tgN_set t r (n:=n) (k:=k) hlt)
     have ST:=hid (show sumN (tgT t r n) (k+1)=sumN (tgT t r n) k+t.getD k 0*r.getD (k-n) 0 by
      simp only[sumN];unfold tgT lateE;rw[if_pos hnk,s16_id (GR.out _).1 (GR.out _).2])
     have x16:=GT.out k
     have y16:=GR.out (k-n)
     generalize t.getD k 0=x at*
     generalize r.getD (k-n) 0=y at*
     obtain⟨m,hm⟩: ∃m,m=k-n:=⟨_,rfl⟩
     rw[<-hm] at c1
     obtain⟨s,hs⟩: ∃s,s=sumN (tgT t r n) k:=⟨_,rfl⟩
     rw[<-hs] at co sr ST
     obtain⟨p1,p2⟩:=prod16 x16.1 x16.2 y16.1 y16.2
     have s1: -1073741824000<=s:=by omega
     have s2:s<=1073741824000:=by omega
     have hw0:IntKind.i64.wrap ((k:Int)-(n:Nat))=(m:Nat):=by rw[IntKind.wrap_i64];omega
     have hw2:IntKind.i64.wrap (x*y)=x*y:=by rw[IntKind.wrap_i64];omega
     have hw3:IntKind.i64.wrap (s+x*y)=s+x*y:=by rw[IntKind.wrap_i64];omega
     have KX:Hid (∀W,Calls Tryd.prog 85 #[.int .i64 x] W fun e w'=>e= .returned (.int .i64 x)/\w'=W):=hid (fun W=>(pulsessat_any x W).mono fun _ _ h=>⟨by rw[h.1,s16_id x16.1 x16.2],h.2.symm⟩)
     have KY:Hid (∀W,Calls Tryd.prog 85 #[.int .i64 y] W fun e w'=>e= .returned (.int .i64 y)/\w'=W):=hid (fun W=>(pulsessat_any y W).mono fun _ _ h=>⟨by rw[h.1,s16_id y16.1 y16.2],h.2.symm⟩)
     have i1:(m:Int)<40:=by omega
     have i2:(0:Int)<=m:=by omega
     have i3:(k:Int)<40:=by omega
     have i4:(0:Int)<=k:=by omega
     have i5:(n:Int)<40:=by omega
     have i6:(0:Int)<=n:=by omega
     have NO:=hid (fun N=>show Own ((wr.drewN N).setCell ⟨w.heap.size,n,none⟩ (.int .i64 (s+x*y))) w.heap.size (some ⟨w.heap.size,0,none⟩) 40 (tgN t r n (k+1)) from by rw[<-HSet.out,ST.out];exact(HO.out.drewN N).set_ n (by rw[tgN_len];exact hlt) (s+x*y))
     have NB:=hid (fun N=>(HB.out.trans ((below_drN wr N).mono HB.out.size)).setCell (p:=⟨w.heap.size,n,none⟩) (Nat.le_refl _) (.int .i64 (s+x*y)))
     have HM:=hid hm
     have HSS:=hid hs
     have hadn:ad.block≠w.heap.size:=by omega
     have haen:ae.block≠w.heap.size:=by omega
     clear hm hs x16 y16 sr
     go_wp2
     go_quiet ((go_at_call 85;first|(with_reducible exact Calls.quiet_of_same (KX.out _))|(with_reducible exact Calls.quiet_of_same (KY.out _))))
     go_wp2
     go_region
     clear hw0 hw2 hw3
     go_wp2
     go_roundw
     case rel=>exact⟨k+1,by omega,by omega,by go_num,hid (NO.out _),hid (NB.out _)⟩
     case measure=>simp[intOf]<;>omega
    ·obtain rfl:k=40:=by omega
     have NO:=hid (show Own wr w.heap.size (some ⟨w.heap.size,0,none⟩) 40 (tgN t r (n+1) (n+1)) by rw[<-tgN_next];exact HO.out)
     go_wp2
     go_roundw
     case rel=>exact⟨n+1,by omega,by go_num,NO,HB⟩
     case measure=>simp[intOf]<;>omega
  ·obtain rfl:n=40:=by omega
   have NO:=hid (show Own wo w.heap.size (some ⟨w.heap.size,0,none⟩) 40 ((List.range 40).map (tgE t r)) by rw[<-tgN_end];exact HO.out)
   go_wp2
   go_ret2
   exact⟨_,_,by simp,NO.out,HB.out⟩
def TBad (w wr:World) (k:Nat):Prop:= ∃xs:List Int,xs.length=40/\(-(1073741824*(k:Int))<=xs.getD 0 0/\xs.getD 0 0<=1073741824*(k:Int))/\Own wr w.heap.size (some ⟨w.heap.size,0,none⟩) 40 xs
theorem pulsesTarget_bad (A A2:Option Addr) (c c2:Nat) (t r:List Int) (w:World) (ht:Rs w w.heap.size A t) (hr:Rs w w.heap.size A2 r) (lt:t.length=40) (lr:r.length=40) (hb: ¬(all16 t=true/\all16 r=true)) (wt:W64 t) (wr':W64 r):
 Calls Tryd.prog 58 #[.slice A 40 c,.slice A2 40 c2] w (NewSE w [] 2):=by
 have HT:=hid ht
 have HR:=hid hr
 have LT:=hid lt
 have LR:=hid lr
 have HB0:=hid hb
 have WT:=hid wt
 have WR:=hid wr'
 clear ht hr lt lr hb wt wr'
 go_enter Tryd.func58,Tryd.ntmps58
 go_wp2_with (at_make;refine wpList_makeI rfl _ _ rfl .i64 .i64 40 rfl rfl w.heap.size (by omega) (Nat.le_refl _) ?_;intro w1 hO hG;have O1:=hid (show TBad w w1 0 from⟨List.replicate 40 0,by simp,by simp,hO⟩);have B1:=hid ((Below.refl w.heap.size w).grown hG (Nat.le_refl _) (by simp));clear hO hG)
 go_loopw [20] (fun iv wr=>iv= .int .i64 0/\Hid (TBad w wr 0)/\Hid (Below w.heap.size w wr)) (fun _ _=>0)
 case atStart=>exact⟨rfl,O1,B1⟩
 case round=>
  clear O1 B1
  obtain⟨rfl,HO,HB⟩:=hrel
  obtain⟨wo,rfl⟩: ∃wo:World,wo=wr:=⟨_,rfl⟩
  go_wp2
  go_loopw [8] (fun iv wr=> ∃k:Nat,k<=40/\iv= .int .i64 k/\Hid (allTo ok16 t k/\allTo ok16 r k)/\Hid (TBad w wr k)/\Hid (Below w.heap.size w wr)) (fun iv _=>40-(intOf iv).toNat)
  case atStart=>exact⟨0,by omega,rfl,hid ⟨allTo.zero,allTo.zero⟩,HO,HB⟩
  case round=>
   clear HO HB
   obtain⟨k,hk,rfl,HA,HO,HB⟩:=hrel
   by_cases hlk:k<40
   ·obtain⟨ad,rfl,hadb,c0⟩:=(HT.out.below HB.out).at_ (k:=k) (by rw[LT.out];exact hlk)
    obtain⟨ae,rfl,haeb,c1⟩:=(HR.out.below HB.out).at_ (k:=k) (by rw[LR.out];exact hlk)
    have x64:=WT.out.at_ k
    have y64:=WR.out.at_ k
    have HA1:=hid (fun h1 h2=>And.intro (HA.out.1.succ h1) (HA.out.2.succ h2))
    generalize t.getD k 0=x at*
    generalize r.getD k 0=y at*
    have i3:(k:Int)<40:=by omega
    have i4:(0:Int)<=k:=by omega
    have KX:Hid (∀W,Calls Tryd.prog 85 #[.int .i64 x] W fun e w'=>e= .returned (.int .i64 (s16 x))/\w'=W):=hid (fun W=>(pulsessat_any x W).mono fun _ _ h=>⟨h.1,h.2.symm⟩)
    have KY:Hid (∀W,Calls Tryd.prog 85 #[.int .i64 y] W fun e w'=>e= .returned (.int .i64 (s16 y))/\w'=W):=hid (fun W=>(pulsessat_any y W).mono fun _ _ h=>⟨h.1,h.2.symm⟩)
    by_cases hx:x< -32768\/32767<x
    ·have e1:(x==s16 x)=false:=by rw[beq_eq_false_iff_ne];exact fun h=>s16_ne hx h.symm
     have e2:(x !=s16 x)=true:=by rw[bne_iff_ne];exact fun h=>s16_ne hx h.symm
     clear hx x64 y64
     go_wp2
     go_quiet ((go_at_call 85;first|(with_reducible exact Calls.quiet_of_same (KX.out _))|(with_reducible exact Calls.quiet_of_same (KY.out _))))
     go_wp2
     go_ret2
     exact NewSE.none_ (HB.out.trans ((below_drN _ _).mono HB.out.size))
    by_cases hy:y< -32768\/32767<y
    ·have e1:(y==s16 y)=false:=by rw[beq_eq_false_iff_ne];exact fun h=>s16_ne hy h.symm
     have e2:(y !=s16 y)=true:=by rw[bne_iff_ne];exact fun h=>s16_ne hy h.symm
     have e3:=s16_id (x:=x) (by omega) (by omega)
     rw[e3] at KX
     clear hx hy x64 y64 e3
     go_wp2
     go_quiet ((go_at_call 85;first|(with_reducible exact Calls.quiet_of_same (KX.out _))|(with_reducible exact Calls.quiet_of_same (KY.out _))))
     go_wp2
     go_ret2
     exact NewSE.none_ (HB.out.trans ((below_drN _ _).mono HB.out.size))
    have e3:=s16_id (x:=x) (by omega) (by omega)
    have e4:=s16_id (x:=y) (by omega) (by omega)
    rw[e3] at KX
    rw[e4] at KY
    have HA2:=hid (HA1.out (ok16_yes (by omega) (by omega)) (ok16_yes (by omega) (by omega)))
    obtain⟨p1,p2⟩:=prod16 (x:=x) (y:=y) (by omega) (by omega) (by omega) (by omega)
    obtain⟨xs,hxl,hxb,hO⟩:=HO.out
    have co:=hO.cell 0 (by omega)
    have fo:=hO.frozen 0
    obtain⟨s,hs⟩: ∃s,s=xs.getD 0 0:=⟨_,rfl⟩
    rw[<-hs] at co hxb
    have s1: -1073741824000<=s:=by omega
    have s2:s<=1073741824000:=by omega
    have hw2:IntKind.i64.wrap (x*y)=x*y:=by rw[IntKind.wrap_i64];omega
    have hw3:IntKind.i64.wrap (s+x*y)=s+x*y:=by rw[IntKind.wrap_i64];omega
    have hw4:IntKind.i64.wrap ((k:Int))=k:=by rw[IntKind.wrap_i64];omega
    have NO:=hid (fun N=>show TBad w ((wr.drewN N).setCell ⟨w.heap.size,0,none⟩ (.int .i64 (s+x*y))) (k+1) from⟨_,by rw[List.length_set];exact hxl,by rw[get_set_same _ _ _ (by omega)];omega,(hO.drewN N).set_ 0 (by omega) (s+x*y)⟩)
    have NB:=hid (fun N=>(HB.out.trans ((below_drN wr N).mono HB.out.size)).setCell (p:=⟨w.heap.size,0,none⟩) (Nat.le_refl _) (.int .i64 (s+x*y)))
    have hadn:ad.block≠w.heap.size:=by omega
    have haen:ae.block≠w.heap.size:=by omega
    have HSS:=hid hs
    clear hx hy x64 y64 e3 e4 hs hxl hxb hO
    go_wp2
    go_quiet ((go_at_call 85;first|(with_reducible exact Calls.quiet_of_same (KX.out _))|(with_reducible exact Calls.quiet_of_same (KY.out _))))
    go_wp2
    go_region
    clear hw2 hw3 hw4
    go_wp2
    go_roundw
    case rel=>exact⟨k+1,by omega,by go_num,HA2,hid (NO.out _),hid (NB.out _)⟩
    case measure=>simp[intOf]<;>omega
   ·exfalso
    obtain rfl:k=40:=by omega
    exact HB0.out ⟨HA.out.1.all (by rw[LT.out];exact Nat.le_refl _),HA.out.2.all (by rw[LR.out];exact Nat.le_refl _)⟩
theorem pulsesTarget_any (A A2:Option Addr) (c c2 n1 n2:Nat) (t r:List Int) (w:World) (ht:Rs w w.heap.size A t) (hr:Rs w w.heap.size A2 r) (lt:t.length=n1) (lr:r.length=n2) (wt:W64 t) (wr':W64 r):
 Calls Tryd.prog 58 #[.slice A n1 c,.slice A2 n2 c2] w (NewSE w (tgL t r) (tgErr t r)):=by
 by_cases hn1:n1=40
 rotate_left
 ·have FIN:=hid (fun w' (hB:Below w.heap.size w w')=>show NewSE w (tgL t r) (tgErr t r) (.returned (.tuple #[.slice none 0 0,.int .i64 1])) w' from by rw[tgL_bad (by rw[tgErr_len (by omega)];decide),tgErr_len (by omega)];exact NewSE.none_ hB)
  have d0:((n1:Int) !=40)=true:=by simp;omega
  have d1: ¬(n1:Int)=40:=by omega
  clear hn1 ht hr lt lr wt wr'
  go_enter Tryd.func58,Tryd.ntmps58
  go_wp2
  go_ret2
  exact FIN.out _ (Below.refl _ _)
 by_cases hn2:n2=40
 rotate_left
 ·have FIN:=hid (fun w' (hB:Below w.heap.size w w')=>show NewSE w (tgL t r) (tgErr t r) (.returned (.tuple #[.slice none 0 0,.int .i64 1])) w' from by rw[tgL_bad (by rw[tgErr_len (by omega)];decide),tgErr_len (by omega)];exact NewSE.none_ hB)
  subst hn1
  have d0:((n2:Int) !=40)=true:=by simp;omega
  have d1: ¬(n2:Int)=40:=by omega
  clear hn2 ht hr lt lr wt wr'
  go_enter Tryd.func58,Tryd.ntmps58
  go_wp2
  go_ret2
  exact FIN.out _ (Below.refl _ _)
 subst hn1
 subst hn2
 have hE:=tgErr_all lt lr
 by_cases hg:all16 t=true/\all16 r=true
 ·have hb:tgB t r=true:=by unfold tgB;rw[hg.1,hg.2];rfl
  have h0:tgErr t r=0:=by rw[hE,hb];rfl
  rw[h0,tgL_good h0]
  exact pulsesTarget_good A A2 c c2 t r w ht hr lt lr hg.1 hg.2
 ·have hb:tgB t r=false:=by unfold tgB;simpa using hg
  have h0:tgErr t r=2:=by rw[hE,hb];rfl
  rw[h0,tgL_bad (by rw[h0];decide)]
  exact pulsesTarget_bad A A2 c c2 t r w ht hr lt lr hg wt wr'
end Go.Proofs.YthoiikkjjaldnaaDoor
