/- Texts that the law rests on, laid together: PowW, BuildW, FiltR, GuessR, MakeR, RingW, WeightW. -/
import Derived.Test.YthoiikkjjaldnaaDoorZ7e0d48
import Derived.Test.YthoiikkjjaldnaaDoorZ4b8d9d
import Derived.Test.YthoiikkjjaldnaaDoorZ4df1bd
import Derived.Test.YthoiikkjjaldnaaDoorZe4c9da
import Derived.Test.YthoiikkjjaldnaaDoorZd3feda
import Derived.Test.YthoiikkjjaldnaaDoorZ718584
import Derived.Test.YthoiikkjjaldnaaDoorZbe9dc0
import Derived.Test.YthoiikkjjaldnaaDoorZcd86f7
import Derived.Test.YthoiikkjjaldnaaDoorZdf659f
import Derived.Test.YthoiikkjjaldnaaDoorRows
import Derived.WalkKit
set_option maxHeartbeats 4000000
namespace Go.Proofs.YthoiikkjjaldnaaDoor
set_option linter.unusedVariables false
set_option linter.unusedSimpArgs false
set_option maxRecDepth 100000
open Go.RowKit
def powR (k:Nat):Int:=rootsL.getD k 0
def powBit (f:Int) (k:Nat):Bool:=decide (f/2^(14-k)%2=1)
def powX (f:Int):Nat->Int
 |0=>1073741824
 |k+1=>if powBit f k then powX f k+powX f k*powR k/1073741824 else powX f k
def powU:Nat->Int
 |0=>1073741824
 |k+1=>powU k+powU k*powR k/1073741824
def powB (n f:Int):Bool:=decide ((0<=n/\n<=30)/\0<=f/\f<=32767)
def powV (n f:Int):Int:=if powB n f then(if 2147483647<=powX f 15/2^(30-n).toNat then 2147483647 else powX f 15/2^(30-n).toNat) else 0
theorem powR_nn (k:Nat):0<=powR k:=by
 unfold powR
 by_cases h:k<15
 ·have: ∀j,j<15->0<=rootsL.getD j 0:=by decide
  exact this k h
 ·rw[List.getD_eq_getElem?_getD,List.getElem?_eq_none (by simp[rootsL];omega)];simp
theorem powR_le (k:Nat):powR k<=444758425:=by
 unfold powR
 by_cases h:k<15
 ·have: ∀j,j<15->rootsL.getD j 0<=444758425:=by decide
  exact this k h
 ·rw[List.getD_eq_getElem?_getD,List.getElem?_eq_none (by simp[rootsL];omega)];simp
theorem powU_le: ∀k,k<16->powU k<=2147483648:=by decide
theorem powX_lo (f:Int) (k:Nat):1073741824<=powX f k:=by
 induction k with
 |zero=>simp[powX]
 |succ k ih=>
  unfold powX
  split
  ·have h1:0<=powX f k*powR k:=Int.mul_nonneg (by omega) (powR_nn k)
   have h2:0<=powX f k*powR k/1073741824:=Int.ediv_nonneg h1 (by omega)
   omega
  ·exact ih
theorem powX_U (f:Int) (k:Nat):powX f k<=powU k:=by
 induction k with
 |zero=>simp[powX,powU]
 |succ k ih=>
  have h0:=powX_lo f k
  have h1:powX f k*powR k<=powU k*powR k:=Int.mul_le_mul_of_nonneg_right ih (powR_nn k)
  have h2:powX f k*powR k/1073741824<=powU k*powR k/1073741824:=Int.ediv_le_ediv (by omega) h1
  have h3:0<=powU k*powR k/1073741824:=Int.ediv_nonneg (Int.mul_nonneg (by omega) (powR_nn k)) (by omega)
  unfold powX powU
  split<;>omega
theorem powX_hi (f:Int) {k:Nat} (h:k<16):powX f k<=2147483648:=Int.le_trans (powX_U f k) (powU_le k h)
theorem pow_step {x r:Int} (h1:1073741824<=x) (h2:x<=2147483648) (h3:0<=r) (h4:r<=444758425):0<=x*r/\x*r<=955124478797414400/\0<=x*r/1073741824/\x*r/1073741824<=889516850:=by
 have h5:x*r<=2147483648*444758425:=Int.mul_le_mul h2 h4 h3 (by omega)
 have h6:0<=x*r:=Int.mul_nonneg (by omega) h3
 omega
theorem ret2i {a b c:Int} (h:a=b):Ending.returned (.tuple #[.int .i64 a,.int .i64 c])= .returned (.tuple #[.int .i64 b,.int .i64 c]):=by rw[h]
theorem dualPow_in (n f:Int) (w:World) (T:TabA w 2 rootsL) (n1:0<=n) (n2:n<=30) (f1:0<=f) (f2:f<=32767):
 Calls Tryd.prog 90 #[.int .i64 n,.int .i64 f] w fun e w'=>e= .returned (.tuple #[.int .i64 (powV n f),.int .i64 0])/\w=w':=by
 have d1: ¬n<0:=by omega
 have d2: ¬30<n:=by omega
 have d3: ¬f<0:=by omega
 have d4: ¬32767<f:=by omega
 have size15:(Tryd.prog.info? 162).map (·.size)=some 15:=by kernel_rfl
 have HIX:=hid (fun(k:Nat) (hk:k<15) (w:World)=>run_index_agi Tryd.underlying162 rootsL rfl k hk w)
 have TT:=hid T
 have S15:=hid size15
 clear T size15
 go_enter Tryd.func90,Tryd.ntmps90
 go_wp2_with (refine wpList_loadT rfl 162 (.global 2) rfl _ rootsL 15 _ rfl TT.out Tryd.underlying162 rfl S15.out rfl ?_)
 go_loop [6,24] (fun xv iv=> ∃(k:Nat) (x:Int),k<=15/\iv= .int .i64 k/\xv= .int .i64 x/\Hid (x=powX f k)) (fun _ iv=>15-(intOf iv).toNat)
 case atStart=>exact⟨0,1073741824,by omega,rfl,rfl,hid rfl⟩
 case round=>
  obtain⟨k,x,hk,rfl,rfl,HX⟩:=hrel
  by_cases hlt:k<15
  ·have hix:=HIX.out k hlt
   have x1:1073741824<=x:=by rw[HX.out];exact powX_lo f k
   have x2:x<=2147483648:=by rw[HX.out];exact powX_hi f (by omega)
   have r1:=powR_nn k
   have r2:=powR_le k
   have HR:=hid (show powX f (k+1)=if powBit f k then x+x*powR k/1073741824 else x by rw[powX,<-HX.out])
   unfold powR at r1 r2 HR
   generalize rootsL.getD k 0=r at*
   obtain⟨q1,q2,q3,q4⟩:=pow_step x1 x2 r1 r2
   have HA:=and1 (f/2^(14-k))
   by_cases hb:f/2^(14-k)%2=1
   ·have e1:(bits BinOp.and IntKind.i64 (f/2^(14-k)) 1==1)=true:=by rw[HA,hb];rfl
    have HR2:=hid (show powX f (k+1)=x+x*r/1073741824 by rw[HR.out,if_pos (by unfold powBit;simpa using hb)])
    clear HA hb HR
    go_wp2
    go_round
    case rel=>exact⟨k+1,_,by omega,by go_num,rfl,hid HR2.out.symm⟩
    case measure=>simp[intOf]<;>omega
   ·have e1:(bits BinOp.and IntKind.i64 (f/2^(14-k)) 1==1)=false:=by rw[HA];simpa using hb
    have HR2:=hid (show powX f (k+1)=x by rw[HR.out,if_neg (by unfold powBit;simpa using hb)])
    clear HA hb HR
    go_wp2
    go_round
    case rel=>exact⟨k+1,_,by omega,by go_num,rfl,hid HR2.out.symm⟩
    case measure=>simp[intOf]<;>omega
  ·obtain rfl:k=15:=by omega
   obtain⟨m,rfl⟩:=Int.eq_ofNat_of_zero_le n1
   have x1:1073741824<=x:=by rw[HX.out];exact powX_lo f 15
   have x2:x<=2147483648:=by rw[HX.out];exact powX_hi f (by omega)
   have HV:=hid (show powV (m:Nat) f=(if 2147483647<=x/2^(30-m) then 2147483647 else x/2^(30-m)) by
    unfold powV
    rw[if_pos (by unfold powB;simp;omega),<-HX.out,show((30:Int)-(m:Nat)).toNat=30-m by omega])
   clear HX hlt
   obtain⟨p,hp⟩: ∃p,p=x/2^(30-m):=⟨_,rfl⟩
   rw[<-hp] at HV
   by_cases hc:2147483647<=p
   ·have HV2:=hid (show powV (m:Nat) f=2147483647 by rw[HV.out,if_pos hc])
    have g1:2147483647<=x/2^(30-m):=by rw[<-hp];exact hc
    clear hp HV hc
    go_wp2
    all_goals
     go_ret2
     exact⟨by rw[HV2.out];first|rfl|exact ret2i (a:=x/2^(30-m)) (by omega),rfl⟩
   ·have HV2:=hid (show powV (m:Nat) f=x/2^(30-m) by rw[HV.out,if_neg hc,hp])
    have g1:x/2^(30-m)<2147483647:=by omega
    clear hp HV hc
    go_wp2
    all_goals
     go_ret2
     exact⟨by rw[HV2.out];first|rfl|exact ret2i (a:=x/2^(30-m)) (by omega),rfl⟩
theorem dualPow_any (n f:Int) (w:World) (T:TabA w 2 rootsL):
 Calls Tryd.prog 90 #[.int .i64 n,.int .i64 f] w fun e w'=>e= .returned (.tuple #[.int .i64 (powV n f),.int .i64 (errOf (powB n f))])/\w=w':=by
 by_cases h:(0<=n/\n<=30)/\0<=f/\f<=32767
 ·have hb:powB n f=true:=by unfold powB;simpa using h
  rw[hb]
  exact dualPow_in n f w T h.1.1 h.1.2 h.2.1 h.2.2
 ·have hb:powB n f=false:=by unfold powB;simpa using h
  have hv:powV n f=0:=by unfold powV;rw[hb];rfl
  rw[hb,hv]
  clear hb hv T
  by_cases h1:n<0
  ·clear h
   go_enter Tryd.func90,Tryd.ntmps90
   go_wp2
   go_ret2
   exact⟨rfl,rfl⟩
  by_cases h2:30<n
  ·clear h
   go_enter Tryd.func90,Tryd.ntmps90
   go_wp2
   go_ret2
   exact⟨rfl,rfl⟩
  by_cases h3:f<0
  ·clear h
   go_enter Tryd.func90,Tryd.ntmps90
   go_wp2
   go_ret2
   exact⟨rfl,rfl⟩
  have h4:32767<f:=by omega
  clear h
  go_enter Tryd.func90,Tryd.ntmps90
  go_wp2
  go_ret2
  exact⟨rfl,rfl⟩
def glB (n:Int):Bool:=decide (0<=n/\n<=31)
def glV (n:Int):Int:=if glB n then powV ((24+3*n)/8) ((24+3*n)%8*4096) else 0
theorem powB_gl {n:Int} (h1:0<=n) (h2:n<=31):powB ((24+3*n)/8) ((24+3*n)%8*4096)=true:=by
 unfold powB
 simp
 omega
theorem glB_yes {n:Int} (h1:0<=n) (h2:n<=31):glB n=true:=by unfold glB;simp;omega
theorem glB_no {n:Int} (h:n<0\/31<n):glB n=false:=by unfold glB;simp;omega
theorem glV_range (n:Int):0<=glV n/\glV n<=32767:=by
 by_cases h:0<=n/\n<=31
 ·obtain⟨k,rfl⟩:=Int.eq_ofNat_of_zero_le h.1
  have: ∀k:Nat,k<32->0<=glV (k:Nat)/\glV (k:Nat)<=32767:=by decide+kernel
  exact this k (by omega)
 ·unfold glV
  rw[glB_no (by omega)]
  simp
theorem gainLevel_any (n:Int) (w:World) (T:TabA w 2 rootsL):
 Calls Tryd.prog 63 #[.int .i64 n] w fun e w'=>e= .returned (.tuple #[.int .i64 (glV n),.int .i64 (errOf (glB n))])/\w=w':=by
 by_cases h:n<0\/31<n
 ·rw[show glV n=0 by unfold glV;rw[glB_no h];rfl,glB_no h]
  clear T
  rcases h with h|h
  ·go_enter Tryd.func63,Tryd.ntmps63
   go_wp2
   go_ret2
   exact⟨rfl,rfl⟩
  ·have h2: ¬n<0:=by omega
   go_enter Tryd.func63,Tryd.ntmps63
   go_wp2
   go_ret2
   exact⟨rfl,rfl⟩
 ·have l1:0<=n:=by omega
  have l2:n<=31:=by omega
  have l3: ¬n<0:=by omega
  have l4: ¬31<n:=by omega
  have K:=dualPow_any (3+3*n/8) (3*n%8*4096) w T
  rw[show(3:Int)+3*n/8=(24+3*n)/8 by omega,show(3:Int)*n%8*4096=(24+3*n)%8*4096 by omega,powB_gl l1 l2] at K
  have hv:powV ((24+3*n)/8) ((24+3*n)%8*4096)=glV n:=by unfold glV;rw[glB_yes l1 l2];rfl
  rw[hv,show(24+3*n)/8=3+3*n/8 by omega,show(24+3*n)%8*4096=3*n%8*4096 by omega] at K
  rw[glB_yes l1 l2]
  have K:=hid K
  clear hv T h
  go_enter Tryd.func63,Tryd.ntmps63
  go_wp2_with (go_at_call 90;(with_reducible refine K.out.mono ?_);rintro e w' ⟨rfl,rfl⟩)
  go_ret2
  exact⟨rfl,rfl⟩
end Go.Proofs.YthoiikkjjaldnaaDoor
namespace Go.Proofs.YthoiikkjjaldnaaDoor
set_option linter.unusedVariables false
set_option linter.unusedSimpArgs false
set_option maxRecDepth 100000
open Go.RowKit
def okI (x:Int):Bool:=decide (0<=x/\x<=9)
theorem okI_yes {x:Int} (h1:0<=x) (h2:x<=9):okI x=true:=by unfold okI;simp;omega
theorem okI_no {x:Int} (h:x<0\/9<x):okI x=false:=by unfold okI;simp;omega
def atB (t p:Int):Bool:=decide (0<=t/\t<=3)&&okI p
def atV (t p:Int):Int:=if atB t p then t+4*p else 0
def AtAns (t p:Int) (w:World) (e:Ending) (w':World):Prop:=e= .returned (.tuple #[.int .i64 (atV t p),.int .i64 (errOf (atB t p))])/\w=w'
theorem AtAns.bad {t p:Int} {w:World} (h: ¬((0<=t/\t<=3)/\0<=p/\p<=9)):AtAns t p w (.returned (.tuple #[.int .i64 0,.int .i64 2])) w:=by
 have hb:atB t p=false:=by unfold atB okI;simp;omega
 exact⟨by unfold atV;rw[hb];rfl,rfl⟩
theorem AtAns.good {t p:Int} {w:World} (h:(0<=t/\t<=3)/\0<=p/\p<=9):AtAns t p w (.returned (.tuple #[.int .i64 (t+4*p),.int .i64 0])) w:=by
 have hb:atB t p=true:=by unfold atB okI;simp;omega
 exact⟨by unfold atV;rw[hb];rfl,rfl⟩
theorem AtAns.comm {t p:Int} {w w':World} (h:AtAns t p w (.returned (.tuple #[.int .i64 (t+4*p),.int .i64 0])) w'):AtAns t p w (.returned (.tuple #[.int .i64 (4*p+t),.int .i64 0])) w':=by
 rw[Int.add_comm];exact h
theorem pulsesAt_any (t p:Int) (w:World):Calls Tryd.prog 89 #[.int .i64 t,.int .i64 p] w (AtAns t p w):=by
 by_cases h:(0<=t/\t<=3)/\0<=p/\p<=9
 ·have FIN:=hid (AtAns.good (w:=w) h)
  obtain⟨⟨h1,h2⟩,h3,h4⟩:=h
  have k1: ¬t<0:=by omega
  have k2: ¬4<=t:=by omega
  have k3: ¬3<t:=by omega
  have k4: ¬p<0:=by omega
  have k5: ¬10<=p:=by omega
  have k6: ¬9<p:=by omega
  go_enter Tryd.func89,Tryd.ntmps89
  go_wp2
  go_ret2
  first|exact FIN.out|(rw[Int.add_comm] at FIN;exact FIN.out)|exact FIN.out.comm
 ·have FIN:=hid (AtAns.bad (w:=w) h)
  by_cases k1:t<0
  ·clear h
   go_enter Tryd.func89,Tryd.ntmps89
   go_wp2
   go_ret2
   exact FIN.out
  by_cases k2:3<t
  ·have k3:4<=t:=by omega
   clear h
   go_enter Tryd.func89,Tryd.ntmps89
   go_wp2
   go_ret2
   exact FIN.out
  have k3: ¬4<=t:=by omega
  by_cases k4:p<0
  ·clear h
   go_enter Tryd.func89,Tryd.ntmps89
   go_wp2
   go_ret2
   exact FIN.out
  have k5:9<p:=by omega
  have k6:10<=p:=by omega
  clear h
  go_enter Tryd.func89,Tryd.ntmps89
  go_wp2
  go_ret2
  exact FIN.out
def blS (signs size:Int):Bool:=decide ((0<=signs/\signs<=15)/\0<=size/\size<=32767)
def blB (idx:List Int) (signs size:Int):Bool:=blS signs size&&idx.all okI
def blE (idx:List Int) (signs size:Int) (j:Nat):Int:=if idx.getD (j%4) 0=(j/4:Nat) then(if signs/2^(j%4)%2=1 then size else-size) else 0
def blL (idx:List Int) (signs size:Int):List Int:=if blB idx signs size then(List.range 40).map (blE idx signs size) else[]
def blN (idx:List Int) (signs size:Int) (n:Nat):List Int:=(List.range 40).map (fun j=>if j%4<n then blE idx signs size j else 0)
theorem blN_len (idx:List Int) (signs size:Int) (n:Nat):(blN idx signs size n).length=40:=by simp[blN]
theorem blN_zero (idx:List Int) (signs size:Int):blN idx signs size 0=List.replicate 40 0:=by
 refine list_ext (by simp[blN_len]) fun j hj=>?_
 rw[blN_len] at hj
 rw[repl_get];unfold blN;rw[range_get _ hj,if_neg (by omega)]
theorem blN_end (idx:List Int) (signs size:Int):blN idx signs size 4=(List.range 40).map (blE idx signs size):=by
 refine list_ext (by simp[blN_len]) fun j hj=>?_
 rw[blN_len] at hj
 unfold blN;rw[range_get _ hj,range_get _ hj,if_pos (by omega)]
theorem blN_set (idx:List Int) (signs size:Int) {n p:Nat} (hn:n<4) (hp:p<10) (h:idx.getD n 0=(p:Nat)) (v:Int) (hv:v=if signs/2^n%2=1 then size else-size):(blN idx signs size n).set (n+4*p) v=blN idx signs size (n+1):=by
 refine list_ext (by simp[blN_len]) fun j hj=>?_
 rw[List.length_set,blN_len] at hj
 have hm:(n+4*p)%4=n:=by omega
 have hd:(n+4*p)/4=p:=by omega
 by_cases e:n+4*p=j
 ·subst e
  rw[get_set_same _ _ _ (by rw[blN_len];exact hj)]
  unfold blN
  rw[range_get _ hj,if_pos (by omega)]
  unfold blE
  rw[hm,hd,if_pos h,hv]
 ·rw[get_set_other _ _ e]
  unfold blN
  rw[range_get _ hj,range_get _ hj]
  by_cases h2:j%4<n
  ·rw[if_pos h2,if_pos (by omega)]
  ·rw[if_neg h2]
   by_cases h3:j%4=n
   ·rw[if_pos (by omega)]
    unfold blE
    rw[h3,h,if_neg (by omega)]
   ·rw[if_neg (by omega)]
theorem bl_bad {idx:List Int} {signs size:Int} {w w':World} (hb:blB idx signs size=false) (hB:Below w.heap.size w w'):NewSE w (blL idx signs size) (errOf (blB idx signs size)) (.returned (.tuple #[.slice none 0 0,.int .i64 2])) w':=by
 rw[show blL idx signs size=[] by unfold blL;rw[hb];rfl,hb]
 exact NewSE.none_ hB
theorem bl_good {idx:List Int} {signs size:Int} {w w':World} {A:Option Addr} {c:Nat} (hb:blB idx signs size=true) (hO:Own w' w.heap.size A c ((List.range 40).map (blE idx signs size))) (hB:Below w.heap.size w w'):NewSE w (blL idx signs size) (errOf (blB idx signs size)) (.returned (.tuple #[.slice A 40 c,.int .i64 0])) w':=by
 rw[show blL idx signs size=(List.range 40).map (blE idx signs size) by unfold blL;rw[hb];rfl,hb]
 exact⟨A,c,by simp;rfl,hO,hB⟩
theorem pulsesBuild_any (idx:List Int) (signs size:Int) (w:World) (hl:idx.length=4) (hs1: -9223372036854775808<=size) (hs2:size<=9223372036854775807):
 Calls Tryd.prog 60 #[.agg (agi idx),.int .i64 signs,.int .i64 size] w (NewSE w (blL idx signs size) (errOf (blB idx signs size))):=by
 have BA:=hid ((Below.refl w.heap.size w).alloc (Nat.le_refl _) (.cells (agi idx) 72))
 have KS:=hid (fun W=>pulsessat_any size W)
 by_cases h:(0<=signs/\signs<=15)/\0<=size/\size<=32767
 rotate_left
 ·have FB:=hid (fun w' (hB:Below w.heap.size w w')=>bl_bad (idx:=idx) (signs:=signs) (size:=size) (w:=w) (w':=w') (by unfold blB blS;simp[h]) hB)
  by_cases k1:signs<0
  ·clear h
   go_enter Tryd.func60,Tryd.ntmps60
   go_wp2_with (go_at_call 85;(with_reducible refine(KS.out _).mono ?_);rintro e w' ⟨rfl,rfl⟩)
   go_ret2
   exact FB.out _ BA.out
  by_cases k2:15<signs
  ·have k3:16<=signs:=by omega
   clear h
   go_enter Tryd.func60,Tryd.ntmps60
   go_wp2_with (go_at_call 85;(with_reducible refine(KS.out _).mono ?_);rintro e w' ⟨rfl,rfl⟩)
   go_ret2
   exact FB.out _ BA.out
  have k3: ¬16<=signs:=by omega
  by_cases k4:size< -32768\/32767<size
  ·have e2:(size !=s16 size)=true:=by rw[bne_iff_ne];exact fun h=>s16_ne k4 h.symm
   have e1:(size==s16 size)=false:=by rw[beq_eq_false_iff_ne];exact fun h=>s16_ne k4 h.symm
   clear h k4
   go_enter Tryd.func60,Tryd.ntmps60
   go_wp2_with (go_at_call 85;(with_reducible refine(KS.out _).mono ?_);rintro e w' ⟨rfl,rfl⟩)
   go_ret2
   exact FB.out _ BA.out
  have k5:size<0:=by omega
  have e3:=s16_id (x:=size) (by omega) (by omega)
  rw[e3] at KS
  clear h k4 e3
  go_enter Tryd.func60,Tryd.ntmps60
  go_wp2_with (go_at_call 85;(with_reducible refine(KS.out _).mono ?_);rintro e w' ⟨rfl,rfl⟩)
  go_ret2
  exact FB.out _ BA.out
 obtain⟨⟨g1,g2⟩,z1,z2⟩:=h
 have hS:blS signs size=true:=by unfold blS;simp;omega
 have FB:=hid (fun w' (h:idx.all okI=false) (hB:Below w.heap.size w w')=>bl_bad (idx:=idx) (signs:=signs) (size:=size) (w:=w) (w':=w') (by unfold blB;rw[h];simp) hB)
 have FG:=hid (fun w' A c (h:idx.all okI=true) (hO:Own w' w.heap.size A c ((List.range 40).map (blE idx signs size))) (hB:Below w.heap.size w w')=>bl_good (idx:=idx) (signs:=signs) (size:=size) (w:=w) (w':=w') (by unfold blB;rw[h,hS];rfl) hO hB)
 have e3:=s16_id (x:=size) (by omega) (by omega)
 rw[e3] at KS
 have A0:=hid (IB.new w 72 idx)
 have size4:(Tryd.prog.info? 72).map (·.size)=some 4:=by kernel_rfl
 have S4:=hid size4
 have HIX:=hid (fun(k:Nat) (hk:k<4) (w:World)=>run_index_agi Tryd.underlying72 idx hl k hk w)
 have HL:=hid hl
 have k1: ¬signs<0:=by omega
 have k3: ¬16<=signs:=by omega
 have k5: ¬size<0:=by omega
 clear hS e3 size4 hl
 go_enter Tryd.func60,Tryd.ntmps60
 go_wp2_with (first
  |(go_at_call 85;(with_reducible refine(KS.out _).mono ?_);rintro e w' ⟨rfl,rfl⟩)
  |(at_make;refine wpList_makeI rfl _ _ rfl .i64 .i64 40 rfl rfl w.heap.size (by omega) (by simp) ?_;intro w1 hO hG;simp only[World.size_alloc] at hO;have O1:=hid (show Own w1 w.heap.size (some ⟨w.heap.size+1,0,none⟩) 40 (blN idx signs size 0) by rw[blN_zero];exact hO);have A1:=hid (Blk.grown A0.out hG (by simp));have B1:=hid (BA.out.grown hG (by simp) (by simp));clear hO hG)
  |(refine wpList_loadI rfl 72 (.tmp 3) rfl _ 72 idx 4 _ rfl A1.out Tryd.underlying72 rfl S4.out HL.out ?_))
 go_loopw [31] (fun iv wr=> ∃n:Nat,n<=4/\iv= .int .i64 n/\Hid (allTo okI idx n)/\Hid (Own wr w.heap.size (some ⟨w.heap.size+1,0,none⟩) 40 (blN idx signs size n))/\Hid (Below w.heap.size w wr)) (fun iv _=>4-(intOf iv).toNat)
 case atStart=>exact⟨0,by omega,rfl,hid allTo.zero,O1,B1⟩
 case round=>
  clear O1 B1 A1 A0
  obtain⟨n,hn,rfl,HA,HO,HB⟩:=hrel
  by_cases hlt:n<4
  ·have hix:=HIX.out n hlt
   obtain⟨x,hx⟩: ∃x,x=idx.getD n 0:=⟨_,rfl⟩
   rw[<-hx] at hix
   have KA:=pulsesAt_any (n:Nat) x wr
   by_cases hok:0<=x/\x<=9
   ·obtain⟨p,rfl⟩:=Int.eq_ofNat_of_zero_le hok.1
    have hb:atB (n:Nat) (p:Nat)=true:=by unfold atB okI;simp;omega
    have hv:atV (n:Nat) (p:Nat)=(n:Nat)+4*(p:Nat):=by unfold atV;rw[hb];rfl
    obtain⟨j,hj⟩: ∃j,j=n+4*p:=⟨_,rfl⟩
    unfold AtAns at KA
    rw[hb,hv,show((n:Nat):Int)+4*((p:Nat):Int)=(j:Nat) by omega] at KA
    have KA':=hid KA
    have HA2:=hid (HA.out.succ (by rw[<-hx];exact okI_yes (by omega) (by omega)))
    have hj40:j<40:=by omega
    have co:=HO.out.cell j (by rw[blN_len];exact hj40)
    have fo:=HO.out.frozen j
    have j1:(j:Int)<40:=by omega
    have j2:(0:Int)<=j:=by omega
    have ha:=and1 (signs/2^n)
    have Set:=hid (fun v hv=>blN_set idx signs size (p:=p) hlt (by omega) hx.symm v hv)
    rw[<-hj] at Set
    have HX:=hid hx
    have HJ:=hid hj
    have f2:((wr.setCell ⟨w.heap.size+1,j,none⟩ (.int .i64 (-size))).cell? ⟨w.heap.size+1,j,none⟩).isSome=true:=by
     rw[(HO.out.set_ j (by rw[blN_len];exact hj40) (-size)).cell j (by simp[blN_len];exact hj40)];rfl
    clear KA hb hv hx hj
    by_cases hbit:signs/2^n%2=1
    ·have e1:(bits BinOp.and IntKind.i64 (signs/2^n) 1==1)=true:=by rw[ha,hbit];rfl
     have NO:=hid (show Own ((wr.setCell ⟨w.heap.size+1,j,none⟩ (.int .i64 (-size))).setCell ⟨w.heap.size+1,j,none⟩ (.int .i64 size)) w.heap.size (some ⟨w.heap.size+1,0,none⟩) 40 (blN idx signs size (n+1)) from by
      rw[<-Set.out size (by rw[if_pos hbit])]
      have h1:=(HO.out.set_ j (by rw[blN_len];exact hj40) (-size)).set_ j (by rw[List.length_set,blN_len];exact hj40) size
      rwa [List.set_set] at h1)
     have NB:=hid ((HB.out.setCell (p:=⟨w.heap.size+1,j,none⟩) (show w.heap.size<=w.heap.size+1 by omega) (.int .i64 (-size))).setCell (p:=⟨w.heap.size+1,j,none⟩) (show w.heap.size<=w.heap.size+1 by omega) (.int .i64 size))
     clear ha hbit
     go_wp2_with (go_at_call 89;(with_reducible refine KA'.out.mono ?_);rintro e w' ⟨rfl,rfl⟩)
     go_roundw
     case rel=>exact⟨n+1,by omega,by go_num,HA2,NO,NB⟩
     case measure=>simp[intOf]<;>omega
    ·have e1:(bits BinOp.and IntKind.i64 (signs/2^n) 1==1)=false:=by rw[ha];simpa using hbit
     have NO:=hid (show Own (wr.setCell ⟨w.heap.size+1,j,none⟩ (.int .i64 (-size))) w.heap.size (some ⟨w.heap.size+1,0,none⟩) 40 (blN idx signs size (n+1)) from by
      rw[<-Set.out (-size) (by rw[if_neg hbit])]
      exact HO.out.set_ j (by rw[blN_len];exact hj40) (-size))
     have NB:=hid (HB.out.setCell (p:=⟨w.heap.size+1,j,none⟩) (show w.heap.size<=w.heap.size+1 by omega) (.int .i64 (-size)))
     clear ha hbit
     go_wp2_with (go_at_call 89;(with_reducible refine KA'.out.mono ?_);rintro e w' ⟨rfl,rfl⟩)
     go_roundw
     case rel=>exact⟨n+1,by omega,by go_num,HA2,NO,NB⟩
     case measure=>simp[intOf]<;>omega
   ·have hb:atB (n:Nat) x=false:=by unfold atB okI;simp;omega
    have hv:atV (n:Nat) x=0:=by unfold atV;rw[hb];rfl
    unfold AtAns at KA
    rw[hb,hv] at KA
    have KA':=hid KA
    have FF:=hid (FB.out wr (all_no (i:=n) (by rw[HL.out];exact hlt) (by rw[<-hx];exact okI_no (by omega))) HB.out)
    have HX:=hid hx
    clear KA hb hv hx hok
    go_wp2_with (go_at_call 89;(with_reducible refine KA'.out.mono ?_);rintro e w' ⟨rfl,rfl⟩)
    go_ret2
    exact FF.out
  ·obtain rfl:n=4:=by omega
   have FF:=hid (FG.out wr _ _ (HA.out.all (by rw[HL.out];exact Nat.le_refl _)) (by rw[<-blN_end];exact HO.out) HB.out)
   go_wp2
   go_ret2
   exact FF.out
end Go.Proofs.YthoiikkjjaldnaaDoor
namespace Go.Proofs.YthoiikkjjaldnaaDoor
set_option linter.unusedVariables false
set_option linter.unusedSimpArgs false
set_option maxRecDepth 100000
open Go.RowKit
end Go.Proofs.YthoiikkjjaldnaaDoor
namespace Go.Proofs.YthoiikkjjaldnaaDoor
set_option linter.unusedVariables false
set_option linter.unusedSimpArgs false
set_option maxRecDepth 100000
open Go.RowKit
end Go.Proofs.YthoiikkjjaldnaaDoor
namespace Go.Proofs.YthoiikkjjaldnaaDoor
set_option linter.unusedVariables false
set_option linter.unusedSimpArgs false
set_option maxRecDepth 100000
open Go.RowKit
end Go.Proofs.YthoiikkjjaldnaaDoor
namespace Go.Proofs.YthoiikkjjaldnaaDoor
set_option linter.unusedVariables false
set_option linter.unusedSimpArgs false
set_option maxRecDepth 100000
open Go.RowKit
def ringX (n:Nat):List Int:=(List.replicate n 0).set 0 4096
def ringB (n:Int):Bool:=decide (0<=n/\n<=80)
def ringL (a:List Int) (n:Int):List Int:=if ringB n then(if goodF a Z8 (ringX n.toNat) then makeN a Z8 (ringX n.toNat) n.toNat else[]) else[]
def ringErr (a:List Int) (n:Int):Int:=if ringB n then errOf (goodF a Z8 (ringX n.toNat)) else 1
theorem ringX_len (n:Nat):(ringX n).length=n:=by simp[ringX]
theorem ringB_no {n:Int} (h:n<0\/80<n):ringB n=false:=by unfold ringB;simp;omega
theorem ringB_yes {n:Int} (h1:0<=n) (h2:n<=80):ringB n=true:=by unfold ringB;simp;omega
theorem synthRing_any (a:List Int) (n:Int) (w:World) (ha:a.length=9):Calls Tryd.prog 50 #[.agg (agi a),.int .i64 n] w (NewSE w (ringL a n) (ringErr a n)):=by
 by_cases h1:n<0\/80<n
 ·rw[show ringL a n=[] from by unfold ringL;rw[ringB_no h1];rfl,show ringErr a n=1 from by unfold ringErr;rw[ringB_no h1];rfl]
  have FIN:=hid (NewSE.none_ (er:=1) ((Below.refl _ w).alloc (Nat.le_refl _) (.cells (agi a) 69)))
  rcases h1 with h1|h1
  ·go_enter Tryd.func50,Tryd.ntmps50
   go_wp2
   go_ret2
   exact FIN.out
  ·have h2: ¬n<0:=by omega
   go_enter Tryd.func50,Tryd.ntmps50
   go_wp2
   go_ret2
   exact FIN.out
 ·obtain⟨N,rfl⟩:=Int.eq_ofNat_of_zero_le (show 0<=n by omega)
  have hb:ringB (N:Nat)=true:=ringB_yes (by omega) (by omega)
  have hN:N<=80:=by omega
  obtain⟨ys,hys⟩: ∃ys,ys=ringL a (N:Nat):=⟨_,rfl⟩
  obtain⟨er,her⟩: ∃er,er=ringErr a (N:Nat):=⟨_,rfl⟩
  have K1: ∀W A,Rs W W.heap.size A (ringX N)->Calls Tryd.prog 48 #[.agg (agi a),.agg (agi Z8),.slice A N N] W (fun e w'=> ∃A3 c3 q,q.length=8/\e= .returned (.tuple #[.slice A3 ys.length c3,.agg (agi q),.int .i64 er])/\Own w' W.heap.size A3 c3 ys/\Below W.heap.size W w'):=fun W A h=>by
   refine(synthMake_any a Z8 (ringX N) A N N W ha rfl h (ringX_len N) (by omega)).mono ?_
   rintro e w' ⟨A3,c3,h1,h2,h3⟩
   refine⟨A3,c3,(if goodF a Z8 (ringX N) then newL Z8 (makeN a Z8 (ringX N) N) else Z8),?_,?_,?_,h3⟩
   ·split
    ·exact newL_len _ _ rfl
    ·rfl
   ·rw[h1,hys,her,show ringL a (N:Nat)=(if goodF a Z8 (ringX N) then makeN a Z8 (ringX N) N else[]) from by unfold ringL;rw[hb];rfl,show ringErr a (N:Nat)=errOf (goodF a Z8 (ringX N)) from by unfold ringErr;rw[hb];rfl]
   ·rw[hys,show ringL a (N:Nat)=(if goodF a Z8 (ringX N) then makeN a Z8 (ringX N) N else[]) from by unfold ringL;rw[hb];rfl];exact h2
  rw[<-hys,<-her]
  clear hys her hb h1
  rw[z8_eq] at K1
  have K1':=hid K1
  clear K1
  have A0:=hid (IB.new w 69 a)
  have HA:=hid ha
  clear ha
  have d1:decide ((N:Int)<0)=false:=by simp<;>omega
  have d2:decide (80<(N:Int))=false:=by simp;omega
  by_cases h0:N=0
  ·subst h0
   have K1:=hid (fun W A=>K1'.out W A)
   clear K1'
   go_enter Tryd.func50,Tryd.ntmps50
   go_wp2_with (first
    |(at_make;refine wpList_makeI rfl _ _ rfl .i64 .i64 0 rfl rfl w.heap.size (by omega) (by simp) ?_;intro w1 hO hG;simp only[World.size_alloc] at hO;have O1:=hid (show Own w1 w.heap.size (some ⟨w.heap.size+1,0,none⟩) 0 (ringX 0) from hO);have A1:=hid (Blk.grown A0.out hG (by simp));have B1:=hid (((Below.refl w.heap.size w).alloc (Nat.le_refl _) (.cells (agi a) 69)).grown hG (by simp) (by simp));clear hO hG)
    |(refine wpList_loadI rfl 69 (.tmp 2) rfl _ 69 a 9 _ rfl A1.out Tryd.underlying69 rfl size9 HA.out ?_))
   refine(K1.out _ _ O1.out.reads).mono ?_
   rintro e w2 ⟨A3,c3,q,hq,rfl,hO,hB⟩
   have HQ:=hid hq
   have O2:=hid hO
   have B2:=hid (B1.out.trans (hB.mono B1.out.size))
   clear hB hO hq
   go_wp2_with (refine wpList_storeI rfl 27 (.tmp 8) (.tmp 28) rfl _ 27 Z8 q 8 rfl rfl (IB.new w2 27 Z8) size8 rfl HQ.out ?_)
   go_ret2
   exact⟨A3,c3,rfl,(O2.out.below (below_stored w2 (.cells (agi Z8) 27) _)).more B1.out.size,B2.out.trans ((below_stored w2 (.cells (agi Z8) 27) _).mono B2.out.size)⟩
  ·have d3:decide (0<(N:Int))=true:=by simp;omega
   have i1:(0:Int)<N:=by omega
   have i2:0<N:=by omega
   have KN:=hid (fun W A h=>K1'.out W A h)
   have HX:=hid (show(List.replicate N 0).set 0 4096=ringX N from rfl)
   clear K1' h0
   go_enter Tryd.func50,Tryd.ntmps50
   go_wp2_with (first
    |(at_make;refine wpList_makeI rfl _ _ rfl .i64 .i64 N rfl rfl w.heap.size (by omega) (by simp) ?_;intro w1 hO hG;simp only[World.size_alloc] at hO;have cc:=hO.cell 0 (by simpa using i2);have ff:=hO.frozen 0;have O1:=hid (show Own (w1.setCell ⟨w.heap.size+1,0,none⟩ (.int .i64 4096)) w.heap.size (some ⟨w.heap.size+1,0,none⟩) N (ringX N) from hO.set_ 0 (by simpa using i2) 4096);have A1:=hid (Blk.far (Blk.grown A0.out hG (by simp)) (p:=⟨w.heap.size+1,0,none⟩) (show w.heap.size≠w.heap.size+1 by omega) (.int .i64 4096));have B1:=hid ((((Below.refl w.heap.size w).alloc (Nat.le_refl _) (.cells (agi a) 69)).grown hG (by simp) (by simp)).setCell (p:=⟨w.heap.size+1,0,none⟩) (show w.heap.size<=w.heap.size+1 by omega) (.int .i64 4096));clear hO hG)
    |(refine wpList_loadI rfl 69 (.tmp 2) rfl _ 69 a 9 _ rfl A1.out Tryd.underlying69 rfl size9 HA.out ?_))
   refine(KN.out _ _ O1.out.reads).mono ?_
   rintro e w2 ⟨A3,c3,q,hq,rfl,hO,hB⟩
   have HQ:=hid hq
   have O2:=hid hO
   have B2:=hid (B1.out.trans (hB.mono B1.out.size))
   clear hB hO hq
   go_wp2_with (refine wpList_storeI rfl 27 (.tmp 8) (.tmp 28) rfl _ 27 Z8 q 8 rfl rfl (IB.new w2 27 Z8) size8 rfl HQ.out ?_)
   go_ret2
   exact⟨A3,c3,rfl,(O2.out.below (below_stored w2 (.cells (agi Z8) 27) _)).more B1.out.size,B2.out.trans ((below_stored w2 (.cells (agi Z8) 27) _).mono B2.out.size)⟩
end Go.Proofs.YthoiikkjjaldnaaDoor
namespace Go.Proofs.YthoiikkjjaldnaaDoor
set_option linter.unusedVariables false
set_option linter.unusedSimpArgs false
set_option maxRecDepth 100000
open Go.RowKit
theorem hidW {p:Prop} (h:p):Hid p:=h
def wgt (i:Int):Int:=if i<0\/120<=i then 0 else 32767*min (2*i+1) (239-2*i)/119
theorem wgt_out {i:Int} (h:i<0\/120<=i):wgt i=0:=by unfold wgt;rw[if_pos h]
theorem wgt_low {i:Int} (h0:0<=i) (h:i<60):wgt i=32767*(2*i+1)/119:=by
 unfold wgt;rw[if_neg (by omega),Int.min_eq_left (by omega)]
theorem wgt_high {i:Int} (h0:60<=i) (h:i<120):wgt i=32767*(239-2*i)/119:=by
 unfold wgt;rw[if_neg (by omega),Int.min_eq_right (by omega)]
theorem weight_any (i:Int) (w:World):Calls Tryd.prog 44 #[.int .i64 i] w fun e w'=>e= .returned (.int .i64 (wgt i))/\w=w':=by
 by_cases h1:i<0
 ·rw[wgt_out (.inl h1)]
  go_enter Tryd.func44,Tryd.ntmps44
  go_wp2
  go_ret
  exact⟨rfl,rfl⟩
 by_cases h2:120<=i
 ·rw[wgt_out (.inr h2)]
  have hd:decide (i<0)=false:=by simpa using h1
  go_enter Tryd.func44,Tryd.ntmps44
  go_wp2
  go_ret
  exact⟨rfl,rfl⟩
 have hd:decide (i<0)=false:=by simpa using h1
 have hd2:decide (120<=i)=false:=by simpa using h2
 by_cases h3:i<60
 ·have HV:=hidW (wgt_low (by omega) h3)
  have hm:min (2*i+1) (2*(120-i)-1)=2*i+1:=Int.min_eq_left (by omega)
  go_enter Tryd.func44,Tryd.ntmps44
  go_wp2
  go_ret
  rw[HV.out]
  exact⟨by simp,rfl⟩
 ·have HV:=hidW (wgt_high (i:=i) (by omega) (by omega))
  have hm:min (2*i+1) (2*(120-i)-1)=2*(120-i)-1:=Int.min_eq_right (by omega)
  go_enter Tryd.func44,Tryd.ntmps44
  go_wp2
  go_ret
  rw[HV.out]
  refine⟨?_,rfl⟩
  show Ending.returned (.int .i64 (32767*(2*(120-i)-1)/119))=_
  rw[show 2*(120-i)-1=239-2*i from by omega]
end Go.Proofs.YthoiikkjjaldnaaDoor
