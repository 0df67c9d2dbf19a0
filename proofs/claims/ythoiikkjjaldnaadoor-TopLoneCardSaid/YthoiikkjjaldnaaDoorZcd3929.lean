/- Texts that the law rests on, laid together: ChM, CorM, CorW. -/
import Derived.Test.YthoiikkjjaldnaaDoorZ6782c5
import Derived.Test.YthoiikkjjaldnaaDoorZ840156
import Derived.Test.YthoiikkjjaldnaaDoorZd3feda
import Derived.Test.YthoiikkjjaldnaaDoorZ55ca3b
import Derived.Test.YthoiikkjjaldnaaDoorZf70980
import Derived.Test.YthoiikkjjaldnaaDoorZ50b7c0
import Derived.Test.YthoiikkjjaldnaaDoorZa2d71e
import Derived.Test.YthoiikkjjaldnaaDoorZ4b8d9d
import Derived.Test.YthoiikkjjaldnaaDoorZbe9dc0
import Derived.Test.YthoiikkjjaldnaaDoorZdf659f
import Derived.Test.YthoiikkjjaldnaaDoorZe4c9da
import Derived.Test.YthoiikkjjaldnaaDoorZ7e0d48
import Derived.BigRegion
import Derived.LoopN
set_option maxHeartbeats 8000000
namespace Go.Proofs.YthoiikkjjaldnaaDoor
set_option linter.unusedVariables false
set_option linter.unusedSimpArgs false
set_option maxRecDepth 100000
open Go.RowKit
def lessE (a b:List Int) (i:Nat):Int:=s16 (a.getD i 0-b.getD i 0)
def lessL (a b:List Int) (n:Nat):List Int:=(List.range n).map (lessE a b)
def scaleE (l:List Int) (g:Int) (i:Nat):Int:=s16 ((l.getD i 0*g+8192)/16384)
def scaleL (l:List Int) (g:Int) (n:Nat):List Int:=(List.range n).map (scaleE l g)
theorem lessL_len (a b:List Int) (n:Nat):(lessL a b n).length=n:=by simp[lessL]
theorem scaleL_len (l:List Int) (g:Int) (n:Nat):(scaleL l g n).length=n:=by simp[scaleL]
theorem map_s16 (f:Nat->Int) (h: ∀i,∃x,f i=s16 x) (n:Nat):all16 ((List.range n).map f)=true:=by
 unfold all16
 rw[List.all_eq_true]
 intro y hy
 obtain⟨i,_,rfl⟩:=List.mem_map.1 hy
 obtain⟨x,hx⟩:=h i
 rw[hx]
 exact ok16_s16 x
theorem lessL_in (a b:List Int) (n:Nat):all16 (lessL a b n)=true:=map_s16 _ (fun i=>⟨_,rfl⟩) n
theorem scaleL_in (l:List Int) (g:Int) (n:Nat):all16 (scaleL l g n)=true:=map_s16 _ (fun i=>⟨_,rfl⟩) n
def chRst (m:Mm) (a:List Int):List Int:=makeN a m.p (List.replicate 40 0) 40
def chT (m:Mm) (a l:List Int):List Int:=lessL l (chRst m a) 40
def chR (a:List Int):List Int:=ringL a 40
def chK (m:Mm) (a l:List Int):Int×Int×Int:=pkS (chR a) m.e (chT m a l) 60
def chP (m:Mm) (a l:List Int):Int:=nearestV (chK m a l).2.1 (chK m a l).2.2
def chV (m:Mm) (a l:List Int):List Int:=foL (chR a) (pastL m.e (chK m a l).1)
def chT2 (m:Mm) (a l:List Int):List Int:=lessL (chT m a l) (scaleL (chV m a l) (gainV (chP m a l)) 40) 40
def chD (m:Mm) (a l:List Int):List Int:=tgL (chT2 m a l) (chR a)
def chI (m:Mm) (a l:List Int):List Int:=fewN (chD m a l) (chR a) 8
def chS (m:Mm) (a l:List Int):Int:=sgnB (chD m a l) (chI m a l) 4
def chF (m:Mm) (a l:List Int):List Int:=foL (chR a) (blL (chI m a l) (chS m a l) 4096)
def chL (m:Mm) (a l:List Int):Int:=gainOneV (dotL (chT2 m a l) (chF m a l) 40*4096) (dotL (chF m a l) (chF m a l) 40)
def chU (m:Mm) (a l:List Int):List Int:=((chK m a l).1-20)::chP m a l::(chI m a l++[chS m a l,chL m a l])
theorem zeros_in (n:Nat):all16 (List.replicate n 0)=true:=by
 unfold all16
 rw[List.all_eq_true]
 intro x hx
 rw[List.eq_of_mem_replicate hx]
 decide
theorem ringX_in:all16 (ringX 40)=true:=by decide
section
variable {m:Mm} {a l:List Int}
theorem chRst_len:(chRst m a).length=40:=makeN_len _ _ _ _
theorem chT_len:(chT m a l).length=40:=lessL_len _ _ _
theorem chT_in:all16 (chT m a l)=true:=lessL_in _ _ _
theorem ring_eq (ha:goodA a):ringL a 40=makeN a Z8 (ringX 40) 40/\ringErr a 40=0:=by
 have hb:ringB 40=true:=by decide
 have hF:goodF a Z8 (ringX (40:Int).toNat)=true:=goodA_F ha (zeros_in 8) ringX_in
 unfold ringL ringErr
 rw[hb,if_pos rfl,if_pos rfl,hF,if_pos rfl]
 exact⟨rfl,rfl⟩
theorem chR_len (ha:goodA a):(chR a).length=40:=by unfold chR;rw[(ring_eq ha).1];exact makeN_len _ _ _ _
theorem chR_in (ha:goodA a):all16 (chR a)=true:=by unfold chR;rw[(ring_eq ha).1];exact makeN_all _ _ _ _
theorem chR_pk (ha:goodA a):pkR (chR a)=true:=by unfold pkR;rw[chR_in ha,chR_len ha];rfl
theorem chK_lag:20<=(chK m a l).1/\(chK m a l).1<=79:=pkS_lag _ _ _ 60 (Nat.le_refl _)
theorem near_top (vs:List Int) (one c e:Int) {k:Nat} (h:0<k):0<=nearB vs one c e (k+1)/\nearB vs one c e (k+1)<=k:=by
 have h2:=nearB_range vs one c e k
 rw[nearB_step vs one c e h]
 split<;>omega
theorem nearest_rng (c e:Int):0<=nearestV c e/\nearestV c e<=7:=by
 unfold nearestV
 split
 ·omega
 ·exact near_top gainsL 16384 (cap40 c) (cap40 e) (k:=7) (by omega)
theorem one_rng (c e:Int):0<=gainOneV c e/\gainOneV c e<=31:=by
 unfold gainOneV
 split
 ·omega
 ·exact near_top glL 1 (cap60 c) (cap44 e) (k:=31) (by omega)
theorem chP_rng:0<=chP m a l/\chP m a l<=7:=nearest_rng _ _
theorem chPast_len:(pastL m.e (chK m a l).1).length=40:=pastL_len (pastB_yes chK_lag.1 chK_lag.2)
theorem chPast_in (g:goodM m=true):all16 (pastL m.e (chK m a l).1)=true:=pastL_in (all16_at (goodM_of g).2.2.1) _
theorem chV_len (g:goodM m=true) (ha:goodA a):(chV m a l).length=40:=by
 have h:=pk_fo (ring:=chR a) (v:=pastL m.e (chK m a l).1) chPast_len (chPast_in g)
 rw[chR_pk ha] at h
 exact h
theorem chV_in:all16 (chV m a l)=true:=foL_in _ _
theorem chT2_len:(chT2 m a l).length=40:=lessL_len _ _ _
theorem chT2_in:all16 (chT2 m a l)=true:=lessL_in _ _ _
theorem chD_err (ha:goodA a):tgErr (chT2 m a l) (chR a)=0:=by
 rw[tgErr_all chT2_len (chR_len ha)]
 unfold tgB
 rw[chT2_in,chR_in ha];rfl
theorem chD_len (ha:goodA a):(chD m a l).length=40:=by unfold chD;rw[tgL_good (chD_err ha)];simp
theorem chD_rng (ha:goodA a): ∀x∈chD m a l,-42949672960<=x/\x<=42949672960:=by
 intro x hx
 unfold chD at hx
 rw[tgL_good (chD_err ha)] at hx
 obtain⟨n,_,rfl⟩:=List.mem_map.1 hx
 have:=tgT_range (all16_at (chT2_in (m:=m) (a:=a) (l:=l))) (chR a) n 40
 unfold tgE
 omega
theorem chD_64 (ha:goodA a):W64 (chD m a l):=fun x hx=>by have:=chD_rng ha x hx;omega
theorem ch_se (ha:goodA a):seErr (chD m a l) (chR a)=0:=by
 unfold seErr
 rw[if_pos ⟨chD_len ha,chR_len ha⟩,if_pos ?_]
 rw[List.all_eq_true]
 intro x hx
 have:=chD_rng ha x hx
 simp;omega
theorem chI_ix:Ix (chI m a l):=fewN_ix _ _ _
theorem chI_len:(chI m a l).length=4:=chI_ix.1
theorem chI_at {j:Nat} (hj:j<4):0<=(chI m a l).getD j 0/\(chI m a l).getD j 0<=9:=by
 have h:=chI_ix (m:=m) (a:=a) (l:=l)
 have h2:=h.2
 unfold okIx at h2
 have h3:=all_at h2 j (by rw[h.1];exact hj)
 simpa using h3
theorem chS_rng:0<=chS m a l/\chS m a l<=15:=by
 have:=sgnN_lt (chD m a l) (chI m a l) 4
 unfold chS sgnB
 omega
theorem chBl:blB (chI m a l) (chS m a l) 4096=true:=by
 have h:=chS_rng (m:=m) (a:=a) (l:=l)
 unfold blB blS
 rw[Bool.and_eq_true]
 refine⟨decide_eq_true ⟨h,by omega,by omega⟩,?_⟩
 have h3:allTo okI (chI m a l) 4:=fun j hj=>by
  have:=chI_at (m:=m) (a:=a) (l:=l) hj
  exact okI_yes this.1 this.2
 exact h3.all (by rw[chI_len];exact Nat.le_refl _)
theorem chOne_len:(blL (chI m a l) (chS m a l) 4096).length=40:=by unfold blL;rw[chBl];simp
theorem chOne_in:all16 (blL (chI m a l) (chS m a l) 4096)=true:=by
 unfold blL
 rw[chBl,if_pos rfl]
 unfold all16
 rw[List.all_eq_true]
 intro y hy
 obtain⟨i,_,rfl⟩:=List.mem_map.1 hy
 unfold blE
 split
 ·split<;>decide
 ·decide
theorem chF_len (ha:goodA a):(chF m a l).length=40:=by
 have h:=pk_fo (ring:=chR a) (v:=blL (chI m a l) (chS m a l) 4096) chOne_len chOne_in
 rw[chR_pk ha] at h
 exact h
theorem chF_in:all16 (chF m a l)=true:=foL_in _ _
theorem chL_rng:0<=chL m a l/\chL m a l<=31:=one_rng _ _
theorem chU_len:(chU m a l).length=8:=by unfold chU;simp[chI_len]
theorem chU_ok:UOk (chU m a l):=by
 have h1:=chK_lag (m:=m) (a:=a) (l:=l)
 have h2:=chP_rng (m:=m) (a:=a) (l:=l)
 have h3:=chS_rng (m:=m) (a:=a) (l:=l)
 have h4:=chL_rng (m:=m) (a:=a) (l:=l)
 have hI:=chI_len (m:=m) (a:=a) (l:=l)
 have hj: ∀j,j<4->0<=(chI m a l).getD j 0/\(chI m a l).getD j 0<=9:=fun j hj=>chI_at hj
 have hl:=chU_len (m:=m) (a:=a) (l:=l)
 unfold chU at*
 generalize (chK m a l).1=k at*
 generalize chP m a l=p at*
 generalize chS m a l=s at*
 generalize chL m a l=v at*
 generalize chI m a l=I at*
 match I,hI with
 |[i0,i1,i2,i3],_=>
  refine⟨hl,⟨by show 0<=k-20;omega,by show k-20<=59;omega⟩,h2,fun j a1 a2=>?_,h3,h4⟩
  have e:j=2\/j=3\/j=4\/j=5:=by omega
  rcases e with rfl|rfl|rfl|rfl
  ·exact hj 0 (by omega)
  ·exact hj 1 (by omega)
  ·exact hj 2 (by omega)
  ·exact hj 3 (by omega)
end
end Go.Proofs.YthoiikkjjaldnaaDoor
namespace Go.Proofs.YthoiikkjjaldnaaDoor
set_option linter.unusedVariables false
set_option linter.unusedSimpArgs false
set_option maxRecDepth 100000
open Go.RowKit
theorem wgt_range (i:Int):0<=wgt i/\wgt i<=32767:=by
 by_cases h:i<0\/120<=i
 ·rw[wgt_out h];omega
 by_cases h2:i<60
 ·rw[wgt_low (by omega) h2];omega
 ·rw[wgt_high (by omega) (by omega)];omega
def corW (l:List Int) (i:Nat):Int:=(l.getD i 0*wgt (i:Nat)+16384)/32768
theorem corW_range {l:List Int} (h:In16 l) (i:Nat): -32768<=corW l i/\corW l i<=32768:=by
 have h1:=h i
 have h2:=wgt_range (i:Nat)
 unfold corW
 generalize l.getD i 0=x at*
 generalize wgt (i:Nat)=y at*
 have:=mul_bound (x:=x) (X:=32768) (y:=y) (Y:=32767) (by omega) (by omega) ⟨by omega,by omega⟩ ⟨by omega,by omega⟩
 omega
def corT (l:List Int) (k i:Nat):Int:=corW l i*corW l (i+k)
def corS (l:List Int) (k n:Nat):Int:=sumN (corT l k) n
theorem corT_range {l:List Int} (h:In16 l) (k i:Nat): -1073741824<=corT l k i/\corT l k i<=1073741824:=by
 have h1:=corW_range h i
 have h2:=corW_range h (i+k)
 have:=mul_bound (x:=corW l i) (X:=32768) (y:=corW l (i+k)) (Y:=32768) (by omega) (by omega) ⟨by omega,by omega⟩ ⟨by omega,by omega⟩
 unfold corT
 omega
theorem corS_range {l:List Int} (h:In16 l) (k n:Nat) (hn:n<=120): -128849018880<=corS l k n/\corS l k n<=128849018880:=by
 have: -(1073741824*(n:Int))<=corS l k n/\corS l k n<=1073741824*(n:Int):=by
  clear hn
  unfold corS
  induction n with
  |zero=>simp[sumN]
  |succ n ih=>
   have:=corT_range h k n
   simp only[sumN]
   push_cast
   omega
 omega
def corZ (l:List Int):Int:=corS l 0 120+1
theorem sq_int (x:Int):0<=x*x:=by
 rcases Int.le_total 0 x with h|h
 ·exact Int.mul_nonneg h h
 ·exact Int.mul_nonneg_of_nonpos_of_nonpos h h
theorem two_ab (a b:Int): -(a*a+b*b)<=2*(a*b)/\2*(a*b)<=a*a+b*b:=by
 have h1:=sq_int (a+b)
 have h2:=sq_int (a-b)
 have e1:(a+b)*(a+b)=a*a+2*(a*b)+b*b:=by rw[Int.add_mul,Int.mul_add,Int.mul_add,Int.mul_comm b a];omega
 have e2:(a-b)*(a-b)=a*a-2*(a*b)+b*b:=by rw[Int.sub_mul,Int.mul_sub,Int.mul_sub,Int.mul_comm b a];omega
 omega
def sqs (l:List Int) (n:Nat):Int:=sumN (fun i=>corW l i*corW l i) n
theorem sqs_nn (l:List Int) (n:Nat):0<=sqs l n:=by
 unfold sqs
 induction n with
 |zero=>simp[sumN]
 |succ n ih=>simp only[sumN];have:=sq_int (corW l n);omega
theorem sqs_mono (l:List Int) {m n:Nat} (h:m<=n):sqs l m<=sqs l n:=by
 induction n with
 |zero=>obtain rfl:m=0:=by omega
        exact Int.le_refl _
 |succ n ih=>
  by_cases e:m=n+1
  ·subst e;exact Int.le_refl _
  ·have:=ih (by omega)
   have h2:=sq_int (corW l n)
   unfold sqs at*
   simp only[sumN]
   omega
theorem sqs_shift (l:List Int) (k n:Nat):sumN (fun i=>corW l (i+k)*corW l (i+k)) n<=sqs l (n+k):=by
 induction n with
 |zero=>simpa[sumN] using sqs_nn l (0+k)
 |succ n ih=>
  simp only[sumN]
  have e:sqs l (n+1+k)=sqs l (n+k)+corW l (n+k)*corW l (n+k):=by
   rw[show n+1+k=(n+k)+1 by omega]
   rfl
  rw[e]
  omega
theorem cor_le (l:List Int) {k n:Nat} (h:n+k<=120): -(corZ l-1)<=corS l k n/\corS l k n<=corZ l-1:=by
 have hz:corZ l-1=sqs l 120:=by
  unfold corZ corS sqs
  rw[sumN_congr 120 (g:=fun i=>corW l i*corW l i) (fun i _=>by unfold corT;rw[Nat.add_zero])]
  omega
 have h1:sqs l n<=sqs l 120:=sqs_mono l (by omega)
 have h2:=sqs_shift l k n
 have h3:sqs l (n+k)<=sqs l 120:=sqs_mono l h
 have key: -(sqs l n+sumN (fun i=>corW l (i+k)*corW l (i+k)) n)<=2*corS l k n/\2*corS l k n<=sqs l n+sumN (fun i=>corW l (i+k)*corW l (i+k)) n:=by
  clear h h1 h2 h3 hz
  unfold sqs corS
  induction n with
  |zero=>simp[sumN]
  |succ n ih=>
   simp only[sumN]
   have:=two_ab (corW l n) (corW l (n+k))
   unfold corT
   unfold corT at ih
   omega
 rw[hz]
 omega
theorem corZ_eq (l:List Int):corZ l=sqs l 120+1:=by
 unfold corZ corS sqs
 rw[sumN_congr 120 (g:=fun i=>corW l i*corW l i) (fun i _=>by unfold corT;rw[Nat.add_zero])]
theorem corZ_range {l:List Int} (h:In16 l):1<=corZ l/\corZ l<=128849018881:=by
 have h1:=corS_range h 0 120 (by omega)
 have h2:=sqs_nn l 120
 have h3:=corZ_eq l
 unfold corZ at*
 generalize corS l 0 120=s at*
 generalize sqs l 120=q at*
 omega
end Go.Proofs.YthoiikkjjaldnaaDoor
namespace Go.Proofs.YthoiikkjjaldnaaDoor
set_option linter.unusedVariables false
set_option linter.unusedSimpArgs false
set_option maxRecDepth 100000
open Go.RowKit
def corErr (l:List Int):Int:=if l.length=120 then errOf (all16 l) else 1
theorem size9c:(Tryd.prog.info? 69).map (·.size)=some 9:=by kernel_rfl
def zc120:Array Value:=agi (List.replicate 120 0)
theorem zero120:zc120=agi (List.replicate 120 0):=rfl
theorem zc120_size:zc120.size=120:=by unfold zc120;rw[agi_size,List.length_replicate]
theorem zc120_ne: ¬zc120= #[]:=fun h=>by
 have:=zc120_size
 rw[h] at this
 simp at this
theorem zv120 (w:World):(zeroValue 26).run Tryd.prog w= .ok (.agg zc120) w:=by kernel_rfl
def corN (l:List Int) (k:Nat):List Int:=(List.range 120).map (fun j=>if j<k then corW l j else 0)
theorem corN_len (l:List Int) (k:Nat):(corN l k).length=120:=by simp[corN]
theorem corN_zero (l:List Int):corN l 0=List.replicate 120 0:=by
 refine list_ext (by rw[corN_len];simp) fun j hj=>?_
 rw[corN_len] at hj
 unfold corN
 rw[range_get _ hj,if_neg (by omega),List.getD_eq_getElem?_getD,List.getElem?_replicate,if_pos hj]
 rfl
theorem corN_set (l:List Int) {k:Nat} (hk:k<120):(corN l k).set k (corW l k)=corN l (k+1):=by
 refine list_ext (by rw[List.length_set,corN_len,corN_len]) fun j hj=>?_
 rw[List.length_set,corN_len] at hj
 by_cases e:k=j
 ·subst e
  rw[get_set_same _ _ _ (by rw[corN_len];exact hk)]
  unfold corN
  rw[range_get _ hj,if_pos (by omega)]
 ·rw[get_set_other _ _ e]
  unfold corN
  rw[range_get _ hj,range_get _ hj]
  by_cases h2:j<k
  ·rw[if_pos h2,if_pos (by omega)]
  ·rw[if_neg h2,if_neg (by omega)]
theorem corN_at (l:List Int) {j:Nat} (hj:j<120):(corN l 120).getD j 0=corW l j:=by unfold corN;rw[range_get _ hj,if_pos hj]
def corR (l:List Int) (k n:Nat):List Int:=(List.range 9).map (fun j=>if j<k then corS l j (120-j) else if j=k then corS l k n else 0)
theorem corR_len (l:List Int) (k n:Nat):(corR l k n).length=9:=by simp[corR]
theorem corR_at (l:List Int) {k:Nat} (hk:k<9) (n:Nat):(corR l k n).getD k 0=corS l k n:=by unfold corR;rw[range_get _ hk,if_neg (by omega),if_pos rfl]
theorem corR_set (l:List Int) {k:Nat} (hk:k<9) (n:Nat):(corR l k n).set k (corS l k (n+1))=corR l k (n+1):=by
 refine list_ext (by rw[List.length_set,corR_len,corR_len]) fun j hj=>?_
 rw[List.length_set,corR_len] at hj
 by_cases e:k=j
 ·subst e
  rw[get_set_same _ _ _ (by rw[corR_len];exact hk)]
  unfold corR
  rw[range_get _ hj,if_neg (by omega),if_pos rfl]
 ·rw[get_set_other _ _ e]
  unfold corR
  rw[range_get _ hj,range_get _ hj]
  by_cases h2:j<k
  ·rw[if_pos h2,if_pos h2]
  ·rw[if_neg h2,if_neg (by omega),if_neg h2,if_neg (by omega)]
theorem corR_next (l:List Int) (k:Nat):corR l k (120-k)=corR l (k+1) 0:=by
 refine list_ext (by rw[corR_len,corR_len]) fun j hj=>?_
 rw[corR_len] at hj
 unfold corR
 rw[range_get _ hj,range_get _ hj]
 by_cases h1:j<k
 ·rw[if_pos h1,if_pos (by omega)]
 ·rw[if_neg h1]
  by_cases h2:j=k
  ·subst h2;rw[if_pos rfl,if_pos (by omega)]
  ·rw[if_neg h2,if_neg (by omega)]
   by_cases h3:j=k+1
   ·subst h3;rw[if_pos rfl];rfl
   ·rw[if_neg h3]
theorem corR_end (l:List Int) {j:Nat} (hj:j<9):(corR l 9 0).getD j 0=corS l j (120-j):=by unfold corR;rw[range_get _ hj,if_pos hj]
def corX (l:List Int) (j:Nat):Int:=if j=0 then corZ l else corS l j (120-j)
theorem corX_le (l:List Int) {j:Nat} (hj:j<9): -corZ l<=corX l j/\corX l j<=corZ l:=by
 have h0:=sqs_nn l 120
 have h1:=corZ_eq l
 unfold corX
 split
 ·omega
 ·have:=cor_le l (k:=j) (n:=120-j) (by omega)
  omega
def corQ (x:Int) (k:Nat):Int:=x-x*k*k/8192
def corF (l:List Int) (f:Int->Int) (k:Nat):List Int:=(List.range 9).map (fun j=>if j<k then corQ (f (corX l j)) j else corX l j)
theorem corF_len (l:List Int) (f:Int->Int) (k:Nat):(corF l f k).length=9:=by simp[corF]
theorem corF_at (l:List Int) (f:Int->Int) {k:Nat} (hk:k<9):(corF l f k).getD k 0=corX l k:=by unfold corF;rw[range_get _ hk,if_neg (by omega)]
theorem corF_set (l:List Int) (f:Int->Int) {k:Nat} (hk:k<9):(corF l f k).set k (corQ (f (corX l k)) k)=corF l f (k+1):=by
 refine list_ext (by rw[List.length_set,corF_len,corF_len]) fun j hj=>?_
 rw[List.length_set,corF_len] at hj
 by_cases e:k=j
 ·subst e
  rw[get_set_same _ _ _ (by rw[corF_len];exact hk)]
  unfold corF
  rw[range_get _ hj,if_pos (by omega)]
 ·rw[get_set_other _ _ e]
  unfold corF
  rw[range_get _ hj,range_get _ hj]
  by_cases h2:j<k
  ·rw[if_pos h2,if_pos (by omega)]
  ·rw[if_neg h2,if_neg (by omega)]
theorem corF_zero (l:List Int) (f:Int->Int):(corR l 9 0).set 0 (corZ l)=corF l f 0:=by
 refine list_ext (by rw[List.length_set,corR_len,corF_len]) fun j hj=>?_
 rw[List.length_set,corR_len] at hj
 unfold corF
 rw[range_get _ hj,if_neg (by omega)]
 unfold corX
 by_cases e:0=j
 ·subst e
  rw[get_set_same _ _ _ (by rw[corR_len];omega),if_pos rfl]
 ·rw[get_set_other _ _ e,if_neg (by omega),corR_end l hj]
def CorAns (l:List Int) (w:World) (e:Ending) (w':World):Prop:=
 ∃(f:Int->Int) (N:Int),e= .returned (.tuple #[.agg (agi (corF l f 9)),.int .i64 N,.int .i64 0])/\Below w.heap.size w w'/\
  ((∃n:Nat,N=(n:Int)/\0<n/\f=(fun x=>x/2^n)/\corZ l/2^n<=2147483647/\2147483647<corZ l/2^(n-1))\/
   (∃m:Nat,N= -(m:Int)/\f=(fun x=>x*2^m)/\corZ l<=2147483647/\1073741824<=corZ l*2^m/\∀j,j<m->corZ l*2^j<1073741824))
theorem correlate_good (A:Option Addr) (c n:Nat) (l:List Int) (w:World) (hr:Rs w w.heap.size A l) (hn:l.length=120) (g:all16 l=true):
 Calls Tryd.prog 25 #[.slice A 120 c] w (CorAns l w):=by
 have hR:=results_row3 (fn:=Tryd.f25) (p:=2) (q:=3) (r:=4) (ty:=69) rfl
 have KR:=hid (fun(W:World) (h:Rs W W.heap.size A l)=>frontright_any A c 120 W.heap.size l W h hn (by omega))
 rw[g] at KR
 have G:=hid (show In16 l from all16_at g)
 have HR:=hid hr
 have HN:=hid hn
 have B0:=(((Below.refl w.heap.size w).alloc (Nat.le_refl _) (.cells (agi Z9) 69)).alloc (by simp) (.cells (agi Z9) 69))
 have B1:=B0.alloc (by simp;omega) (.cells zc120 26)
 have I0:=Blk.alloc (Blk.alloc (IB.new w 69 Z9) (.cells (agi Z9) 69)) (.cells zc120 26)
 have R0:=Blk.alloc (IB.new (w.alloc (.cells (agi Z9) 69)) 69 Z9) (.cells zc120 26)
 have W0:=Blk.new ((w.alloc (.cells (agi Z9) 69)).alloc (.cells (agi Z9) 69)) 26 zc120
 simp only[World.size_alloc] at I0 R0 W0
 clear hr hn g
 have hzv: ∀w,(zeroValue 26).run Tryd.prog w= .ok (.agg zc120) w:=zv120
 have hzn:=zc120_ne
 have hzs:=zc120_size
 go_enter Tryd.func25,Tryd.ntmps25
 go_wp2_with fail
 refine(KR.out _ ((HR.out.below B0).more B0.size)).mono ?_
 rintro e w1 ⟨rfl,rfl⟩
 clear B0
 go_wp2
 clear hzv hzn hzs
 have I1:=hid (show IB (((w.alloc (.cells (agi Z9) 69)).alloc (.cells (agi Z9) 69)).alloc (.cells zc120 26)) w.heap.size 69 Z9 from I0)
 have R1:=hid (show IB (((w.alloc (.cells (agi Z9) 69)).alloc (.cells (agi Z9) 69)).alloc (.cells zc120 26)) (w.heap.size+1) 69 Z9 from R0)
 have W1:=hid (show IB (((w.alloc (.cells (agi Z9) 69)).alloc (.cells (agi Z9) 69)).alloc (.cells zc120 26)) (w.heap.size+1+1) 26 (corN l 0) from by rw[corN_zero];unfold IB;rw[<-zero120];exact W0)
 have BH:=hid B1
 clear B1
 obtain⟨V,hV⟩: ∃V,V=(((w.alloc (.cells (agi Z9) 69)).alloc (.cells (agi Z9) 69)).alloc (.cells zc120 26)):=⟨_,rfl⟩
 rw[<-hV] at I1 R1 W1 BH|-
 clear hV I0 R0 W0
 go_loopw [23] (fun iv wr=> ∃i:Nat,i<=120/\iv= .int .i64 i/\Hid (IB wr w.heap.size 69 Z9)/\Hid (IB wr (w.heap.size+1) 69 Z9)/\Hid (IB wr (w.heap.size+1+1) 26 (corN l i))/\Hid (Below w.heap.size w wr)) (fun iv _=>120-(intOf iv).toNat)
 case atStart=>exact⟨0,by omega,rfl,I1,R1,W1,BH⟩
 case round=>
  clear I1 R1 W1 BH
  obtain⟨i,hi,rfl,HI,HRr,HW,HB⟩:=hrel
  by_cases hlt:i<120
  ·obtain⟨ad,rfl,hadb,c0⟩:=(HR.out.below HB.out).at_ (k:=i) (by rw[HN.out];exact hlt)
   have x16:=G.out i
   have yr:=wgt_range (i:Nat)
   have HSet:=hid (corN_set l hlt)
   have HC:=hid (show corW l i=(l.getD i 0*wgt (i:Nat)+16384)/32768 from rfl)
   have cw:=IB.cell HW.out i (by rw[corN_len];exact hlt)
   have fw:=Blk.frozen HW.out i
   have KW:=hid (fun W=>weight_any (i:Nat) W)
   generalize l.getD i 0=x at*
   generalize wgt (i:Nat)=y at*
   have pr:=mul_bound (x:=x) (X:=32768) (y:=y) (Y:=32767) (by omega) (by omega) ⟨by omega,by omega⟩ ⟨by omega,by omega⟩
   have p1: -1073709056<=x*y:=by omega
   have p2:x*y<=1073709056:=by omega
   have in0:(0:Int)<=i:=by omega
   have in1:(i:Int)<120:=by omega
   have NW:=hid (show IB (wr.setCell ⟨w.heap.size+1+1,i,none⟩ (.int .i64 ((x*y+16384)/32768))) (w.heap.size+1+1) 26 (corN l (i+1)) from by rw[<-HSet.out,HC.out];exact IB.set_ HW.out i _)
   have NI:=hid (Blk.far HI.out (p:=⟨w.heap.size+1+1,i,none⟩) (by show w.heap.size≠w.heap.size+1+1;omega) (.int .i64 ((x*y+16384)/32768)))
   have NR:=hid (Blk.far HRr.out (p:=⟨w.heap.size+1+1,i,none⟩) (by show w.heap.size+1≠w.heap.size+1+1;omega) (.int .i64 ((x*y+16384)/32768)))
   have NB:=hid (HB.out.setCell (p:=⟨w.heap.size+1+1,i,none⟩) (by show w.heap.size<=w.heap.size+1+1;omega) (.int .i64 ((x*y+16384)/32768)))
   clear pr x16 yr
   go_wp2_with (go_at_call 44;(with_reducible refine(KW.out _).mono ?_);rintro e w' ⟨rfl,rfl⟩)
   go_roundw
   case rel=>exact⟨i+1,by omega,by go_num,NI,NR,NW,NB⟩
   case measure=>simp[intOf]<;>omega
  ·obtain rfl:i=120:=by omega
   have RZ:=hid (show IB wr (w.heap.size+1) 69 (corR l 0 0) from by
    have e:corR l 0 0=Z9:=by
     refine list_ext (by rw[corR_len];rfl) fun j hj=>?_
     rw[corR_len] at hj
     unfold corR Z9
     rw[range_get _ hj,if_neg (by omega),List.getD_eq_getElem?_getD,List.getElem?_replicate,if_pos hj]
     split<;>rfl
    rw[e];exact HRr.out)
   go_wp2
   go_loopw [37] (fun kv wr=> ∃k:Nat,k<=9/\kv= .int .i64 k/\Hid (IB wr w.heap.size 69 Z9)/\Hid (IB wr (w.heap.size+1) 69 (corR l k 0))/\Hid (IB wr (w.heap.size+1+1) 26 (corN l 120))/\Hid (Below w.heap.size w wr)) (fun kv _=>9-(intOf kv).toNat)
   case atStart=>exact⟨0,by omega,rfl,HI,RZ,HW,HB⟩
   case round=>
    clear HI RZ HW HB HRr
    obtain⟨k,hk,rfl,HI,HRr,HW,HB⟩:=hrel
    obtain⟨wo,rfl⟩: ∃wo:World,wo=wr:=⟨_,rfl⟩
    by_cases hlk:k<9
    ·have hdec:decide ((k:Int)<9)=true:=by simp;omega
     go_wp2
     go_loopw [10] (fun iv wr=> ∃(i m:Nat),i<=120/\i=m+k/\iv= .int .i64 i/\Hid (IB wr w.heap.size 69 Z9)/\Hid (IB wr (w.heap.size+1) 69 (corR l k m))/\Hid (IB wr (w.heap.size+1+1) 26 (corN l 120))/\Hid (Below w.heap.size w wr)) (fun iv _=>120-(intOf iv).toNat)
     case atStart=>exact⟨k,0,by omega,by omega,rfl,HI,HRr,HW,HB⟩
     case round=>
      clear HI HRr HW HB
      obtain⟨i,m,hi,him,rfl,HI,HRr,HW,HB⟩:=hrel
      by_cases hli:i<120
      ·have ck:=IB.cell HRr.out k (by rw[corR_len];exact hlk)
       rw[corR_at l hlk] at ck
       have fk:=Blk.frozen HRr.out k
       have ci:=IB.cell HW.out i (by rw[corN_len];exact hli)
       rw[corN_at l hli] at ci
       have cm:=IB.cell HW.out m (by rw[corN_len];omega)
       rw[corN_at l (by omega)] at cm
       have ST:=hid (show corS l k (m+1)=corS l k m+corW l i*corW l m by
        unfold corS
        simp only[sumN]
        unfold corT
        rw[him,Int.mul_comm])
       have HSet:=hid (corR_set l hlk m)
       have sr:=corS_range G.out k m (by omega)
       have r1:=corW_range G.out i
       have r2:=corW_range G.out m
       generalize corW l i=x at*
       generalize corW l m=y at*
       obtain⟨s,hs⟩: ∃s,s=corS l k m:=⟨_,rfl⟩
       rw[<-hs] at ck ST sr
       have pr:=mul_bound (x:=x) (X:=32768) (y:=y) (Y:=32768) (by omega) (by omega) ⟨by omega,by omega⟩ ⟨by omega,by omega⟩
       have p1: -1073741824<=x*y:=by omega
       have p2:x*y<=1073741824:=by omega
       have hw0:IntKind.i64.wrap ((i:Int)-(k:Nat))=(m:Nat):=by rw[IntKind.wrap_i64];omega
       have hw1:IntKind.i64.wrap (x*y)=x*y:=by rw[IntKind.wrap_i64];omega
       have hw2:IntKind.i64.wrap (s+x*y)=s+x*y:=by rw[IntKind.wrap_i64];omega
       have i1:(i:Int)<120:=by omega
       have i2:(0:Int)<=i:=by omega
       have i3:(m:Int)<120:=by omega
       have i4:(0:Int)<=m:=by omega
       have i5:(k:Int)<9:=by omega
       have i6:(0:Int)<=k:=by omega
       have NR:=hid (show IB (wr.setCell ⟨w.heap.size+1,k,none⟩ (.int .i64 (s+x*y))) (w.heap.size+1) 69 (corR l k (m+1)) from by rw[<-HSet.out,ST.out];exact IB.set_ HRr.out k _)
       have NI:=hid (Blk.far HI.out (p:=⟨w.heap.size+1,k,none⟩) (by show w.heap.size≠w.heap.size+1;omega) (.int .i64 (s+x*y)))
       have NW:=hid (Blk.far HW.out (p:=⟨w.heap.size+1,k,none⟩) (by show w.heap.size+1+1≠w.heap.size+1;omega) (.int .i64 (s+x*y)))
       have NB:=hid (HB.out.setCell (p:=⟨w.heap.size+1,k,none⟩) (by show w.heap.size<=w.heap.size+1;omega) (.int .i64 (s+x*y)))
       have HS:=hid hs
       have HIM:=hid him
       clear pr r1 r2 sr hs him
       go_wp2
       go_region
       clear hw0 hw1 hw2 ck ci cm fk
       go_wp2
       go_roundw
       case rel=>exact⟨i+1,m+1,by omega,by have:=HIM.out;omega,by go_num,hid (Blk.drew NI.out),hid (Blk.drew NR.out),hid (Blk.drew NW.out),hid NB.out.drew⟩
       case measure=>simp[intOf]<;>omega
      ·obtain rfl:i=120:=by omega
       have NR:=hid (show IB wr (w.heap.size+1) 69 (corR l (k+1) 0) from by rw[<-corR_next,show 120-k=m by omega];exact HRr.out)
       go_wp2
       go_roundw
       case rel=>exact⟨k+1,by omega,by go_num,HI,NR,HW,HB⟩
       case measure=>simp[intOf]<;>omega
    ·obtain rfl:k=9:=by omega
     have c0:=IB.cell HRr.out 0 (by rw[corR_len];omega)
     rw[corR_end l (by omega:0<9)] at c0
     have f0:=Blk.frozen HRr.out 0
     have zr:=corZ_range G.out
     have ZE:=hid (show corZ l=corS l 0 120+1 from rfl)
     have hz:=ZE.out
     obtain⟨s,hs⟩: ∃s,s=corS l 0 (120-0):=⟨_,rfl⟩
     rw[show(120:Nat)-0=120 from rfl] at hs
     rw[show(120:Nat)-0=120 from rfl,<-hs] at c0
     rw[<-hs] at hz
     have hzs:s+1=corZ l:=by omega
     have s1:0<=s:=by omega
     have s2:s<=128849018880:=by omega
     have NR:=hid (show IB (wo.setCell ⟨w.heap.size+1,0,none⟩ (.int .i64 (s+1))) (w.heap.size+1) 69 ((corR l 9 0).set 0 (s+1)) from IB.set_ HRr.out 0 _)
     have NI:=hid (Blk.far HI.out (p:=⟨w.heap.size+1,0,none⟩) (by show w.heap.size≠w.heap.size+1;omega) (.int .i64 (s+1)))
     have NB:=hid (HB.out.setCell (p:=⟨w.heap.size+1,0,none⟩) (by show w.heap.size<=w.heap.size+1;omega) (.int .i64 (s+1)))
     have HZS:=hid hzs
     clear hs hz zr hzs
     go_wp2
     generalize wo.setCell ⟨w.heap.size+1,0,none⟩ (.int .i64 (s+1))=w2 at NR NI NB|-
     obtain⟨z,hz⟩: ∃z,z=s+1:=⟨_,rfl⟩
     have z1:1<=z:=by omega
     have z2:z<=128849018881:=by omega
     rw[<-hz] at NR
     have HZ:=hid hz
     have cz:=IB.cell NR.out 0 (by rw[List.length_set,corR_len];omega)
     rw[get_set_same _ _ _ (by rw[corR_len];omega)] at cz
     clear hz c0 f0
     go_loop [11] (fun nv=> ∃n:Nat,n<=10/\nv= .int .i64 n/\Hid (∀m,m<n->2147483647<z/2^m)) (fun nv=>10-(intOf nv).toNat)
     case atStart=>exact⟨0,by omega,rfl,hid (fun m hm=>by omega)⟩
     case round=>
      obtain⟨n,hn,rfl,HM⟩:=hrel
      have n0:(0:Int)<=n:=by omega
      have n64:(n:Int)<64:=by omega
      have HX6:=hid (fun(h:2147483647<z/2^n)=>show n<7 from by
       refine Classical.byContradiction fun hc=>?_
       have h7:(2:Int)^7<=2^n:=by exact_mod_cast Nat.pow_le_pow_right (by decide:0<2) (by omega:7<=n)
       have h8:z/2^n<=z/2^7:=by
        have h0:(0:Int)<2^n:=Int.pow_pos (by decide)
        refine Int.le_of_lt_add_one ((Int.ediv_lt_iff_lt_mul h0).2 ?_)
        have:=Int.lt_ediv_add_one_mul_self z (show(0:Int)<2^7 by decide)
        have h9:(0:Int)<=z/2^7+1:=by have:=Int.ediv_nonneg (show 0<=z by omega) (show(0:Int)<=2^7 by decide);omega
        exact Int.lt_of_lt_of_le this (Int.mul_le_mul_of_nonneg_left h7 h9)
       have h10:z/2^7<=128849018881/2^7:=Int.ediv_le_ediv (by decide) z2
       have h11:(128849018881:Int)/2^7=1006632960:=by decide
       omega)
      go_wp2
      ·rename_i hgt
       have hn7:=HX6.out hgt
       refine⟨⟨n+1,by omega,by go_num,hid fun m hm=>?_⟩,?_⟩
       ·by_cases e:m=n
        ·subst e;exact hgt
        ·exact HM.out m (by omega)
       ·simp[intOf]<;>omega
      ·have hle:z/2^n<=2147483647:=by assumption
       by_cases hn0:n=0
       ·subst hn0
        have z31:z<=2147483647:=by simpa using hle
        clear hle HX6 HM
        go_loop [11] (fun nv=> ∃m:Nat,nv= .int .i64 (-(m:Int))/\Hid (∀j,j<m->z*2^j<1073741824)) (fun nv=>(40+intOf nv).toNat)
        case atStart=>exact⟨0,rfl,hid (fun j hj=>by omega)⟩
        case round=>
         obtain⟨m,rfl,HJ⟩:=hrel
         have hb:z*2^m<2147483648:=by
          by_cases e:m=0
          ·subst e;simpa using(by omega:z<2147483648)
          ·obtain⟨q,rfl⟩: ∃q,m=q+1:=⟨m-1,by omega⟩
           have:=HJ.out q (by omega)
           rw[Int.pow_succ,<-Int.mul_assoc]
           omega
         have hb0:1<=z*2^m:=by
          have h0:(0:Int)<2^m:=Int.pow_pos (by decide)
          have:=Int.mul_pos (show 0<z by omega) h0
          omega
         have hm31:m<32:=by
          refine Classical.byContradiction fun hc=>?_
          have h7:(2:Int)^32<=2^m:=by exact_mod_cast Nat.pow_le_pow_right (by decide:0<2) (by omega:32<=m)
          have h8:(2:Int)^m<=z*2^m:=by
           have:=Int.mul_le_mul_of_nonneg_right (show 1<=z by omega) (show(0:Int)<=2^m from Int.le_of_lt (Int.pow_pos (by decide)))
           rwa [Int.one_mul] at this
          have h9:(2:Int)^32=4294967296:=by decide
          omega
         have m0:(0:Int)<=m:=by omega
         have m64:(m:Int)<64:=by omega
         have hneg:decide (-(m:Int)<=0)=true:=by simp<;>omega
         go_wp2
         ·have hlt30:z*2^m<1073741824:=by assumption
          refine⟨⟨m+1,by push_cast;congr 1;omega,hid fun j hj=>?_⟩,?_⟩
          ·by_cases e:j=m
           ·subst e;exact hlt30
           ·exact HJ.out j (by omega)
          ·simp[intOf]<;>omega
         ·have hge30:1073741824<=z*2^m:=by assumption
          have RF:=hid (show IB w2 (w.heap.size+1) 69 (corF l (fun x=>x*2^m) 0) from by
           rw[<-corF_zero]
           have e:z=corZ l:=by have:=HZ.out;have:=HZS.out;omega
           rw[<-e];exact NR.out)
          have WF:=hid (Blk.far HW.out (p:=⟨w.heap.size+1,0,none⟩) (by show w.heap.size+1+1≠w.heap.size+1;omega) (.int .i64 (s+1)))
          clear cz
          go_wp2
          go_loopw [85] (fun kv wr=> ∃k:Nat,k<=9/\kv= .int .i64 k/\Hid (IB wr w.heap.size 69 Z9)/\Hid (IB wr (w.heap.size+1) 69 (corF l (fun x=>x*2^m) k))/\Hid (Below w.heap.size w wr)) (fun kv _=>9-(intOf kv).toNat)
          case atStart=>exact⟨0,by omega,rfl,NI,RF,NB⟩
          case round=>
           clear RF NI NB WF
           obtain⟨k,hk,rfl,HI,HF,HB⟩:=hrel
           by_cases hlk:k<9
           ·have ck:=IB.cell HF.out k (by rw[corF_len];exact hlk)
            rw[corF_at l _ hlk] at ck
            have fk:=Blk.frozen HF.out k
            have HSet:=hid (corF_set l (fun x=>x*2^m) hlk)
            have xr:=corX_le l hlk
            have zr:=corZ_range G.out
            generalize corX l k=x at*
            have k0:(0:Int)<=k:=by omega
            have k9:(k:Int)<9:=by omega
            have yb: -2147483648<=x*2^m/\x*2^m<=2147483648:=by
             have d1:(0:Int)<=2^m:=Int.le_of_lt (Int.pow_pos (by decide))
             have ez:z=corZ l:=by have:=HZ.out;have:=HZS.out;omega
             generalize (2:Int)^m=dd at*
             have m1:x*dd<=z*dd:=Int.mul_le_mul_of_nonneg_right (by omega) d1
             have m2: -z*dd<=x*dd:=Int.mul_le_mul_of_nonneg_right (by omega) d1
             rw[Int.neg_mul] at m2
             omega
            have hwx:IntKind.i64.wrap (x*2^m)=x*2^m:=by rw[IntKind.wrap_i64];omega
            have hsg:decide (0< -(m:Int))=false:=by simp<;>omega
            have R3:=hid (show IB (wr.setCell ⟨w.heap.size+1,k,none⟩ (.int .i64 (x*2^m))) (w.heap.size+1) 69 ((corF l (fun x=>x*2^m) k).set k (x*2^m)) from IB.set_ HF.out k _)
            have I3:=hid (Blk.far HI.out (p:=⟨w.heap.size+1,k,none⟩) (by show w.heap.size≠w.heap.size+1;omega) (.int .i64 (x*2^m)))
            have B3:=hid (HB.out.setCell (p:=⟨w.heap.size+1,k,none⟩) (by show w.heap.size<=w.heap.size+1;omega) (.int .i64 (x*2^m)))
            go_wp2
            generalize wr.setCell ⟨w.heap.size+1,k,none⟩ (.int .i64 (x*2^m))=w3 at R3 I3 B3|-
            have c3:=IB.cell R3.out k (by rw[List.length_set,corF_len];exact hlk)
            rw[get_set_same _ _ _ (by rw[corF_len];exact hlk)] at c3
            have f3:=Blk.frozen R3.out k
            have R4:=hid (fun v=>IB.set_ R3.out k v)
            have HQ:=hid (show corQ (x*2^m) k=x*2^m-x*2^m*k*k/8192 from rfl)
            generalize x*2^m=y at*
            have q1:=mul_bound (x:=y) (X:=128849018881) (y:=(k:Int)) (Y:=8) (by omega) (by omega) ⟨by omega,by omega⟩ ⟨by omega,by omega⟩
            have q2:=mul_bound (x:=y*k) (X:=1030792151048) (y:=(k:Int)) (Y:=8) (by omega) (by omega) ⟨by omega,by omega⟩ ⟨by omega,by omega⟩
            have hw1:IntKind.i64.wrap (y*k)=y*k:=by rw[IntKind.wrap_i64];omega
            have hw2:IntKind.i64.wrap (y*k*k)=y*k*k:=by rw[IntKind.wrap_i64];omega
            have hw3:IntKind.i64.wrap (y-y*k*k/8192)=y-y*k*k/8192:=by rw[IntKind.wrap_i64];omega
            have R5:=hid (show IB (w3.setCell ⟨w.heap.size+1,k,none⟩ (.int .i64 (y-y*k*k/8192))) (w.heap.size+1) 69 (corF l (fun x=>x*2^m) (k+1)) from by
             have:=R4.out (y-y*k*k/8192)
             rw[List.set_set,<-HQ.out,HSet.out] at this
             rw[<-HQ.out]
             exact this)
            have I5:=hid (Blk.far I3.out (p:=⟨w.heap.size+1,k,none⟩) (by show w.heap.size≠w.heap.size+1;omega) (.int .i64 (y-y*k*k/8192)))
            have B5:=hid (B3.out.setCell (p:=⟨w.heap.size+1,k,none⟩) (by show w.heap.size<=w.heap.size+1;omega) (.int .i64 (y-y*k*k/8192)))
            clear q1 q2 yb xr zr ck fk
            go_region
            clear hw1 hw2 hw3 c3 f3
            go_wp2
            go_roundw
            case rel=>exact⟨k+1,by omega,by go_num,hid (Blk.drew I5.out),hid (Blk.drew R5.out),hid B5.out.drew⟩
            case measure=>simp[intOf]<;>omega
           ·obtain rfl:k=9:=by omega
            have LF:=hid (corF_len l (fun x=>x*2^m) 9)
            have RE:=hid (IB.setRow HI.out (corF l (fun x=>x*2^m) 9))
            have BE:=hid (below_setRow HB.out (Nat.le_refl _) (agi (corF l (fun x=>x*2^m) 9)))
            have EZ:=hid (show z=corZ l by have:=HZ.out;have:=HZS.out;omega)
            go_wp2_with (first
             |(refine wpList_loadI rfl 69 (.tmp 5) rfl _ 69 (corF l (fun x=>x*2^m) 9) 9 _ rfl HF.out Tryd.underlying69 rfl size9c LF.out ?_)
             |(refine wpList_storeI rfl 69 (.tmp 2) (.tmp 119) rfl _ 69 Z9 (corF l (fun x=>x*2^m) 9) 9 rfl rfl HI.out size9c rfl LF.out ?_))
            refine bodyPost_ret (v:=_) (hR _ _ _ 69 (corF l (fun x=>x*2^m) 9) _ 9 rfl RE.out Tryd.underlying69 rfl size9c LF.out) rfl ?_
            exact⟨fun x=>x*2^m,-(m:Int),rfl,BE.out,.inr ⟨m,rfl,rfl,by rw[<-EZ.out];exact z31,by rw[<-EZ.out];exact hge30,by rw[<-EZ.out];exact HJ.out⟩⟩
       ·have hd:decide ((n:Int)<=0)=false:=by simp;omega
        have hd2:decide (0<(n:Int))=true:=by simp;omega
        have RF:=hid (show IB w2 (w.heap.size+1) 69 (corF l (fun x=>x/2^n) 0) from by
         rw[<-corF_zero]
         have e:z=corZ l:=by have:=HZ.out;have:=HZS.out;omega
         rw[<-e];exact NR.out)
        have WF:=hid (Blk.far HW.out (p:=⟨w.heap.size+1,0,none⟩) (by show w.heap.size+1+1≠w.heap.size+1;omega) (.int .i64 (s+1)))
        have HLE:=hid hle
        have HM2:=hid (HM.out (n-1) (by omega))
        clear hle HX6 HM cz
        refine wp_loop_rounds 1 ?_
        rw[rounds_succ]
        go_wp2
        go_loopw [85] (fun kv wr=> ∃k:Nat,k<=9/\kv= .int .i64 k/\Hid (IB wr w.heap.size 69 Z9)/\Hid (IB wr (w.heap.size+1) 69 (corF l (fun x=>x/2^n) k))/\Hid (Below w.heap.size w wr)) (fun kv _=>9-(intOf kv).toNat)
        case atStart=>exact⟨0,by omega,rfl,NI,RF,NB⟩
        case round=>
         clear RF NI NB WF
         obtain⟨k,hk,rfl,HI,HF,HB⟩:=hrel
         by_cases hlk:k<9
         ·have ck:=IB.cell HF.out k (by rw[corF_len];exact hlk)
          rw[corF_at l _ hlk] at ck
          have fk:=Blk.frozen HF.out k
          have HSet:=hid (corF_set l (fun x=>x/2^n) hlk)
          have xr:=corX_le l hlk
          have zr:=corZ_range G.out
          generalize corX l k=x at*
          have k0:(0:Int)<=k:=by omega
          have k9:(k:Int)<9:=by omega
          have yb: -128849018881<=x/2^n/\x/2^n<=128849018881:=by
           have d1:(1:Int)<=2^n:=Int.pow_pos (by decide)
           generalize (2:Int)^n=dd at*
           have m1:128849018881*1<=128849018881*dd:=Int.mul_le_mul_of_nonneg_left d1 (by decide)
           exact⟨Int.le_ediv_of_mul_le (by omega) (by rw[Int.neg_mul];omega),Int.ediv_le_of_le_mul (by omega) (by omega)⟩
          have R3:=hid (show IB (wr.setCell ⟨w.heap.size+1,k,none⟩ (.int .i64 (x/2^n))) (w.heap.size+1) 69 ((corF l (fun x=>x/2^n) k).set k (x/2^n)) from IB.set_ HF.out k _)
          have I3:=hid (Blk.far HI.out (p:=⟨w.heap.size+1,k,none⟩) (by show w.heap.size≠w.heap.size+1;omega) (.int .i64 (x/2^n)))
          have B3:=hid (HB.out.setCell (p:=⟨w.heap.size+1,k,none⟩) (by show w.heap.size<=w.heap.size+1;omega) (.int .i64 (x/2^n)))
          have n0:(0:Int)<=n:=by omega
          go_wp2
          generalize wr.setCell ⟨w.heap.size+1,k,none⟩ (.int .i64 (x/2^n))=w3 at R3 I3 B3|-
          have c3:=IB.cell R3.out k (by rw[List.length_set,corF_len];exact hlk)
          rw[get_set_same _ _ _ (by rw[corF_len];exact hlk)] at c3
          have f3:=Blk.frozen R3.out k
          have R4:=hid (fun v=>IB.set_ R3.out k v)
          have HQ:=hid (show corQ (x/2^n) k=x/2^n-x/2^n*k*k/8192 from rfl)
          generalize x/2^n=y at*
          have q1:=mul_bound (x:=y) (X:=128849018881) (y:=(k:Int)) (Y:=8) (by omega) (by omega) ⟨by omega,by omega⟩ ⟨by omega,by omega⟩
          have q2:=mul_bound (x:=y*k) (X:=1030792151048) (y:=(k:Int)) (Y:=8) (by omega) (by omega) ⟨by omega,by omega⟩ ⟨by omega,by omega⟩
          have hw1:IntKind.i64.wrap (y*k)=y*k:=by rw[IntKind.wrap_i64];omega
          have hw2:IntKind.i64.wrap (y*k*k)=y*k*k:=by rw[IntKind.wrap_i64];omega
          have hw3:IntKind.i64.wrap (y-y*k*k/8192)=y-y*k*k/8192:=by rw[IntKind.wrap_i64];omega
          have R5:=hid (show IB (w3.setCell ⟨w.heap.size+1,k,none⟩ (.int .i64 (y-y*k*k/8192))) (w.heap.size+1) 69 (corF l (fun x=>x/2^n) (k+1)) from by
           have:=R4.out (y-y*k*k/8192)
           rw[List.set_set,<-HQ.out,HSet.out] at this
           rw[<-HQ.out]
           exact this)
          have I5:=hid (Blk.far I3.out (p:=⟨w.heap.size+1,k,none⟩) (by show w.heap.size≠w.heap.size+1;omega) (.int .i64 (y-y*k*k/8192)))
          have B5:=hid (B3.out.setCell (p:=⟨w.heap.size+1,k,none⟩) (by show w.heap.size<=w.heap.size+1;omega) (.int .i64 (y-y*k*k/8192)))
          clear q1 q2 yb xr zr ck fk
          go_region
          clear hw1 hw2 hw3 c3 f3
          go_wp2
          go_roundw
          case rel=>exact⟨k+1,by omega,by go_num,hid (Blk.drew I5.out),hid (Blk.drew R5.out),hid B5.out.drew⟩
          case measure=>simp[intOf]<;>omega
         ·obtain rfl:k=9:=by omega
          have LF:=hid (corF_len l (fun x=>x/2^n) 9)
          have RE:=hid (IB.setRow HI.out (corF l (fun x=>x/2^n) 9))
          have BE:=hid (below_setRow HB.out (Nat.le_refl _) (agi (corF l (fun x=>x/2^n) 9)))
          have EZ:=hid (show z=corZ l by have:=HZ.out;have:=HZS.out;omega)
          go_wp2_with (first
           |(refine wpList_loadI rfl 69 (.tmp 5) rfl _ 69 (corF l (fun x=>x/2^n) 9) 9 _ rfl HF.out Tryd.underlying69 rfl size9c LF.out ?_)
           |(refine wpList_storeI rfl 69 (.tmp 2) (.tmp 119) rfl _ 69 Z9 (corF l (fun x=>x/2^n) 9) 9 rfl rfl HI.out size9c rfl LF.out ?_))
          refine bodyPost_ret (v:=_) (hR _ _ _ 69 (corF l (fun x=>x/2^n) 9) _ 9 rfl RE.out Tryd.underlying69 rfl size9c LF.out) rfl ?_
          exact⟨fun x=>x/2^n,n,rfl,BE.out,.inl ⟨n,rfl,by omega,rfl,by rw[<-EZ.out];exact HLE.out,by rw[<-EZ.out];exact HM2.out⟩⟩
def CorBad (w:World) (er:Int) (e:Ending) (w':World):Prop:=e= .returned (.tuple #[.agg (agi Z9),.int .i64 0,.int .i64 er])/\Below w.heap.size w w'
theorem correlate_len (A:Option Addr) (c n:Nat) (w:World) (hn:n≠120):Calls Tryd.prog 25 #[.slice A n c] w (CorBad w 1):=by
 have hR:=results_row3 (fn:=Tryd.f25) (p:=2) (q:=3) (r:=4) (ty:=69) rfl
 have B0:=((Below.refl w.heap.size w).alloc (Nat.le_refl _) (.cells (agi Z9) 69)).alloc (by simp) (.cells (agi Z9) 69)
 have I0:=Blk.alloc (IB.new w 69 Z9) (.cells (agi Z9) 69)
 have R0:=IB.new (w.alloc (.cells (agi Z9) 69)) 69 Z9
 simp only[World.size_alloc] at R0
 have RE:=hid (IB.setRow I0 Z9)
 have BE:=hid (below_setRow B0 (Nat.le_refl _) (agi Z9))
 have I0:=hid (show IB ((w.alloc (.cells (agi Z9) 69)).alloc (.cells (agi Z9) 69)) w.heap.size 69 Z9 from I0)
 have R0:=hid R0
 have d0:((n:Int) !=120)=true:=by simp;omega
 have d1: ¬(n:Int)=120:=by omega
 clear hn
 go_enter Tryd.func25,Tryd.ntmps25
 go_wp2_with (first
  |(refine wpList_loadI rfl 69 (.tmp 5) rfl _ 69 Z9 9 _ rfl R0.out Tryd.underlying69 rfl size9c rfl ?_)
  |(refine wpList_storeI rfl 69 (.tmp 2) (.tmp 16) rfl _ 69 Z9 Z9 9 rfl rfl I0.out size9c rfl rfl ?_))
 refine bodyPost_ret (v:=_) (hR _ _ _ 69 Z9 _ 9 rfl RE.out Tryd.underlying69 rfl size9c rfl) rfl ?_
 exact⟨rfl,BE.out⟩
theorem correlate_not (A:Option Addr) (c:Nat) (l:List Int) (w:World) (hr:Rs w w.heap.size A l) (hn:l.length=120) (g:all16 l=false):Calls Tryd.prog 25 #[.slice A 120 c] w (CorBad w 2):=by
 have KR:=hid (fun(W:World) (h:Rs W W.heap.size A l)=>frontright_any A c 120 W.heap.size l W h hn (by omega))
 rw[g] at KR
 have HR:=hid hr
 have hR:=results_row3 (fn:=Tryd.f25) (p:=2) (q:=3) (r:=4) (ty:=69) rfl
 have B0:=((Below.refl w.heap.size w).alloc (Nat.le_refl _) (.cells (agi Z9) 69)).alloc (by simp) (.cells (agi Z9) 69)
 have I0:=Blk.alloc (IB.new w 69 Z9) (.cells (agi Z9) 69)
 have R0:=IB.new (w.alloc (.cells (agi Z9) 69)) 69 Z9
 simp only[World.size_alloc] at R0
 have RE:=hid (IB.setRow I0 Z9)
 have BE:=hid (below_setRow B0 (Nat.le_refl _) (agi Z9))
 have I0:=hid (show IB ((w.alloc (.cells (agi Z9) 69)).alloc (.cells (agi Z9) 69)) w.heap.size 69 Z9 from I0)
 have R0:=hid R0
 clear hr hn g
 go_enter Tryd.func25,Tryd.ntmps25
 go_wp2_with fail
 refine(KR.out _ ((HR.out.below B0).more B0.size)).mono ?_
 rintro e w1 ⟨rfl,rfl⟩
 clear B0
 go_wp2_with (first
  |(refine wpList_loadI rfl 69 (.tmp 5) rfl _ 69 Z9 9 _ rfl R0.out Tryd.underlying69 rfl size9c rfl ?_)
  |(refine wpList_storeI rfl 69 (.tmp 2) (.tmp 20) rfl _ 69 Z9 Z9 9 rfl rfl I0.out size9c rfl rfl ?_))
 refine bodyPost_ret (v:=_) (hR _ _ _ 69 Z9 _ 9 rfl RE.out Tryd.underlying69 rfl size9c rfl) rfl ?_
 exact⟨rfl,BE.out⟩
end Go.Proofs.YthoiikkjjaldnaaDoor
