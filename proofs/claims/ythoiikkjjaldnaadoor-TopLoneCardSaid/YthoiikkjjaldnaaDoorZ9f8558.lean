/- Texts that the law rests on, laid together: CorB, LevP, EnM, EnS, Held, CorC. -/
import Derived.Test.YthoiikkjjaldnaaDoorZcd3929
import Derived.Test.YthoiikkjjaldnaaDoorZ4b8d9d
import Derived.Test.YthoiikkjjaldnaaDoorZe4c9da
import Derived.Test.YthoiikkjjaldnaaDoorZ5a4ff4
import Derived.Test.YthoiikkjjaldnaaDoorZ306d7b
import Derived.Test.YthoiikkjjaldnaaDoorZ6782c5
import Derived.Test.YthoiikkjjaldnaaDoorZ6c66eb
import Derived.Test.YthoiikkjjaldnaaDoorZ718584
import Derived.Deep.RegionHeld3
import Derived.Deep.MidRow
import Derived.Test.YthoiikkjjaldnaaDoorZcd86f7
import Derived.Test.YthoiikkjjaldnaaDoorZbe9dc0
import Derived.Test.YthoiikkjjaldnaaDoorZd03041
namespace Go.Proofs.YthoiikkjjaldnaaDoor
set_option linter.unusedVariables false
set_option linter.unusedSimpArgs false
set_option maxRecDepth 100000
open Go.RowKit
theorem bits_right {Z n:Nat} (hn:0<n) (h1:Z/2^n<=2147483647) (h2:2147483647<Z/2^(n-1)):bitlen Z=n+31:=by
 obtain⟨m,rfl⟩: ∃m,n=m+1:=⟨n-1,by omega⟩
 rw[Nat.add_sub_cancel] at h2
 have a1:=Nat.div_mul_le_self Z (2^m)
 have a2:=Nat.mul_le_mul_right (2^m) (show 2147483648<=Z/2^m by omega)
 have b1:=(Nat.div_lt_iff_lt_mul (Nat.two_pow_pos (m+1))).1 (show Z/2^(m+1)<2147483648 by omega)
 have e1:2^(31+m)=2147483648*2^m:=by rw[Nat.pow_add]
 have e2:2^(31+m+1)=2147483648*2^(m+1):=by rw[show 31+m+1=31+(m+1) by omega,Nat.pow_add]
 rw[bitlen_unique (k:=31+m) (by rw[e1];omega) (by rw[e2];exact b1)]
 omega
theorem bits_left {Z m:Nat} (h0:0<Z) (h1:Z<=2147483647) (h2:1073741824<=Z*2^m) (h3: ∀j,j<m->Z*2^j<1073741824):bitlen Z+m=31:=by
 by_cases hm:m=0
 ·subst hm
  rw[bitlen_unique (k:=30) (by omega) (by omega)]
 obtain⟨j,rfl⟩: ∃j,m=j+1:=⟨m-1,by omega⟩
 have h4:=h3 j (by omega)
 have hj:2^j<2^30:=by
  have:=Nat.mul_le_mul_right (2^j) h0
  omega
 have hj2:j<30:=(Nat.pow_lt_pow_iff_right (by omega)).1 hj
 obtain⟨k,hk⟩: ∃k,k+(j+1)=30:=⟨29-j,by omega⟩
 have e1:2^k*2^(j+1)=1073741824:=by rw[<-Nat.pow_add,hk]
 have e2:2^(k+1)*2^j=1073741824:=by rw[<-Nat.pow_add,show k+1+j=k+(j+1) by omega,hk]
 have l1:2^k<=Z:=by
  rw[<-e1] at h2
  exact Nat.le_of_mul_le_mul_right h2 (Nat.two_pow_pos _)
 have l2:Z<2^(k+1):=by
  rw[<-e2] at h4
  exact Nat.lt_of_mul_lt_mul_right h4
 rw[bitlen_unique l1 l2]
 omega
def corK (l:List Int):Int:=(bitlen (corZ l).natAbs:Nat)-31
def corG (l:List Int):Int->Int:=fun x=>if 0<corK l then x/2^(corK l).toNat else x*2^(-corK l).toNat
theorem cast_le_div {Z n c:Nat} (h:((Z:Int)/2^n)<=(c:Nat)):Z/2^n<=c:=by
 have e:((Z:Int)/2^n)=((Z/2^n:Nat):Int):=by simp
 rw[e] at h
 exact Int.ofNat_le.1 h
theorem cast_lt_div {Z n c:Nat} (h:((c:Nat):Int)<((Z:Int)/2^n)):c<Z/2^n:=by
 have e:((Z:Int)/2^n)=((Z/2^n:Nat):Int):=by simp
 rw[e] at h
 exact Int.ofNat_lt.1 h
theorem cast_le_mul {Z n c:Nat} (h:((c:Nat):Int)<=((Z:Int)*2^n)):c<=Z*2^n:=by
 have e:((Z:Int)*2^n)=((Z*2^n:Nat):Int):=by simp
 rw[e] at h
 exact Int.ofNat_le.1 h
theorem cast_lt_mul {Z n c:Nat} (h:((Z:Int)*2^n)<((c:Nat):Int)):Z*2^n<c:=by
 have e:((Z:Int)*2^n)=((Z*2^n:Nat):Int):=by simp
 rw[e] at h
 exact Int.ofNat_lt.1 h
def CorFin (l:List Int) (w:World) (e:Ending) (w':World):Prop:=e= .returned (.tuple #[.agg (agi (corF l (corG l) 9)),.int .i64 (corK l),.int .i64 0])/\Below w.heap.size w w'
theorem cor_fin {l:List Int} {w w':World} {e:Ending} (hl:In16 l) (h:CorAns l w e w'):CorFin l w e w':=by
 obtain⟨f,N,rfl,hB,h⟩:=h
 have hz:=corZ_range hl
 obtain⟨Z,hZ⟩: ∃Z:Nat,corZ l=(Z:Int):=⟨(corZ l).toNat,by omega⟩
 have hK:corK l=(bitlen Z:Nat)-31:=by unfold corK;rw[hZ];rfl
 rw[hZ] at h hz
 rcases h with⟨n,rfl,hn,rfl,h1,h2⟩|⟨m,rfl,rfl,h1,h2,h3⟩
 ·have h1':Z/2^n<=2147483647:=cast_le_div h1
  have h2':2147483647<Z/2^(n-1):=cast_lt_div h2
  have hb:=bits_right hn h1' h2'
  have hk:corK l=(n:Int):=by omega
  have hg:corG l=fun x=>x/2^n:=by
   funext x
   unfold corG
   rw[hk,if_pos (by omega),Int.toNat_natCast]
  exact⟨by rw[hg,hk],hB⟩
 ·have h2':1073741824<=Z*2^m:=cast_le_mul h2
  have hb:=bits_left (Z:=Z) (m:=m) (by omega) (by omega) h2' (fun j hj=>cast_lt_mul (h3 j hj))
  have hk:corK l= -(m:Int):=by omega
  have hg:corG l=fun x=>x*2^m:=by
   funext x
   unfold corG
   rw[hk,if_neg (by omega),Int.neg_neg,Int.toNat_natCast]
  exact⟨by rw[hg,hk],hB⟩
end Go.Proofs.YthoiikkjjaldnaaDoor
namespace Go.Proofs.YthoiikkjjaldnaaDoor
set_option linter.unusedVariables false
set_option linter.unusedSimpArgs false
set_option maxRecDepth 100000
def okS (x:Int):Bool:=decide (-2147483647<=x/\x<=2147483647)
theorem okS_yes {x:Int} (h1: -2147483647<=x) (h2:x<=2147483647):okS x=true:=by unfold okS;simp;omega
theorem okS_no {x:Int} (h:x< -2147483647\/2147483647<x):okS x=false:=by unfold okS;simp;omega
def levR (r:List Int):List Int×Int×Bool:=if r.all okS=false\/r.getD 0 0<=0 then([],0,false) else lev r 8 1 [16777216] (r.getD 0 0) []
theorem levR_bad {r:List Int} (h:r.all okS=false):levR r=([],0,false):=by unfold levR;rw[if_pos (.inl h)]
theorem levR_low {r:List Int} (h:r.getD 0 0<=0):levR r=([],0,false):=by unfold levR;rw[if_pos (.inr h)]
theorem levR_go {r:List Int} (h:r.all okS=true) (h2:0<r.getD 0 0):levR r=lev r 8 1 [16777216] (r.getD 0 0) []:=by unfold levR;rw[if_neg (by rintro(h3|h3);(rw[h] at h3;cases h3);omega)]
theorem okS_within {r:List Int} (h:r.all okS=true):Within 2147483647 r:=by
 intro i
 by_cases hi:i<r.length
 ·have:=all_at h i hi
  unfold okS at this
  simpa using this
 ·rw[List.getD_eq_getElem?_getD,List.getElem?_eq_none (by omega)];simp
structure LevSt (r:List Int) (m:Nat) (al:List Int) (e:Int) (k:List Int):Prop where
 run:levR r=lev r (9-m) m al e k
 la:al.length=m
 lk:k.length+1=m
 bd:Within (16777216*2^(m-1)) al
 e0:0<e
 e1:e<=2147483647
theorem LevSt.start {r:List Int} (h:r.all okS=true) (h2:0<r.getD 0 0):LevSt r 1 [16777216] (r.getD 0 0) []:=
 ⟨levR_go h h2,rfl,rfl,by
   intro i
   match i with
   |0=>simp
   |i+1=>simp,h2,(okS_within h 0).2⟩
theorem LevSt.bnd {r:List Int} {m:Nat} {al k:List Int} {e:Int} (h:LevSt r m al e k) (hm:m<=9):Within 4294967296 al:=by
 intro i
 have h1:=h.bd i
 have h2:(2:Nat)^(m-1)<=2^8:=Nat.pow_le_pow_right (by decide) (by omega)
 have h3:((2^(m-1):Nat):Int)=2^(m-1):=by simp
 omega
theorem LevSt.fin {r al k:List Int} {e:Int} (h:LevSt r 9 al e k):levR r=(k,e,true):=h.run
section
variable {r al k:List Int} {m:Nat} {e q:Int}
theorem LevSt.stop (h:LevSt r m al e k) (h1:1<=m) (hm:m<=8) (hq:q=(-lacc al r m*32768).tdiv e) (hb:q<= -32000\/32000<=q):levR r=(k,e,false):=by
 rw[h.run,show 9-m=(8-m)+1 from by omega,lev_step r (8-m) m al e k q _ hq rfl,if_pos hb]
theorem LevSt.none_ (h:LevSt r m al e k) (h1:1<=m) (hm:m<=8) (hq:q=(-lacc al r m*32768).tdiv e) (hb: -32000<q) (hb2:q<32000) (he:e-e*q/32768*q/32768<=0):levR r=(k++[q],0,false):=by
 rw[h.run,show 9-m=(8-m)+1 from by omega,lev_step r (8-m) m al e k q _ hq rfl,if_neg (by omega),if_pos he]
theorem LevSt.next (h:LevSt r m al e k) (h1:1<=m) (hm:m<=8) (hq:q=(-lacc al r m*32768).tdiv e) (hb: -32000<q) (hb2:q<32000) (he:0<e-e*q/32768*q/32768):
 LevSt r (m+1) (growL al q m) (e-e*q/32768*q/32768) (k++[q]):=by
 have hE:=e_bound h.e0 h.e1 hb hb2
 refine⟨?_,growL_len _ _ _,by have:=h.lk;simp;omega,?_,he,by have:=h.e1;omega⟩
 ·rw[h.run,show 9-m=(8-m)+1 from by omega,lev_step r (8-m) m al e k q _ hq rfl,if_neg (by omega),if_neg (by omega),show 9-(m+1)=8-m from by omega]
 ·have h2:=Within.grow (m:=m) (by have:(0:Int)<2^(m-1):=Int.pow_pos (by decide);omega) h.bd ⟨by omega,by omega⟩ (q:=q)
  have e2:(16777216:Int)*2^(m+1-1)=2*(16777216*2^(m-1)):=by
   rw[show m+1-1=(m-1)+1 from by omega,Int.pow_succ];omega
  rw[e2]
  exact h2
end
def Arr9 (arr al:List Int):Prop:=arr.length=9/\∀j,arr.getD j 0=al.getD j 0
def LevMid (al zs:List Int) (q:Int) (m i:Nat):Prop:=zs.length=9/\∀j,zs.getD j 0=if j<i then(growL al q m).getD j 0 else al.getD j 0
theorem LevMid.start {arr al:List Int} {q:Int} {m:Nat} (h:Arr9 arr al):LevMid al arr q m 1:=⟨h.1,fun j=>by
 rw[h.2 j]
 split
 ·obtain rfl:j=0:=by omega
  rw[growL_get _ _ _ _ (by omega),if_pos rfl]
 ·rfl⟩
theorem LevMid.step {al zs:List Int} {q:Int} {m i:Nat} (h:LevMid al zs q m i) (h0:1<=i) (hi:i<=m) (h9:i<9):
 LevMid al (zs.set i (al.getD i 0+q*al.getD (m-i) 0/32768)) q m (i+1):=by
 refine⟨by simpa using h.1,fun j=>?_⟩
 by_cases he:i=j
 ·subst he
  rw[List.getD_eq_getElem?_getD,List.getElem?_set_self (by rw[h.1];exact h9),if_pos (by omega),growL_get _ _ _ _ hi,if_neg (by omega)]
  rfl
 ·have e:(zs.set i (al.getD i 0+q*al.getD (m-i) 0/32768)).getD j 0=zs.getD j 0:=by
   simp[he]
  rw[e,h.2 j]
  by_cases hj:j<i
  ·rw[if_pos hj,if_pos (by omega)]
  ·rw[if_neg hj,if_neg (by omega)]
theorem LevMid.fin {al zs:List Int} {q:Int} {m:Nat} (h:LevMid al zs q m (m+1)) (hl:al.length=m):Arr9 zs (growL al q m):=⟨h.1,fun j=>by
 rw[h.2 j]
 split
 ·rfl
 ·rw[List.getD_eq_getElem?_getD,List.getElem?_eq_none (by omega),List.getD_eq_getElem?_getD,List.getElem?_eq_none (by rw[growL_len];omega)]⟩
def lterm (al r:List Int) (m i:Nat):Int:=al.getD i 0/512*r.getD (m-i) 0/32768
theorem lacc_eq (al r:List Int) (m:Nat):lacc al r m=sumN (lterm al r m) m:=rfl
theorem lterm_bound {al r:List Int} {m:Nat} (ha:Within 4294967296 al) (hr:Within 2147483647 r) (i:Nat):
 (-8388608<=al.getD i 0/512/\al.getD i 0/512<=8388608)/\(-18014398509481984<=al.getD i 0/512*r.getD (m-i) 0/\al.getD i 0/512*r.getD (m-i) 0<=18014398509481984)/\(-549755813888<=lterm al r m i/\lterm al r m i<=549755813888):=by
 have h1:=ha i
 have h2:=hr (m-i)
 have h3:=mul_bound (x:=al.getD i 0/512) (X:=8388608) (y:=r.getD (m-i) 0) (Y:=2147483647) (by omega) (by omega) (by omega) h2
 unfold lterm
 omega
theorem lsum_bound {al r:List Int} {m:Nat} (ha:Within 4294967296 al) (hr:Within 2147483647 r) (i:Nat) (hi:i<=8): -4398046511104<=sumN (lterm al r m) i/\sumN (lterm al r m) i<=4398046511104:=by
 have h:=sumN_bound (f:=lterm al r m) (B:=549755813888) i (fun j _=>(lterm_bound ha hr j).2.2)
 have:(549755813888:Int)*i<=549755813888*8:=by omega
 omega
end Go.Proofs.YthoiikkjjaldnaaDoor
namespace Go.Proofs.YthoiikkjjaldnaaDoor
set_option linter.unusedVariables false
set_option linter.unusedSimpArgs false
set_option maxRecDepth 100000
open Go.RowKit
def halfL (o:List Int) (s:Nat):List Int:=(o.drop (s*40)).take 40
def quietV (o:List Int):Bool:=decide (dotL o o 80<16*80)
def enKd (reset:Bool) (o:List Int):Int:=if reset then 1 else if quietV o then 2 else 0
def enM0 (reset:Bool) (m:Mm):Mm:=if reset then freshM else m
def enRf (x:List Int):List Int:=padTo 8 (levR (corF x (corG x) 9)).1
def enQ (x:List Int):List Int:=aL qV qErr (enRf x)
def enNow (x:List Int):List Int:=(List.range 8).map (aF lvV (enQ x))
def enK (was now o:List Int) (m:Mm):Nat->Mm
 |0=>m
 |s+1=>frP false (frA was now s) (enK was now o m s) (chU (enK was now o m s) (frA was now s) (halfL o s))
def enU (was now o:List Int) (m:Mm) (s:Nat):List Int:=chU (enK was now o m s) (frA was now s) (halfL o s)
def enP (kd:Int) (q was now o:List Int) (m:Mm):List Int:=kd::(q++if kd=2 then List.replicate 16 0 else enU was now o m 0++enU was now o m 1)
section
variable {was now o:List Int} {m:Mm}
theorem enU_ok (s:Nat):UOk (enU was now o m s):=chU_ok
theorem enK_r (s:Nat):(enK was now o m s).r=m.r:=by
 induction s with
 |zero=>rfl
 |succ s ih=>rw[enK,frP_r,ih]
theorem enK_good (g:goodM m=true) (s:Nat):goodM (enK was now o m s)=true:=by
 induction s with
 |zero=>exact g
 |succ s ih=>exact frP_good false _ ih chU_ok
theorem enK_ok (k:m.ok) (s:Nat):(enK was now o m s).ok:=by
 induction s with
 |zero=>exact k
 |succ s ih=>exact frP_ok false _ ih chU_ok
theorem enP_len {kd:Int} {q:List Int} (h:q.length=8):(enP kd q was now o m).length=25:=by
 unfold enP
 split
 ·simp[h]
 ·have h1:=(enU_ok (was:=was) (now:=now) (o:=o) (m:=m) 0).l
  have h2:=(enU_ok (was:=was) (now:=now) (o:=o) (m:=m) 1).l
  simp[h,h1,h2]
theorem getD_cons_ (x:Int) (l:List Int) (i:Nat):(x::l).getD (i+1) 0=l.getD i 0:=by simp[List.getD_cons_succ]
theorem getD_app1 {l r:List Int} {i:Nat} (h:i<l.length):(l++r).getD i 0=l.getD i 0:=by
 simp only[List.getD_eq_getElem?_getD];rw[List.getElem?_append_left h]
theorem getD_app2 {l r:List Int} {i:Nat} (h:l.length<=i):(l++r).getD i 0=r.getD (i-l.length) 0:=by
 simp only[List.getD_eq_getElem?_getD];rw[List.getElem?_append_right h]
theorem sub_to {u:List Int} (h:UOk u) {j:Nat} (hj:j<8):0<=u.getD j 0/\u.getD j 0<=[59,7,9,9,9,9,15,31].getD j 0:=by
 have e:j=0\/j=1\/(2<=j/\j<6)\/j=6\/j=7:=by omega
 rcases e with rfl|rfl|⟨h1,h2⟩|rfl|rfl
 ·exact h.a
 ·exact h.g
 ·have h3:=h.i j h1 h2
  have:j=2\/j=3\/j=4\/j=5:=by omega
  rcases this with rfl|rfl|rfl|rfl<;>exact h3
 ·exact h.s
 ·exact h.v
theorem rest_at {q u v:List Int} (hq:q.length=8) (hu:u.length=8) (i:Nat) (kd:Int):(kd::(q++(u++v))).getD i 0=if i=0 then kd else if i<9 then q.getD (i-1) 0 else if i<17 then u.getD (i-9) 0 else v.getD (i-17) 0:=by
 match i with
 |0=>rfl
 |i+1=>
  rw[getD_cons_,if_neg (by omega)]
  by_cases h1:i<8
  ·rw[if_pos (by omega),getD_app1 (by omega)];rfl
  ·rw[if_neg (by omega),getD_app2 (by omega),hq]
   by_cases h2:i-8<8
   ·rw[if_pos (by omega),getD_app1 (by omega)];congr 1
   ·rw[if_neg (by omega),getD_app2 (by omega),hu];congr 1
theorem pack_to {kd:Int} {q u v:List Int} (hq:q.length=8) (hu:u.length=8) (hk:0<=kd/\kd<=2) (qb: ∀j,j<8->0<=q.getD j 0/\q.getD j 0<=pkT.getD (j+1) 0)
 (ub: ∀j,j<8->0<=u.getD j 0/\u.getD j 0<=[59,7,9,9,9,9,15,31].getD j 0) (vb: ∀j,j<8->0<=v.getD j 0/\v.getD j 0<=[59,7,9,9,9,9,15,31].getD j 0):pkTo (kd::(q++(u++v))) 25=true:=by
 unfold pkTo
 rw[List.all_eq_true]
 intro i hi
 have hi:i<25:=List.mem_range.1 hi
 refine decide_eq_true ?_
 unfold pkOk
 rw[rest_at hq hu]
 by_cases h0:i=0
 ·subst h0;exact hk
 by_cases h1:i<9
 ·rw[if_neg h0,if_pos h1]
  have h:=qb (i-1) (by omega)
  rwa [show i-1+1=i by omega] at h
 have t1: ∀j,j<8->[59,7,9,9,9,9,15,31].getD j 0=pkT.getD (j+9) 0:=by decide
 have t2: ∀j,j<8->[59,7,9,9,9,9,15,31].getD j 0=pkT.getD (j+17) 0:=by decide
 by_cases h2:i<17
 ·rw[if_neg h0,if_neg h1,if_pos h2]
  have h:=ub (i-9) (by omega)
  rwa [t1 _ (by omega),show i-9+9=i by omega] at h
 ·rw[if_neg h0,if_neg h1,if_neg h2]
  have h:=vb (i-17) (by omega)
  rwa [t2 _ (by omega),show i-17+17=i by omega] at h
theorem qB_rng (i k:Int) (n:Nat):0<=(qB i k n).1/\(qB i k n).1<=((n-1:Nat):Int):=by
 induction n with
 |zero=>simp[qB]
 |succ n ih=>
  unfold qB
  split
  ·simp
  ·omega
theorem qV_to {j:Nat} (hj:j<8) (k:Int):0<=qV (j:Nat) k/\qV (j:Nat) k<=pkT.getD (j+1) 0:=by
 have h1: ∀j,j<8->(((lvM (j:Nat)).toNat-1:Nat):Int)<=pkT.getD (j+1) 0/\0<=pkT.getD (j+1) 0:=by decide+kernel
 have h2:=h1 j hj
 unfold qV
 split
 ·have h3:=qB_rng (j:Nat) k (lvM (j:Nat)).toNat
  omega
 ·omega
theorem enQ_to (x:List Int) {j:Nat} (hj:j<8):0<=(enQ x).getD j 0/\(enQ x).getD j 0<=pkT.getD (j+1) 0:=by
 unfold enQ aL
 split
 ·rw[range_get _ hj]
  unfold aF
  exact qV_to hj _
 ·have h1: ∀j,j<8->0<=Z8.getD j 0/\Z8.getD j 0<=pkT.getD (j+1) 0:=by decide+kernel
  exact h1 j hj
theorem enQ_len (x:List Int):(enQ x).length=8:=by
 unfold enQ aL
 split
 ·simp
 ·rfl
theorem enP_to {kd:Int} (hk:0<=kd/\kd<=2) (x:List Int):pkTo (enP kd (enQ x) was now o m) 25=true:=by
 have hz: ∀j,j<8->0<=(List.replicate 8 (0:Int)).getD j 0/\(List.replicate 8 (0:Int)).getD j 0<=[59,7,9,9,9,9,15,31].getD j 0:=by decide+kernel
 unfold enP
 split
 ·rw[show List.replicate 16 (0:Int)=List.replicate 8 0++List.replicate 8 0 from rfl]
  exact pack_to (enQ_len x) (by simp) hk (fun j hj=>enQ_to x hj) hz hz
 ·exact pack_to (enQ_len x) (enU_ok 0).l hk (fun j hj=>enQ_to x hj) (fun j hj=>sub_to (enU_ok 0) hj) (fun j hj=>sub_to (enU_ok 1) hj)
end
end Go.Proofs.YthoiikkjjaldnaaDoor
namespace Go.Proofs.YthoiikkjjaldnaaDoor
set_option linter.unusedVariables false
set_option linter.unusedSimpArgs false
set_option maxRecDepth 100000
open Go.RowKit
structure En where
 h:List Int
 x:List Int
 m:Mm
structure En.ok (e:En):Prop where
 h:e.h.length=4
 x:e.x.length=120
 m:e.m.ok
def enHi (e:En) (s:List Int):List Int×List Int×Bool:=hiA s (e.h.getD 0 0) (e.h.getD 1 0) (e.h.getD 2 0) (e.h.getD 3 0) 80
def enX (e:En) (s:List Int):List Int:=e.x.drop 80++(enHi e s).2.1
def encErr (e:En) (s:List Int):Int:=
 if s.length=80 then(if goodM e.m=true then(if(enHi e s).2.2=true then errOf (all16 (enX e s)) else 2) else 2) else 1
def enPk (e:En) (s:List Int) (reset:Bool):List Int:=
 enP (enKd reset (enHi e s).2.1) (enQ (enX e s)) (enM0 reset e.m).r (enNow (enX e s)) (enHi e s).2.1 (enM0 reset e.m)
def enBs (e:En) (s:List Int) (reset:Bool):List Int:=if encErr e s=0 then pkBytes (enPk e s reset) else[]
def enY (e:En) (s:List Int) (reset:Bool):List Int:=if encErr e s=0 then frO e.m (enPk e s reset) else[]
def enE (e:En) (s:List Int) (reset:Bool):En:=
 if encErr e s=0 then⟨(enHi e s).1,enX e s,frM e.m (enPk e s reset)⟩ else⟨List.replicate 4 0,List.replicate 120 0,zeroM⟩
theorem enKd_rng (reset:Bool) (o:List Int):0<=enKd reset o/\enKd reset o<=2:=by
 unfold enKd
 split
 ·omega
 ·split<;>omega
theorem enPk_to (e:En) (s:List Int) (reset:Bool):pkTo (enPk e s reset) 25=true:=enP_to (enKd_rng _ _) _
theorem enPk_len (e:En) (s:List Int) (reset:Bool):(enPk e s reset).length=25:=enP_len (enQ_len _)
end Go.Proofs.YthoiikkjjaldnaaDoor
namespace Go.Proofs.YthoiikkjjaldnaaDoor
set_option linter.unusedVariables false
set_option linter.unusedSimpArgs false
set_option maxRecDepth 100000
open Go.RowKit
section
variable {w w':World} {g:Nat} {t:TypeId} {xs:List Int} {cs:Array Value}
theorem Blk.rangeAt (h:Blk w g t cs):w.rangeAt g 0 cs.toList:=fun j v hv=>by
 rw[Nat.zero_add,Blk.cell h j,<-hv]
 simp
theorem IB.rangeAt (h:IB w g t xs):w.rangeAt g 0 (ints xs):=by
 have:=Blk.rangeAt h
 simpa[agi] using this
theorem Blk.there (h:Blk w g t cs):w.there g 0 cs.size:=fun j hj=>by
 rw[Nat.zero_add]
 refine⟨?_,Blk.frozen h j⟩
 rw[Blk.cell h j]
 simp[hj]
end
end Go.Proofs.YthoiikkjjaldnaaDoor
namespace Go.Proofs.YthoiikkjjaldnaaDoor
set_option linter.unusedVariables false
set_option linter.unusedSimpArgs false
set_option maxRecDepth 100000
open Go.RowKit
section
variable {w wr w':World} {q ws:List Int} {gw gs k:Nat} {P:Nat->Nat} {X Y:Nat->Int}
end
end Go.Proofs.YthoiikkjjaldnaaDoor
