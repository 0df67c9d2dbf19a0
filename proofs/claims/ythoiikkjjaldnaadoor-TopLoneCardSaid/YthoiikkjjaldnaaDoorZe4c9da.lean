/- Texts that the law rests on, laid together: LevM, LpcM, Memo, MixW. -/
import Derived.WalkKit
import Derived.Test.YthoiikkjjaldnaaDoorZ7e0d48
import Derived.Deep.MidRow
import Derived.Test.YthoiikkjjaldnaaDoorZ4df1bd
import Derived.RegionTactic
set_option maxHeartbeats 4000000
namespace Go.Proofs.YthoiikkjjaldnaaDoor
set_option linter.unusedVariables false
set_option linter.unusedSimpArgs false
set_option maxRecDepth 100000
def sumN (f:Nat->Int):Nat->Int
 |0=>0
 |n+1=>sumN f n+f n
theorem sumN_congr {f g:Nat->Int} (n:Nat) (h: ∀i,i<n->f i=g i):sumN f n=sumN g n:=by
 induction n with
 |zero=>rfl
 |succ n ih=>simp only[sumN];rw[ih (fun i hi=>h i (by omega)),h n (by omega)]
theorem sumN_bound {f:Nat->Int} {B:Int} (n:Nat) (h: ∀i,i<n-> -B<=f i/\f i<=B): -(B*n)<=sumN f n/\sumN f n<=B*n:=by
 induction n with
 |zero=>simp[sumN]
 |succ n ih=>
  have h1:=ih (fun i hi=>h i (by omega))
  have h2:=h n (by omega)
  have e:B*((n+1:Nat):Int)=B*(n:Int)+B:=by rw[Int.natCast_succ,Int.mul_add,Int.mul_one]
  rw[e]
  simp only[sumN]
  omega
theorem mul_bound {x y X Y:Int} (hX:0<=X) (hY:0<=Y) (hx: -X<=x/\x<=X) (hy: -Y<=y/\y<=Y): -(X*Y)<=x*y/\x*y<=X*Y:=by
 have h:(x*y).natAbs<=X.natAbs*Y.natAbs:=by
  rw[Int.natAbs_mul]
  exact Nat.mul_le_mul (by omega) (by omega)
 have e:((X.natAbs*Y.natAbs:Nat):Int)=X*Y:=by
  rw[Int.natCast_mul,Int.natAbs_of_nonneg hX,Int.natAbs_of_nonneg hY]
 omega
def growL (a:List Int) (q:Int) (m:Nat):List Int:=(List.range (m+1)).map fun i=>if i=0 then a.getD 0 0 else a.getD i 0+q*a.getD (m-i) 0/32768
theorem growL_len (a:List Int) (q:Int) (m:Nat):(growL a q m).length=m+1:=by simp[growL]
theorem growL_get (a:List Int) (q:Int) (m i:Nat) (h:i<=m):(growL a q m).getD i 0=if i=0 then a.getD 0 0 else a.getD i 0+q*a.getD (m-i) 0/32768:=by
 unfold growL
 rw[List.getD_eq_getElem?_getD,List.getElem?_map,List.getElem?_range (by omega)]
 rfl
def Within (B:Int) (a:List Int):Prop:= ∀i,-B<=a.getD i 0/\a.getD i 0<=B
theorem Within.grow {B:Int} {a:List Int} {q:Int} {m:Nat} (hB:0<=B) (h:Within B a) (hq: -32768<=q/\q<=32768):Within (2*B) (growL a q m):=by
 intro i
 by_cases hi:i<=m
 ·rw[growL_get a q m i hi]
  have h0:=h 0
  have h1:=h i
  have h2:=h (m-i)
  split
  ·omega
  ·have h3:=mul_bound (X:=32768) (by omega) hB hq h2
   omega
 ·rw[List.getD_eq_getElem?_getD,List.getElem?_eq_none (by rw[growL_len];omega)]
  simp
  omega
def lacc (a r:List Int) (m:Nat):Int:=sumN (fun i=>a.getD i 0/512*r.getD (m-i) 0/32768) m
def lev (r:List Int):Nat->Nat->List Int->Int->List Int->List Int×Int×Bool
 |0,_,_,e,k=>(k,e,true)
 |f+1,m,a,e,k=>
  if(-lacc a r m*32768).tdiv e<= -32000\/32000<=(-lacc a r m*32768).tdiv e then(k,e,false)
  else if e-e*(-lacc a r m*32768).tdiv e/32768*(-lacc a r m*32768).tdiv e/32768<=0 then(k++[(-lacc a r m*32768).tdiv e],0,false)
  else lev r f (m+1) (growL a ((-lacc a r m*32768).tdiv e) m) (e-e*(-lacc a r m*32768).tdiv e/32768*(-lacc a r m*32768).tdiv e/32768) (k++[(-lacc a r m*32768).tdiv e])
theorem lev_zero (r:List Int) (m:Nat) (a:List Int) (e:Int) (k:List Int):lev r 0 m a e k=(k,e,true):=rfl
theorem lev_step (r:List Int) (f m:Nat) (a:List Int) (e:Int) (k:List Int) (q e':Int) (hq:q=(-lacc a r m*32768).tdiv e) (he:e'=e-e*q/32768*q/32768):
 lev r (f+1) m a e k=if q<= -32000\/32000<=q then(k,e,false) else if e'<=0 then(k++[q],0,false) else lev r f (m+1) (growL a q m) e' (k++[q]):=by
 subst he hq
 rfl
theorem tdiv_bound {x e:Int} (he:0<e): -(x.natAbs:Int)<=x.tdiv e/\x.tdiv e<=x.natAbs:=by
 have h:(x.tdiv e).natAbs<=x.natAbs:=by rw[Int.natAbs_tdiv];exact Nat.div_le_self _ _
 omega
theorem less_left {e q:Int} (he:0<=e):0<=e*q/32768*q/32768:=by
 have h:0<=e*q/32768*q:=by
  rcases Int.le_total 0 q with hq|hq
  ·exact Int.mul_nonneg (by have:=Int.mul_nonneg he hq;omega) hq
  ·have h1:e*q<=0:=Int.mul_nonpos_of_nonneg_of_nonpos he hq
   have h2:e*q/32768<=0:=by omega
   have h3:e*q/32768*q=(-(e*q/32768))*(-q):=by rw[Int.neg_mul_neg]
   rw[h3]
   exact Int.mul_nonneg (by omega) (by omega)
 omega
theorem e_bound {e q:Int} (h0:0<e) (h1:e<=2147483647) (hq: -32000<q) (hq2:q<32000):
 (-70368744144896<=e*q/\e*q<=70368744144896)/\(-70368744144896<=e*q/32768*q/\e*q/32768*q<=70368744144896)/\e-e*q/32768*q/32768<=e/\ -2147483648<=e-e*q/32768*q/32768:=by
 have h2:=mul_bound (x:=e) (X:=2147483647) (y:=q) (Y:=32000) (by omega) (by omega) (by omega) (by omega)
 have h3:=mul_bound (x:=e*q/32768) (X:=2147483648) (y:=q) (Y:=32000) (by omega) (by omega) (by omega) (by omega)
 have h4:=less_left (e:=e) (q:=q) (by omega)
 omega
def padTo (n:Nat) (k:List Int):List Int:=k++List.replicate (n-k.length) 0
theorem padTo_len {n:Nat} {k:List Int} (h:k.length<=n):(padTo n k).length=n:=by simp[padTo];omega
theorem padTo_snoc {n:Nat} {k:List Int} (q:Int) (h:k.length<n):padTo n (k++[q])=(padTo n k).set k.length q:=by
 unfold padTo
 obtain⟨d,hd⟩: ∃d,n-k.length=d+1:=⟨n-k.length-1,by omega⟩
 rw[List.length_append,List.length_singleton,hd,show n-(k.length+1)=d from by omega,List.replicate_succ,List.set_append_right _ _ (Nat.le_refl _)]
 simp
end Go.Proofs.YthoiikkjjaldnaaDoor
namespace Go.Proofs.YthoiikkjjaldnaaDoor
set_option linter.unusedVariables false
set_option linter.unusedSimpArgs false
set_option maxRecDepth 100000
def okR (q:Int):Bool:=decide (-32768<q/\q<32768)
def steadyB (k:List Int):Bool:=k.all okR
theorem okR_yes {q:Int} (h1: -32768<q) (h2:q<32768):okR q=true:=by unfold okR;simp;omega
theorem okR_no {q:Int} (h:q<= -32768\/32768<=q):okR q=false:=by unfold okR;simp;omega
theorem steadyB_at {k:List Int} (h:steadyB k=true) (i:Nat): -32768<k.getD i 0/\k.getD i 0<32768:=by
 unfold steadyB at h
 rw[List.getD_eq_getElem?_getD]
 cases hi:k[i]? with
 |none=>simp
 |some x=>
  have:=List.all_eq_true.1 h x (List.mem_of_getElem? hi)
  unfold okR at this
  simpa using this
def allTo (p:Int->Bool) (l:List Int) (i:Nat):Prop:= ∀j,j<i->p (l.getD j 0)=true
theorem allTo.zero {p:Int->Bool} {l:List Int}:allTo p l 0:=fun j h=>by omega
theorem allTo.succ {p:Int->Bool} {l:List Int} {i:Nat} (h:allTo p l i) (h2:p (l.getD i 0)=true):allTo p l (i+1):=fun j hj=>by
 by_cases he:j=i
 ·subst he;exact h2
 ·exact h j (by omega)
theorem allTo.all {p:Int->Bool} {l:List Int} {i:Nat} (h:allTo p l i) (hl:l.length<=i):l.all p=true:=by
 rw[List.all_eq_true]
 intro x hx
 obtain⟨j,hj⟩:=List.getElem?_of_mem hx
 have hlt:=(List.getElem?_eq_some_iff.1 hj).1
 have:=h j (by omega)
 rw[List.getD_eq_getElem?_getD,hj] at this
 exact this
theorem all_no {p:Int->Bool} {l:List Int} {i:Nat} (hi:i<l.length) (h:p (l.getD i 0)=false):l.all p=false:=by
 rw[Bool.eq_false_iff]
 intro hc
 have:=List.all_eq_true.1 hc (l.getD i 0) (by rw[List.getD_eq_getElem?_getD,List.getElem?_eq_getElem hi];exact List.getElem_mem hi)
 rw[h] at this
 cases this
theorem all_at {p:Int->Bool} {l:List Int} (h:l.all p=true) (i:Nat) (hi:i<l.length):p (l.getD i 0)=true:=
 List.all_eq_true.1 h _ (by rw[List.getD_eq_getElem?_getD,List.getElem?_eq_getElem hi];exact List.getElem_mem hi)
def mixE (a b:List Int) (num:Int) (i:Nat):Int:=(a.getD i 0*(4-num)+b.getD i 0*num).tdiv 4
def mixB (a b:List Int) (num:Int):Bool:=decide (0<=num/\num<=4)&&(steadyB a&&steadyB b)
def mixL (a b:List Int) (num:Int):List Int:=if mixB a b num then(List.range 8).map (mixE a b num) else List.replicate 8 0
def errOf (b:Bool):Int:=if b then 0 else 2
theorem mixL_len (a b:List Int) (num:Int):(mixL a b num).length=8:=by unfold mixL;split<;>simp
theorem mix_sum {x y n:Int} (hx: -32768<x/\x<32768) (hy: -32768<y/\y<32768) (hn:0<=n/\n<=4): -262144<=x*(4-n)/\x*(4-n)<=262144/\ -262144<=y*n/\y*n<=262144:=by
 have h1:=mul_bound (x:=x) (X:=32768) (y:=4-n) (Y:=4) (by omega) (by omega) (by omega) (by omega)
 have h2:=mul_bound (x:=y) (X:=32768) (y:=n) (Y:=4) (by omega) (by omega) (by omega) (by omega)
 omega
def exF (g:Int):Nat->Int
 |0=>32768
 |i+1=>(exF g i*g+16384)/32768
theorem exF_range {g:Int} (h0:0<=g) (h1:g<=32768) (i:Nat):0<=exF g i/\exF g i<=32768:=by
 induction i with
 |zero=>exact⟨by simp[exF],by simp[exF]⟩
 |succ i ih=>
  have h2:=mul_bound (x:=exF g i) (X:=32768) (y:=g) (Y:=32768) (by omega) (by omega) (by omega) (by omega)
  have h3:=Int.mul_nonneg ih.1 h0
  simp only[exF]
  omega
def exE (a:List Int) (g:Int) (i:Nat):Int:=(a.getD i 0*exF g i+16384)/32768
def okA (x:Int):Bool:=decide (-1073741824<=x/\x<=1073741824)
def exB (a:List Int) (g:Int):Bool:=decide (0<=g/\g<=32768)&&a.all okA
def exL (a:List Int) (g:Int):List Int:=if exB a g then(List.range 9).map (exE a g) else List.replicate 9 0
theorem exL_len (a:List Int) (g:Int):(exL a g).length=9:=by unfold exL;split<;>simp
def dirN (k:List Int):Nat->List Int
 |0=>[16777216]
 |m+1=>growL (dirN k m) (k.getD m 0) (m+1)
theorem dirN_len (k:List Int) (m:Nat):(dirN k m).length=m+1:=by
 cases m with
 |zero=>rfl
 |succ m=>simp[dirN,growL_len]
theorem dirN_within {k:List Int} (h: ∀i,-32768<=k.getD i 0/\k.getD i 0<=32768) (m:Nat):Within (16777216*2^m) (dirN k m):=by
 induction m with
 |zero=>
  intro i
  simp only[dirN]
  match i with
  |0=>simp
  |i+1=>simp
 |succ m ih=>
  have h2:=Within.grow (m:=m+1) (by have:(0:Int)<2^m:=Int.pow_pos (by decide);omega) ih (h m)
  have e:(16777216:Int)*2^(m+1)=2*(16777216*2^m):=by rw[Int.pow_succ];omega
  rw[e]
  exact h2
def dirL (k:List Int):List Int:=if steadyB k then(List.range 9).map (fun i=>((dirN k 8).getD i 0+2048)/4096) else List.replicate 9 0
theorem dirL_len (k:List Int):(dirL k).length=9:=by unfold dirL;split<;>simp
end Go.Proofs.YthoiikkjjaldnaaDoor
namespace Go.Proofs.YthoiikkjjaldnaaDoor
set_option linter.unusedVariables false
set_option linter.unusedSimpArgs false
set_option maxRecDepth 100000
open Go.RowKit
structure Mm where
 r:List Int
 p:List Int
 e:List Int
 ga:Int
 pi:Int
 la:Int
 er:Int
 se:Int
 si:Bool
structure Mm.ok (m:Mm):Prop where
 r:m.r.length=8
 p:m.p.length=8
 e:m.e.length=80
def Mm.cs (m:Mm):List Value:=ints m.r++(ints m.p++(ints m.e++[.int .i64 m.ga,.int .i64 m.pi,.int .i64 m.la,.int .i64 m.er,.int .i64 m.se,.bool m.si]))
def Mm.ag (m:Mm):Array Value:=m.cs.toArray
def MB (w:World) (g:Nat) (m:Mm):Prop:=Blk w g 30 m.ag
def Mm.tl (m:Mm):List Value:=[.int .i64 m.ga,.int .i64 m.pi,.int .i64 m.la,.int .i64 m.er,.int .i64 m.se,.bool m.si]
section
variable {w w':World} {g:Nat} {t:TypeId}
theorem range_of {cs:List Value} (h:Blk w g t cs.toArray) (A xs B:List Value) (he:cs=A++(xs++B)) {o:Nat} (ho:A.length=o):w.rangeAt g o xs:=fun j v hv=>by
 subst he;subst ho
 rw[Blk.cell h]
 have hj:=(List.getElem?_eq_some_iff.1 hv).1
 simp only[List.getElem?_toArray]
 rw[List.getElem?_append_right (by omega),Nat.add_sub_cancel_left,List.getElem?_append_left hj,hv]
theorem set_one {A B:List Value} {x y:Value} {o:Nat} (ho:A.length=o):(A++x::B).toArray.setIfInBounds o y=(A++y::B).toArray:=by
 subst ho
 simp
theorem blk_setCells: ∀(vs xs A B:List Value) (w:World),Blk w g t (A++(xs++B)).toArray->vs.length=xs.length->Blk (w.setCells g A.length vs) g t (A++(vs++B)).toArray
 |[],[],A,B,w,h,_=>by simpa[World.setCells] using h
 |v::vs,x::xs,A,B,w,h,hl=>by
  have h1:=Blk.set_ h A.length v
  rw[List.cons_append,set_one rfl] at h1
  have h2:=blk_setCells vs xs (A++[v]) B (w.setCell ⟨g,A.length,none⟩ v) (by simpa using h1) (by simpa using hl)
  simpa[World.setCells] using h2
theorem below_sc {B b:Nat} {a:World} (hb:B<=b): ∀(vs:List Value) (o:Nat) (w:World),Below B a w->Below B a (w.setCells b o vs)
 |[],_,_,h=>h
 |v::vs,o,w,h=>below_sc hb vs (o+1) _ (h.setCell hb v)
theorem blk_sc {k b:Nat} {tt:TypeId} {cs:Array Value} (hk:k≠b): ∀(vs:List Value) (o:Nat) (w:World),Blk w k tt cs->Blk (w.setCells b o vs) k tt cs
 |[],_,_,h=>h
 |v::vs,o,w,h=>blk_sc hk vs (o+1) _ (Blk.far h (p:=⟨b,o,none⟩) hk v)
end
section
variable {w w':World} {g:Nat} {m:Mm}
theorem MB.R (h:MB w g m) (_:m.ok):w.rangeAt g 0 (ints m.r):=range_of h [] (ints m.r) _ rfl rfl
theorem MB.P (h:MB w g m) (k:m.ok):w.rangeAt g 8 (ints m.p):=range_of h (ints m.r) (ints m.p) (ints m.e++m.tl) rfl (by rw[ints_len,k.r])
theorem MB.E (h:MB w g m) (k:m.ok):w.rangeAt g 16 (ints m.e):=range_of h (ints m.r++ints m.p) (ints m.e) m.tl (by unfold Mm.cs Mm.tl;simp only[List.append_assoc]) (by simp only[List.length_append,ints_len,k.r,k.p])
theorem MB.T (h:MB w g m) (k:m.ok):w.rangeAt g 96 m.tl:=range_of h (ints m.r++(ints m.p++ints m.e)) m.tl [] (by unfold Mm.cs Mm.tl;simp only[List.append_assoc,List.append_nil]) (by simp only[List.length_append,ints_len,k.r,k.p,k.e])
theorem MB.cga (h:MB w g m) (k:m.ok):w.cell? ⟨g,96,none⟩=some (.int .i64 m.ga):=h.T k 0 _ rfl
theorem MB.cpi (h:MB w g m) (k:m.ok):w.cell? ⟨g,97,none⟩=some (.int .i64 m.pi):=h.T k 1 _ rfl
theorem MB.cla (h:MB w g m) (k:m.ok):w.cell? ⟨g,98,none⟩=some (.int .i64 m.la):=h.T k 2 _ rfl
theorem MB.cer (h:MB w g m) (k:m.ok):w.cell? ⟨g,99,none⟩=some (.int .i64 m.er):=h.T k 3 _ rfl
theorem MB.cse (h:MB w g m) (k:m.ok):w.cell? ⟨g,100,none⟩=some (.int .i64 m.se):=h.T k 4 _ rfl
theorem MB.csi (h:MB w g m) (k:m.ok):w.cell? ⟨g,101,none⟩=some (.bool m.si):=h.T k 5 _ rfl
theorem MB.whole (h:MB w g m):w.rangeAt g 0 m.cs:=range_of h [] m.cs [] (by simp) rfl
theorem MB.frozen (h:MB w g m) (i:Nat):w.frozen? ⟨g,i,none⟩=false:=Blk.frozen h i
theorem MB.new (w:World) (m:Mm):MB (w.alloc (.cells m.ag 30)) w.heap.size m:=Blk.new w _ _
theorem Mm.len (m:Mm) (k:m.ok):m.cs.length=102:=by unfold Mm.cs;simp only[List.length_append,ints_len,k.r,k.p,k.e,List.length_cons,List.length_nil]
theorem Mm.size (m:Mm) (k:m.ok):m.ag.size=102:=by unfold Mm.ag;rw[List.size_toArray,m.len k]
theorem Mm.one (m:Mm):m.ag.all (·.oneCell')=true:=by
 rw[Array.all_eq_true_iff_forall_mem]
 intro v hv
 have:v∈m.cs:=by simpa[Mm.ag] using hv
 unfold Mm.cs at this
 simp only[List.mem_append,List.mem_cons,List.not_mem_nil,or_false] at this
 rcases this with h|h|h|h|h|h|h|h|h
 ·exact ints_one _ _ h
 ·exact ints_one _ _ h
 ·exact ints_one _ _ h
 all_goals (subst h;rfl)
theorem MB.there (h:MB w g m) (k:m.ok):w.there g 0 102:=fun j hj=>by
 refine⟨?_,Blk.frozen h _⟩
 rw[Blk.cell h]
 have:0+j<m.ag.size:=by rw[m.size k];omega
 rw[Array.getElem?_eq_getElem this];rfl
theorem MB.thereE (h:MB w g m) (k:m.ok):w.there g 16 80:=fun j hj=>by
 have h1:=h.there k (16+j) (by omega)
 rwa [Nat.zero_add] at h1
theorem MB.set_e (h:MB w g m) (k:m.ok) (e:List Int) (he:e.length=80):MB (w.setCells g 16 (ints e)) g {m with e:=e}:=by
 have h0:Blk w g 30 ((ints m.r++ints m.p)++(ints m.e++m.tl)).toArray:=by
  have e1:m.ag=((ints m.r++ints m.p)++(ints m.e++m.tl)).toArray:=by unfold Mm.ag Mm.cs Mm.tl;simp only[List.append_assoc]
  rw[<-e1];exact h
 have h1:=blk_setCells (ints e) (ints m.e) _ _ w h0 (by rw[ints_len,ints_len,he,k.e])
 have hl:(ints m.r++ints m.p).length=16:=by simp only[List.length_append,ints_len,k.r,k.p]
 rw[hl] at h1
 have e2:({m with e:=e}:Mm).ag=((ints m.r++ints m.p)++(ints e++m.tl)).toArray:=by unfold Mm.ag Mm.cs Mm.tl;simp only[List.append_assoc]
 unfold MB;rw[e2];exact h1
theorem MB.set_tl (h:MB w g m) (k:m.ok) (j:Nat) (v:Value) (m':Mm) (hr:m'.r=m.r) (hp:m'.p=m.p) (he:m'.e=m.e) (ht:m'.tl=m.tl.set j v) (hj:j<6):MB (w.setCell ⟨g,96+j,none⟩ v) g m':=by
 have h1:=Blk.set_ h (96+j) v
 have e0: ∀m:Mm,m.ag=((ints m.r++(ints m.p++ints m.e))++m.tl).toArray:=fun m=>by unfold Mm.ag Mm.cs Mm.tl;simp only[List.append_assoc]
 have hl:(ints m.r++(ints m.p++ints m.e)).length=96:=by simp only[List.length_append,ints_len,k.r,k.p,k.e]
 have e1:m.ag.setIfInBounds (96+j) v=m'.ag:=by
  rw[e0 m,e0 m',hr,hp,he,ht]
  simp only[List.setIfInBounds_toArray]
  rw[List.set_append_right _ _ (by omega),hl,Nat.add_sub_cancel_left]
 rw[e1] at h1
 exact h1
theorem MB.set_se (h:MB w g m) (k:m.ok) (x:Int):MB (w.setCell ⟨g,100,none⟩ (.int .i64 x)) g {m with se:=x}:=h.set_tl k 4 (.int .i64 x) _ rfl rfl rfl rfl (by omega)
theorem MB.set_er (h:MB w g m) (k:m.ok) (x:Int):MB (w.setCell ⟨g,99,none⟩ (.int .i64 x)) g {m with er:=x}:=h.set_tl k 3 (.int .i64 x) _ rfl rfl rfl rfl (by omega)
theorem Mm.ok.se {m:Mm} (k:m.ok) (x:Int):({m with se:=x}:Mm).ok:=⟨k.r,k.p,k.e⟩
theorem Mm.ok.er {m:Mm} (k:m.ok) (x:Int):({m with er:=x}:Mm).ok:=⟨k.r,k.p,k.e⟩
theorem Mm.ok.ex {m:Mm} (k:m.ok) {e:List Int} (he:e.length=80):({m with e:=e}:Mm).ok:=⟨k.r,k.p,he⟩
end
theorem sizeM:(Tryd.prog.info? 30).map (·.size)=some 102:=by kernel_rfl
section
variable {w:World} {g:Nat} {m:Mm}
theorem wpList_storeM {ops:Array Oper} {rest:List Oper} {o:Oper} {a:Act} {Q:Exit->Act->World->Prop} (hgd:o.guard=none) (x y:Operand) (ho:o.op= .store 30 x y)
 (g:Nat) (m0:Mm) (m:Mm) (hx:a.eval x= .pointer (some ⟨g,0,none⟩)) (hy:a.eval y= .agg m.ag) (h:MB w g m0) (k0:m0.ok) (k:m.ok)
 (kk:wpList Tryd.prog ops Q rest (a.put o.dst undef) (w.setRow g m.ag)):wpList Tryd.prog ops Q (o::rest) a w:=
 wpList_store_row hgd 30 x y ho g m.ag hx hy 30 m0.ag h (by rw[sizeM,m.size k]) (by rw[m.size k,m0.size k0]) m.one kk
theorem wpList_loadM {ops:Array Oper} {rest:List Oper} {o:Oper} {a:Act} {Q:Exit->Act->World->Prop} (hw:Region.wanted o (yielded ops a.tmps)=true) (x:Operand) (ho:o.op= .load 30 x)
 (g:Nat) (m:Mm) (hx:a.eval x= .pointer (some ⟨g,0,none⟩)) (h:MB w g m) (k0:m.ok)
 (kk:wpList Tryd.prog ops Q rest (a.put o.dst (.agg m.ag)) w):wpList Tryd.prog ops Q (o::rest) a w:=
 Go.BigFrame.wpList_want hw fun K hK=>wp_load_row 30 x ho g hx 30 m.ag (0,0) _ h Tryd.underlying30 rfl (by rw[sizeM,m.size k0]) (hK _ _ kk)
theorem MB.setRow {m0:Mm} (h:MB w g m0) (m:Mm):MB (w.setRow g m.ag) g m:=setRow_heap w g _ _ _ _ h
theorem results_mem1 {fn:Func} {p:Tmp} (h:fn.results= #[.cell p 30]) (tmps:Array Value) (w:World) (g:Nat) (m:Mm)
 (hp:tmps.getD p undef= .pointer (some ⟨g,0,none⟩)) (hg:MB w g m) (k:m.ok):
 (results fn tmps).run Tryd.prog w= .ok (.agg m.ag) w:=by
 have hp':tmps[p]?.getD undef= .pointer (some ⟨g,0,none⟩):=by simpa using hp
 have hr:=run_loadVar_row (P:=Tryd.prog) w g 30 30 m.ag (0,0) _ hg Tryd.underlying30 rfl (by rw[sizeM,m.size k])
 simp[results,h,hp',asAddr,hr]
theorem results_mem3 {fn:Func} {p q r:Tmp} (h:fn.results= #[.cell p 30,.tmp q,.tmp r]) (tmps:Array Value) (w:World) (g:Nat) (m:Mm)
 (hp:tmps.getD p undef= .pointer (some ⟨g,0,none⟩)) (hg:MB w g m) (k:m.ok):
 (results fn tmps).run Tryd.prog w= .ok (.tuple #[.agg m.ag,tmps.getD q undef,tmps.getD r undef]) w:=by
 have hp':tmps[p]?.getD undef= .pointer (some ⟨g,0,none⟩):=by simpa using hp
 have hr:=run_loadVar_row (P:=Tryd.prog) w g 30 30 m.ag (0,0) _ hg Tryd.underlying30 rfl (by rw[sizeM,m.size k])
 simp[results,h,hp',asAddr,hr]
end
def zeroM:Mm:=⟨List.replicate 8 0,List.replicate 8 0,List.replicate 80 0,0,0,0,0,0,false⟩
theorem zeroM_ok:zeroM.ok:=⟨rfl,rfl,rfl⟩
theorem zeroM_ag:Tryd.zeroCells30=zeroM.ag:=by kernel_rfl
end Go.Proofs.YthoiikkjjaldnaaDoor
namespace Go.Proofs.YthoiikkjjaldnaaDoor
set_option linter.unusedVariables false
set_option linter.unusedSimpArgs false
set_option maxRecDepth 100000
open Go.RowKit
def Mixes (w:World) (a b:List Int) (num:Int) (e:Ending) (w':World):Prop:=e= .returned (.tuple #[.agg (agi (mixL a b num)),.int .i64 (errOf (mixB a b num))])/\Below w.heap.size w w'
def Z8:List Int:=List.replicate 8 0
def Z9:List Int:=List.replicate 9 0
theorem z8_eq:agi Z8= #[.int .i64 0,.int .i64 0,.int .i64 0,.int .i64 0,.int .i64 0,.int .i64 0,.int .i64 0,.int .i64 0]:=rfl
theorem z9_eq:agi Z9= #[.int .i64 0,.int .i64 0,.int .i64 0,.int .i64 0,.int .i64 0,.int .i64 0,.int .i64 0,.int .i64 0,.int .i64 0]:=rfl
theorem size8:(Tryd.prog.info? 27).map (·.size)=some 8:=by kernel_rfl
theorem size9:(Tryd.prog.info? 69).map (·.size)=some 9:=by kernel_rfl
theorem mix_bad {w w':World} {a b:List Int} {num:Int} (h:mixB a b num=false) (hB:Below w.heap.size w w'):Mixes w a b num (.returned (.tuple #[.agg (agi Z8),.int .i64 2])) w':=by
 refine⟨?_,hB⟩
 unfold mixL errOf
 rw[h]
 rfl
theorem mix_good {w w':World} {a b ys:List Int} {num:Int} (h:mixB a b num=true) (hl:ys.length=8) (hy: ∀j,j<8->ys.getD j 0=mixE a b num j) (hB:Below w.heap.size w w'):Mixes w a b num (.returned (.tuple #[.agg (agi ys),.int .i64 0])) w':=by
 refine⟨?_,hB⟩
 have e:ys=mixL a b num:=by
  apply list_ext (by rw[hl,mixL_len])
  intro j hj
  rw[hy j (by omega)]
  unfold mixL
  rw[if_pos h,List.getD_eq_getElem?_getD,List.getElem?_map,List.getElem?_range (by omega)]
  rfl
 unfold errOf
 rw[h,e]
 rfl
theorem mixB_a {a b:List Int} {num:Int} {k:Nat} (hk:k<a.length) (h:a.getD k 0<= -32768\/32768<=a.getD k 0):mixB a b num=false:=by
 unfold mixB steadyB;rw[all_no hk (okR_no h)];simp
theorem mixB_b {a b:List Int} {num:Int} {k:Nat} (hk:k<b.length) (h:b.getD k 0<= -32768\/32768<=b.getD k 0):mixB a b num=false:=by
 unfold mixB steadyB;rw[all_no hk (okR_no h)];simp
structure MixInv (w wr:World) (a b ys:List Int):Prop where
 A:IB wr w.heap.size 27 a
 B:IB wr (w.heap.size+1) 27 b
 R:IB wr (w.heap.size+1+1) 27 Z8
 O:IB wr (w.heap.size+1+1+1) 27 ys
 bel:Below w.heap.size w wr
theorem MixInv.start (w:World) (a b:List Int):MixInv w ((((w.alloc (.cells (agi a) 27)).alloc (.cells (agi b) 27)).alloc (.cells (agi Z8) 27)).alloc (.cells (agi Z8) 27)) a b Z8:=by
 have h1:=IB.new w 27 a
 have h2:=IB.new (w.alloc (.cells (agi a) 27)) 27 b
 have h3:=IB.new ((w.alloc (.cells (agi a) 27)).alloc (.cells (agi b) 27)) 27 Z8
 have h4:=IB.new (((w.alloc (.cells (agi a) 27)).alloc (.cells (agi b) 27)).alloc (.cells (agi Z8) 27)) 27 Z8
 simp only[World.size_alloc] at h2 h3 h4
 exact⟨((Blk.alloc h1 _).alloc _).alloc _,(Blk.alloc h2 _).alloc _,Blk.alloc h3 _,h4,((((Below.refl _ _).alloc (Nat.le_refl _) _).alloc (by simp) _).alloc (by simp;omega) _).alloc (by simp;omega) _⟩
theorem lmix_any (a b:List Int) (num:Int) (w:World) (ha:a.length=8) (hb:b.length=8):Calls Tryd.prog 47 #[.agg (agi a),.agg (agi b),.int .i64 num] w (Mixes w a b num):=by
 have S0:=hid (MixInv.start w a b)
 by_cases h1:num<0\/4<num
 ·have FIN:=hid ((((((Below.refl _ w).alloc (Nat.le_refl _) (.cells (agi a) 27)).alloc (by simp) (.cells (agi b) 27)).alloc (by simp;omega) (.cells (agi Z8) 27))))
  have h3:=IB.new ((w.alloc (.cells (agi a) 27)).alloc (.cells (agi b) 27)) 27 Z8
  simp only[World.size_alloc] at h3
  have hRow:=hid h3
  have hRow2:=hid (h3.setRow Z8)
  have FIN:=hid (mix_bad (a:=a) (b:=b) (num:=num) (by unfold mixB;simp;omega) (below_setRow FIN.out (g:=w.heap.size+1+1) (by omega) (agi Z8)))
  clear h3
  have hR:=results_row2 (fn:=Tryd.f47) (p:=6) (q:=7) (ty:=27) rfl
  rcases h1 with h1|h1
  ·have d1:decide (num<0)=true:=by simpa using h1
   go_enter Tryd.func47,Tryd.ntmps47
   go_wp2_with (refine wpList_storeI rfl 27 (.tmp 6) (.tmp 16) rfl _ 27 Z8 Z8 8 rfl rfl hRow.out size8 rfl rfl ?_)
   refine bodyPost_ret (v:=_) (hR _ _ _ 27 Z8 _ 8 rfl hRow2.out Tryd.underlying27 rfl size8 rfl) rfl ?_
   exact FIN.out
  ·have d1:decide (num<0)=false:=by simp;omega
   have d2:decide (4<num)=true:=by simpa using h1
   go_enter Tryd.func47,Tryd.ntmps47
   go_wp2_with (refine wpList_storeI rfl 27 (.tmp 6) (.tmp 16) rfl _ 27 Z8 Z8 8 rfl rfl hRow.out size8 rfl rfl ?_)
   refine bodyPost_ret (v:=_) (hR _ _ _ 27 Z8 _ 8 rfl hRow2.out Tryd.underlying27 rfl size8 rfl) rfl ?_
   exact FIN.out
 ·have h0:0<=num:=by omega
  have h4:num<=4:=by omega
  have d1:decide (num<0)=false:=by simp;omega
  have d2:decide (4<num)=false:=by simp;omega
  clear h1
  rw[z8_eq] at S0
  have HA:=hid ha
  have HB:=hid hb
  clear ha hb
  go_enter Tryd.func47,Tryd.ntmps47
  go_wp2
  go_loopw [17] (fun iv wr=> ∃(k:Nat) (ys:List Int),k<=8/\iv= .int .i64 k/\Hid (ys.length=8/\(allTo okR a k/\allTo okR b k)/\∀j,j<k->ys.getD j 0=mixE a b num j)/\Hid (MixInv w wr a b ys)) (fun iv _=>8-(intOf iv).toNat)
  case atStart=>exact⟨0,Z8,by omega,rfl,hid ⟨rfl,⟨allTo.zero,allTo.zero⟩,fun j h=>by omega⟩,S0⟩
  case round=>
   clear S0
   obtain⟨k,ys,hk,rfl,HY,HI⟩:=hrel
   by_cases hlt:k<8
   ·have ca:=HI.out.A.cell k (by rw[HA.out];exact hlt)
    have cb:=HI.out.B.cell k (by rw[HB.out];exact hlt)
    have co:=HI.out.O.cell k (by rw[HY.out.1];exact hlt)
    have fo:=HI.out.O.frozen k
    obtain⟨x,hx⟩: ∃x,x=a.getD k 0:=⟨_,rfl⟩
    obtain⟨y,hy⟩: ∃y,y=b.getD k 0:=⟨_,rfl⟩
    rw[<-hx] at ca
    rw[<-hy] at cb
    have HX:=hid hx
    have HYY:=hid hy
    clear hx hy
    by_cases hbad:(x<= -32768\/32768<=x)\/(y<= -32768\/32768<=y)
    ·have FIN:=hid (fun(w1:World)=>mix_bad (w:=w) (w':=w1) (a:=a) (b:=b) (num:=num) (by
      rcases hbad with h|h
      ·exact mixB_a (k:=k) (by rw[HA.out];exact hlt) (by rw[<-HX.out];exact h)
      ·exact mixB_b (k:=k) (by rw[HB.out];exact hlt) (by rw[<-HYY.out];exact h)))
     have hB:=hid (below_setRow HI.out.bel (g:=w.heap.size+1+1) (by omega) (agi Z8))
     have hRow:=hid (HI.out.R.setRow Z8)
     have hR:=results_row2 (fn:=Tryd.f47) (p:=6) (q:=7) (ty:=27) rfl
     by_cases b1:x<= -32768
     ·go_wp2_with (refine wpList_storeI rfl 27 (.tmp 6) (.tmp 42) rfl _ 27 Z8 Z8 8 rfl rfl HI.out.R size8 rfl rfl ?_)
      refine bodyPost_ret (v:=_) (hR _ _ _ 27 Z8 _ 8 rfl hRow.out Tryd.underlying27 rfl size8 rfl) rfl ?_
      exact FIN.out _ hB.out
     by_cases b2:32768<=x
     ·go_wp2_with (refine wpList_storeI rfl 27 (.tmp 6) (.tmp 42) rfl _ 27 Z8 Z8 8 rfl rfl HI.out.R size8 rfl rfl ?_)
      refine bodyPost_ret (v:=_) (hR _ _ _ 27 Z8 _ 8 rfl hRow.out Tryd.underlying27 rfl size8 rfl) rfl ?_
      exact FIN.out _ hB.out
     by_cases b3:y<= -32768
     ·go_wp2_with (refine wpList_storeI rfl 27 (.tmp 6) (.tmp 42) rfl _ 27 Z8 Z8 8 rfl rfl HI.out.R size8 rfl rfl ?_)
      refine bodyPost_ret (v:=_) (hR _ _ _ 27 Z8 _ 8 rfl hRow.out Tryd.underlying27 rfl size8 rfl) rfl ?_
      exact FIN.out _ hB.out
     have b4:32768<=y:=by omega
     go_wp2_with (refine wpList_storeI rfl 27 (.tmp 6) (.tmp 42) rfl _ 27 Z8 Z8 8 rfl rfl HI.out.R size8 rfl rfl ?_)
     refine bodyPost_ret (v:=_) (hR _ _ _ 27 Z8 _ 8 rfl hRow.out Tryd.underlying27 rfl size8 rfl) rfl ?_
     exact FIN.out _ hB.out
    ·have b1: -32768<x:=by omega
     have b2:x<32768:=by omega
     have b3: -32768<y:=by omega
     have b4:y<32768:=by omega
     obtain⟨m1,m2,m3,m4⟩:=mix_sum ⟨b1,b2⟩ ⟨b3,b4⟩ ⟨h0,h4⟩
     have NEXT:=hid (show Hid ((ys.set k ((x*(4-num)+y*num).tdiv 4)).length=8/\(allTo okR a (k+1)/\allTo okR b (k+1))/\∀j,j<k+1->(ys.set k ((x*(4-num)+y*num).tdiv 4)).getD j 0=mixE a b num j) from by
      obtain⟨q1,⟨q2,q3⟩,q4⟩:=HY.out
      refine⟨by simpa using q1,⟨q2.succ (by rw[<-HX.out];exact okR_yes b1 b2),q3.succ (by rw[<-HYY.out];exact okR_yes b3 b4)⟩,fun j hj=>?_⟩
      by_cases he:k=j
      ·subst he
       rw[get_set_same _ _ _ (by omega),mixE,<-HX.out,<-HYY.out]
      ·rw[get_set_other _ _ he]
       exact q4 j (by omega))
     have NI:=hid (fun v=>show MixInv w (wr.setCell ⟨w.heap.size+1+1+1,k,none⟩ (.int .i64 v)).drew a b (ys.set k v) from
      ⟨Blk.far HI.out.A (by simp;try omega) _,Blk.far HI.out.B (by simp;try omega) _,Blk.far HI.out.R (by simp;try omega) _,HI.out.O.set_ k v,Below.drew (HI.out.bel.setCell (p:=⟨w.heap.size+1+1+1,k,none⟩) (show w.heap.size<=w.heap.size+1+1+1 by omega) _)⟩)
     clear hbad
     go_wp2
     go_region
     all_goals
      go_wp2
      go_roundw
      case rel=>exact⟨k+1,_,by omega,by go_num,NEXT.out,NI.out _⟩
      case measure=>simp[intOf]<;>omega
   ·obtain rfl:k=8:=by omega
    have hg:mixB a b num=true:=by
     unfold mixB steadyB
     rw[HY.out.2.1.1.all (by rw[HA.out];exact Nat.le_refl _),HY.out.2.1.2.all (by rw[HB.out];exact Nat.le_refl _)]
     simp;omega
    have FIN:=hid (fun(w1:World)=>mix_good (w:=w) (w':=w1) hg HY.out.1 HY.out.2.2)
    have hB:=hid (below_setRow HI.out.bel (g:=w.heap.size+1+1) (by omega) (agi ys))
    have hRow:=hid (HI.out.R.setRow ys)
    have hR:=results_row2 (fn:=Tryd.f47) (p:=6) (q:=7) (ty:=27) rfl
    clear hlt hg
    go_wp2_with (first
     |(refine wpList_loadI rfl 27 (.tmp 8) rfl _ 27 ys 8 _ rfl HI.out.O Tryd.underlying27 rfl size8 HY.out.1 ?_)
     |(refine wpList_storeI rfl 27 (.tmp 6) (.tmp 59) rfl _ 27 Z8 ys 8 rfl rfl HI.out.R size8 rfl HY.out.1 ?_))
    refine bodyPost_ret (v:=_) (hR _ _ _ 27 ys _ 8 rfl hRow.out Tryd.underlying27 rfl size8 HY.out.1) rfl ?_
    exact FIN.out _ hB.out
end Go.Proofs.YthoiikkjjaldnaaDoor
