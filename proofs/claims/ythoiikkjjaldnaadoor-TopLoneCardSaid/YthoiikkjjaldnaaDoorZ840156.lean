/- Texts that the law rests on, laid together: PikM, BestM, PowR, NearR. -/
import Derived.Test.YthoiikkjjaldnaaDoorZ27fa3b
import Derived.Test.YthoiikkjjaldnaaDoorZ55ca3b
import Derived.Test.YthoiikkjjaldnaaDoorZdf659f
import Derived.Test.YthoiikkjjaldnaaDoorZ306d7b
import Derived.Test.YthoiikkjjaldnaaDoorZa172bc
import Derived.Test.YthoiikkjjaldnaaDoorZa2d71e
import Derived.Test.YthoiikkjjaldnaaDoorZbe9dc0
import Derived.Test.YthoiikkjjaldnaaDoorZcd86f7
import Derived.Test.YthoiikkjjaldnaaDoorZd03041
import Derived.Deep.RegionHeld3
namespace Go.Proofs.YthoiikkjjaldnaaDoor
set_option linter.unusedVariables false
set_option linter.unusedSimpArgs false
set_option maxRecDepth 100000
open Go.RowKit
theorem w64_of_in16 {xs:List Int} (h:In16 xs):W64 xs:=fun x hx=>by
 obtain⟨i,hi⟩:=List.getElem?_of_mem hx
 have:=h i
 rw[List.getD_eq_getElem?_getD,hi] at this
 simp at this
 omega
theorem all16_of {xs:List Int} (h: ∀i,i<xs.length-> -32768<=xs.getD i 0/\xs.getD i 0<=32767):all16 xs=true:=by
 unfold all16
 rw[List.all_eq_true]
 intro x hx
 obtain⟨i,hi⟩:=List.getElem?_of_mem hx
 have hl:=(List.getElem?_eq_some_iff.1 hi).1
 have:=h i hl
 rw[List.getD_eq_getElem?_getD,hi] at this
 simp at this
 exact ok16_yes this.1 this.2
theorem pastL_in {h:List Int} (hh:In16 h) (lag:Int):all16 (pastL h lag)=true:=by
 unfold pastL
 split
 ·refine all16_of fun i hi=>?_
  rw[List.length_map,List.length_range] at hi
  rw[range_get _ hi]
  exact hh _
 ·rfl
theorem foL_in (r l:List Int):all16 (foL r l)=true:=by
 unfold foL
 split
 ·refine all16_of fun i hi=>?_
  rw[List.length_map,List.length_range] at hi
  rw[range_get _ hi]
  exact s16_range _
 ·rfl
def pkR (ring:List Int):Bool:=decide (ring.length=40)&&all16 ring
theorem pk_fo {ring v:List Int} (hv:v.length=40) (ha:all16 v=true):(foL ring v).length=if pkR ring then 40 else 0:=by
 unfold pkR
 by_cases h:ring.length=40
 ·rw[decide_eq_true h,Bool.true_and]
  have he:foErr ring v=errOf (all16 ring):=by
   rw[foErr_all (by omega) (by omega)]
   unfold foB
   rw[ha,Bool.and_true]
  cases hr:all16 ring with
  |true=>rw[hr] at he;rw[foL_good he,List.length_map,List.length_range,hv];rfl
  |false=>rw[hr] at he;rw[foL_bad (by rw[he];decide)];rfl
 ·rw[decide_eq_false h,Bool.false_and]
  rw[foL_bad (by rw[foErr_len (by omega)];decide)]
  rfl
def piV (ring h:List Int) (n:Nat):List Int:=foL ring (pastL h (20+(n:Int)))
def pkC (ring h t:List Int) (n:Nat):Int:=dotL t (piV ring h n) 40
def pkE (ring h:List Int) (n:Nat):Int:=dotL (piV ring h n) (piV ring h n) 40
def pkS (ring h t:List Int):Nat->Int×Int×Int
 |0=>(20,0,0)
 |n+1=>if decide (0<pkC ring h t n)&&betterB (pkC ring h t n) (pkE ring h n) (pkS ring h t n).2.1 (pkS ring h t n).2.2 then(20+(n:Int),pkC ring h t n,pkE ring h n) else pkS ring h t n
theorem pkV_in (ring h:List Int) (n:Nat):In16 (piV ring h n):=all16_at (foL_in _ _)
theorem pkS_be (ring h t:List Int) (n:Nat):0<=(pkS ring h t n).2.2:=by
 induction n with
 |zero=>simp[pkS]
 |succ n ih=>
  unfold pkS
  split
  ·exact sq_nn _ _
  ·exact ih
theorem pkS_rng (ring h:List Int) {t:List Int} (ht:In16 t) (n:Nat):(-42949672960<=(pkS ring h t n).2.1/\(pkS ring h t n).2.1<=42949672960)/\ -42949672960<=(pkS ring h t n).2.2/\(pkS ring h t n).2.2<=42949672960:=by
 induction n with
 |zero=>simp[pkS]
 |succ n ih=>
  have r1:=dotL_range ht (pkV_in ring h n) 40
  have r2:=dotL_range (pkV_in ring h n) (pkV_in ring h n) 40
  unfold pkS
  split
  ·simp only
   unfold pkC pkE
   omega
  ·exact ih
theorem pkS_lag (ring h t:List Int) (n:Nat) (hn:n<=60):20<=(pkS ring h t n).1/\(pkS ring h t n).1<=79:=by
 induction n with
 |zero=>simp[pkS]
 |succ n ih=>
  unfold pkS
  split
  ·simp only
   omega
  ·exact ih (by omega)
def piErr (ring h t:List Int):Int:=if t.length=40 then(if all16 t&&all16 h then(if pkR ring then 0 else 1) else 2) else 1
def piA (ring h t:List Int):Int:=if piErr ring h t=0 then(pkS ring h t 60).1 else 0
def piB (ring h t:List Int):Int:=if piErr ring h t=0 then(pkS ring h t 60).2.1 else 0
def pkD (ring h t:List Int):Int:=if piErr ring h t=0 then(pkS ring h t 60).2.2 else 0
def PkAns (ring h t:List Int) (w:World) (e:Ending) (w':World):Prop:=e= .returned (.tuple #[.int .i64 (piA ring h t),.int .i64 (piB ring h t),.int .i64 (pkD ring h t),.int .i64 (piErr ring h t)])/\Below w.heap.size w w'
theorem PkAns.bad {ring h t:List Int} {w w':World} {er:Int} (he:piErr ring h t=er) (h0:er≠0) (hB:Below w.heap.size w w'):PkAns ring h t w (.returned (.tuple #[.int .i64 0,.int .i64 0,.int .i64 0,.int .i64 er])) w':=
 ⟨by unfold piA piB pkD;rw[he,if_neg h0,if_neg h0,if_neg h0],hB⟩
end Go.Proofs.YthoiikkjjaldnaaDoor
namespace Go.Proofs.YthoiikkjjaldnaaDoor
set_option linter.unusedVariables false
set_option linter.unusedSimpArgs false
set_option maxRecDepth 100000
open Go.RowKit
def Z4:List Int:=[0,0,0,0]
structure Bst where
 at_:List Int
 first:Bool
 c:Int
 e:Int
def bst0:Bst:=⟨Z4,true,0,0⟩
def bstS (d ring:List Int) (s:Bst) (x:List Int):Bst:=if s.first||betterB (scC d x 4) (scE d ring x) s.c s.e then⟨x,false,scC d x 4,scE d ring x⟩ else s
def bestL (d ring:List Int) (l:List (List Int)):Bst:=l.foldl (bstS d ring) bst0
theorem ix_Z4:Ix Z4:=⟨rfl,by decide⟩
theorem bstS_ix {d ring x:List Int} {s:Bst} (h:Ix s.at_) (hx:Ix x):Ix (bstS d ring s x).at_:=by
 unfold bstS
 split
 ·exact hx
 ·exact h
theorem bestL_ix {d ring:List Int}: ∀{l:List (List Int)} {s:Bst},Ix s.at_->(∀x∈l,Ix x)->Ix (l.foldl (bstS d ring) s).at_
 |[],_,h,_=>h
 |x::l,s,h,hl=>bestL_ix (l:=l) (bstS_ix h (hl x (List.mem_cons_self ..))) fun y hy=>hl y (List.mem_cons_of_mem _ hy)
theorem bstS_64 {d ring x:List Int} {s:Bst} (h:(-9223372036854775808<=s.c/\s.c<=9223372036854775807)/\ -9223372036854775808<=s.e/\s.e<=9223372036854775807):(-9223372036854775808<=(bstS d ring s x).c/\(bstS d ring s x).c<=9223372036854775807)/\ -9223372036854775808<=(bstS d ring s x).e/\(bstS d ring s x).e<=9223372036854775807:=by
 unfold bstS
 split
 ·have:=scE_range d ring x
  exact⟨scC_64 d x 4,by show-9223372036854775808<=scE d ring x;omega,by show scE d ring x<=9223372036854775807;omega⟩
 ·exact h
theorem bestL_64 {d ring:List Int}: ∀{l:List (List Int)} {s:Bst},((-9223372036854775808<=s.c/\s.c<=9223372036854775807)/\ -9223372036854775808<=s.e/\s.e<=9223372036854775807)->((-9223372036854775808<=(l.foldl (bstS d ring) s).c/\(l.foldl (bstS d ring) s).c<=9223372036854775807)/\ -9223372036854775808<=(l.foldl (bstS d ring) s).e/\(l.foldl (bstS d ring) s).e<=9223372036854775807)
 |[],_,h=>h
 |x::l,s,h=>bestL_64 (l:=l) (bstS_64 h)
def fewX (now:List Int) (t p:Nat):List Int:=now.set t (p:Int)
def fewL (now:List Int) (t n:Nat):List (List Int):=(List.range n).map (fewX now t)
theorem fewL_snoc (now:List Int) (t n:Nat):fewL now t (n+1)=fewL now t n++[fewX now t n]:=by unfold fewL;rw[List.range_succ,List.map_append];rfl
theorem okIx_set {x:List Int} (h:okIx x=true) (t:Nat) {p:Int} (hp:0<=p/\p<=9):okIx (x.set t p)=true:=by
 unfold okIx at*
 rw[List.all_eq_true] at*
 intro y hy
 rcases List.mem_or_eq_of_mem_set hy with h1|h1
 ·exact h y h1
 ·subst h1;simpa using hp
theorem fewX_ix {now:List Int} (h:Ix now) {t p:Nat} (hp:p<10):Ix (fewX now t p):=⟨by unfold fewX;rw[List.length_set];exact h.1,okIx_set h.2 t (by omega)⟩
theorem fewL_ix {now:List Int} (h:Ix now) (t:Nat) {n:Nat} (hn:n<=10): ∀x∈fewL now t n,Ix x:=fun x hx=>by
 unfold fewL at hx
 obtain⟨k,hk,rfl⟩:=List.mem_map.1 hx
 exact fewX_ix h (by have:=List.mem_range.1 hk;omega)
def fewN (d ring:List Int):Nat->List Int
 |0=>Z4
 |k+1=>(bestL d ring (fewL (fewN d ring k) (k%4) 10)).at_
theorem fewN_ix (d ring:List Int) (k:Nat):Ix (fewN d ring k):=by
 induction k with
 |zero=>exact ix_Z4
 |succ k ih=>exact bestL_ix ix_Z4 (fewL_ix ih _ (Nat.le_refl _))
def sgnN (d x:List Int):Nat->Nat
 |0=>0
 |t+1=>if 0<=d.getD (plc x t) 0 then sgnN d x t+2^t else sgnN d x t
theorem sgnN_lt (d x:List Int) (t:Nat):sgnN d x t<2^t:=by
 induction t with
 |zero=>simp[sgnN]
 |succ t ih=>
  unfold sgnN
  rw[Nat.pow_succ]
  split<;>omega
def sgnB (d x:List Int) (t:Nat):Int:=(sgnN d x t:Nat)
def seErr (d ring:List Int):Int:=if d.length=40/\ring.length=40 then(if d.all (fun x=>decide (-1099511627776<=x/\x<=1099511627776)) then 0 else 2) else 1
def seX (d ring x:List Int):List Int:=if seErr d ring=0 then x else Z4
def seS (d ring x:List Int):Int:=if seErr d ring=0 then sgnB d x 4 else 0
end Go.Proofs.YthoiikkjjaldnaaDoor
namespace Go.Proofs.YthoiikkjjaldnaaDoor
set_option linter.unusedVariables false
set_option linter.unusedSimpArgs false
set_option maxRecDepth 100000
open Go.RowKit
end Go.Proofs.YthoiikkjjaldnaaDoor
namespace Go.Proofs.YthoiikkjjaldnaaDoor
set_option linter.unusedVariables false
set_option linter.unusedSimpArgs false
set_option maxRecDepth 100000
open Go.RowKit
def nearB (vs:List Int) (one c e:Int):Nat->Int
 |0=>0
 |k+1=>if k=0 then 0 else if(vs.getD k 0+vs.getD (k-1) 0)*e<2*one*c then k else nearB vs one c e k
theorem nearB_step (vs:List Int) (one c e:Int) {k:Nat} (h:0<k):nearB vs one c e (k+1)=if(vs.getD k 0+vs.getD (k-1) 0)*e<2*one*c then(k:Int) else nearB vs one c e k:=by
 rw[nearB,if_neg (by omega)]
theorem nearB_range (vs:List Int) (one c e:Int) (k:Nat):0<=nearB vs one c e k/\nearB vs one c e k<=k:=by
 induction k with
 |zero=>simp[nearB]
 |succ k ih=>
  unfold nearB
  split
  ·omega
  ·split<;>omega
theorem mul_small {x y X Y:Int} (h1:0<=x) (h2:x<=X) (h3: -Y<=y) (h4:y<=Y): -(X*Y)<=x*y/\x*y<=X*Y:=by
 have hX:0<=X:=by omega
 have hY:0<=Y:=by omega
 have a1:x*y<=x*Y:=Int.mul_le_mul_of_nonneg_left h4 h1
 have a2:x*Y<=X*Y:=Int.mul_le_mul_of_nonneg_right h2 hY
 have a3:x*(-Y)<=x*y:=Int.mul_le_mul_of_nonneg_left h3 h1
 have a4:x*(-Y)= -(x*Y):=by rw[Int.mul_neg]
 omega
end Go.Proofs.YthoiikkjjaldnaaDoor
