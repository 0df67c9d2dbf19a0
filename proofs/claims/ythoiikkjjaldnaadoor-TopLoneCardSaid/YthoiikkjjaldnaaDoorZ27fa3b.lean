/- Texts that the law rests on, laid together: OpenW. -/
import Derived.Test.YthoiikkjjaldnaaDoorZa172bc
import Derived.Test.YthoiikkjjaldnaaDoorZ4b4ffc
import Derived.Test.YthoiikkjjaldnaaDoorZbe9dc0
import Derived.Test.YthoiikkjjaldnaaDoorZcd86f7
import Derived.Deep.RegionHeld3
set_option maxHeartbeats 2000000
namespace Go.Proofs.YthoiikkjjaldnaaDoor
set_option linter.unusedVariables false
set_option linter.unusedSimpArgs false
set_option maxRecDepth 100000
open Go.RowKit
theorem pitchDot_any (A A2:Option Addr) (cA cB n m:Nat) (xs ys:List Int) (w:World) (hx:Rs w w.heap.size A xs) (hy:Rs w w.heap.size A2 ys) (hn:xs.length=n) (hm:ys.length=m) (hnm:n<=m) (hl:n<=1000) (h1:In16 xs) (h2:In16 ys):
 Calls Tryd.prog 83 #[.slice A n cA,.slice A2 m cB] w fun e w'=>e= .returned (.int .i64 (dotL xs ys n))/\w=w':=by
 have HX:=hid hx
 have HY:=hid hy
 have HN:=hid hn
 have HM:=hid hm
 have H1:=hid h1
 have H2:=hid h2
 clear hx hy hn hm h1 h2
 go_enter Tryd.func83,Tryd.ntmps83
 go_wp2
 go_loop [5,10] (fun sv iv=> ∃(k:Nat) (s:Int),k<=n/\iv= .int .i64 k/\sv= .int .i64 s/\Hid (s=dotL xs ys k)) (fun _ iv=>n-(intOf iv).toNat)
 case atStart=>exact⟨0,0,by omega,rfl,rfl,hid rfl⟩
 case round=>
  obtain⟨k,s,hk,rfl,rfl,HS⟩:=hrel
  by_cases hlt:k<n
  ·have dr:=dotL_range H1.out H2.out k
   rw[<-HS.out] at dr
   have s1: -1073741824000<=s:=by omega
   have s2:s<=1073741824000:=by omega
   have ST:=hid (show dotL xs ys (k+1)=s+xs.getD k 0*ys.getD k 0 by rw[HS.out];rfl)
   obtain⟨ad,rfl,_,k0⟩:=HX.out.at_ (k:=k) (by rw[HN.out];exact hlt)
   obtain⟨ae,rfl,_,k1⟩:=HY.out.at_ (k:=k) (by rw[HM.out];omega)
   have x16:=H1.out k
   have y16:=H2.out k
   generalize xs.getD k 0=x at*
   generalize ys.getD k 0=y at*
   obtain⟨p1,p2⟩:=prod16 x16.1 x16.2 y16.1 y16.2
   have i2:(k:Int)<m:=by omega
   clear dr
   go_wp2
   go_round
   case rel=>exact⟨k+1,_,by omega,by go_num,rfl,hid ST.out.symm⟩
   case measure=>simp[intOf]<;>omega
  ·obtain rfl:k=n:=by omega
   go_wp2
   go_ret
   exact⟨by rw[<-HS.out];rfl,rfl⟩
theorem self_nn (x:Int):0<=x*x:=by
 rcases Int.le_total 0 x with h|h
 ·exact Int.mul_nonneg h h
 ·have:=Int.mul_nonneg (show 0<= -x by omega) (show 0<= -x by omega)
  rwa [Int.neg_mul_neg] at this
theorem sq_nn (b:List Int) (n:Nat):0<=dotL b b n:=by
 unfold dotL
 induction n with
 |zero=>simp[sumN]
 |succ n ih=>
  simp only[sumN]
  have:0<=dterm b b n:=by unfold dterm;exact self_nn _
  omega
theorem sq_zero {b:List Int} {n:Nat} (h:dotL b b n=0): ∀i,i<n->b.getD i 0=0:=by
 induction n with
 |zero=>intro i hi;omega
 |succ n ih=>
  intro i hi
  have h1:=sq_nn b n
  have h2:0<=dterm b b n:=by unfold dterm;exact self_nn _
  have h3:dotL b b n+dterm b b n=0:=h
  by_cases e:i=n
  ·subst e
   have h4:b.getD i 0*b.getD i 0=0:=by unfold dterm at h3 h2;omega
   rcases Int.mul_eq_zero.1 h4 with h5|h5<;>exact h5
  ·exact ih (by omega) i (by omega)
theorem dot_pos {a b:List Int} {n:Nat} (h:0<dotL a b n):0<dotL b b n:=by
 have h1:=sq_nn b n
 by_cases h0:dotL b b n=0
 ·exfalso
  have hz:=sq_zero h0
  have:dotL a b n=0:=by
   unfold dotL
   rw[sumN_congr n (g:=fun _=>0) (fun i hi=>by unfold dterm;rw[hz i hi];simp)]
   exact sumN_zero n
  omega
 ·omega
def opNow (l:List Int):List Int:=l.drop 79
def opWas (l:List Int) (o:Nat):List Int:=(l.drop o).take 80
def opC (l:List Int) (o:Nat):Int:=dotL (opNow l) (opWas l o) 80
def opE (l:List Int) (o:Nat):Int:=dotL (opWas l o) (opWas l o) 80
def opS (l:List Int):Nat->Int×Int×Int
 |0=>(20,0,0)
 |n+1=>if decide (0<opC l (59-n))&&betterB (opC l (59-n)) (opE l (59-n)) (opS l n).2.1 (opS l n).2.2 then(20+(n:Int),opC l (59-n),opE l (59-n)) else opS l n
def opErr (l:List Int):Int:=if l.length=159 then errOf (all16 l) else 1
def opV (l:List Int):Int:=if opErr l=0 then(opS l 60).1 else 0
theorem op_first {c e bc:Int} (h:0<c->0<e):(decide (0<c)&&betterB c e bc 0)=decide (0<c):=by
 by_cases hc:0<c
 ·rw[better_yes (h hc) (by omega),decide_eq_true hc];rfl
 ·rw[decide_eq_false hc];rfl
def OpAns (l:List Int) (w:World) (e:Ending) (w':World):Prop:=e= .returned (.tuple #[.int .i64 (opV l),.int .i64 (opErr l)])/\Below w.heap.size w w'
theorem OpAns.bad {l:List Int} {w w':World} {er:Int} (h:opErr l=er) (h0:er≠0) (hB:Below w.heap.size w w'):OpAns l w (.returned (.tuple #[.int .i64 0,.int .i64 er])) w':=
 ⟨by rw[show opV l=0 by unfold opV;rw[if_neg (by rw[h];exact h0)],h],hB⟩
theorem rs_block1 {w:World} {g:Nat} {t:TypeId} {xs:List Int} (h:IB w g t xs):Rs w w.heap.size (some ⟨g,0,none⟩) xs:=
 ⟨by simp[ints],fun _=>⟨_,rfl,Blk.lt h,fun j u hu=>by
   have hj:j<xs.length:=by
    have:=(List.getElem?_eq_some_iff.mp hu).1
    rwa [ints_len] at this
   rw[ints_get xs j hj] at hu
   rw[add_zero',<-hu]
   exact IB.cell h j hj⟩⟩
end Go.Proofs.YthoiikkjjaldnaaDoor
