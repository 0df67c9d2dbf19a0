/- Texts that the law rests on, laid together: SilR, BigMore, MixR, SumM, SynthM, GainW, Bits, DotM. -/
import Derived.Test.YthoiikkjjaldnaaDoorZ1c1501
import Derived.Test.YthoiikkjjaldnaaDoorZcd86f7
import Derived.Test.YthoiikkjjaldnaaDoorZbe9dc0
import Derived.BigQuiet
import Derived.Test.YthoiikkjjaldnaaDoorZe4c9da
import Derived.Test.YthoiikkjjaldnaaDoorZ7e0d48
import Derived.Test.YthoiikkjjaldnaaDoorZ4df1bd
import Derived.Test.YthoiikkjjaldnaaDoorRows
import Derived.WalkKit
import Derived.Deep.RegionHeld3
set_option maxHeartbeats 1000000
namespace Go.Proofs.YthoiikkjjaldnaaDoor
set_option linter.unusedVariables false
set_option linter.unusedSimpArgs false
set_option maxRecDepth 100000
open Go.RowKit
theorem w64_of16 {xs:List Int} (h:all16 xs=true):W64 xs:=fun x hx=>by
 unfold all16 at h
 have:=List.all_eq_true.1 h x hx
 unfold ok16 at this
 simp at this
 omega
end Go.Proofs.YthoiikkjjaldnaaDoor
namespace Go.Proofs.YthoiikkjjaldnaaDoor
set_option linter.unusedVariables false
set_option linter.unusedSimpArgs false
set_option maxRecDepth 100000
open Go.RowKit
end Go.Proofs.YthoiikkjjaldnaaDoor
namespace Go.Proofs.YthoiikkjjaldnaaDoor
set_option linter.unusedVariables false
set_option linter.unusedSimpArgs false
set_option maxRecDepth 100000
open Go.RowKit
structure Bx3 (w wr:World) (a b r:List Int):Prop where
 A:IB wr w.heap.size 27 a
 B:IB wr (w.heap.size+1) 27 b
 R:IB wr (w.heap.size+1+1) 27 r
 bel:Below w.heap.size w wr
theorem Bx3.lt {w wr:World} {a b r:List Int} (h:Bx3 w wr a b r):w.heap.size+1+1<wr.heap.size:=Blk.lt h.R
theorem Bx3.below {w wr wr':World} {a b r:List Int} (h:Bx3 w wr a b r) (hb:Below wr.heap.size wr wr'):Bx3 w wr' a b r:=
 ⟨Blk.below' h.A hb,Blk.below' h.B hb,Blk.below' h.R hb,h.bel.trans (hb.mono (by have:=h.lt;omega))⟩
theorem Bx3.setCell {w wr:World} {a b r:List Int} (h:Bx3 w wr a b r) {g:Nat} (hg:w.heap.size+1+1<g) (k:Nat) (v:Value):Bx3 w (wr.setCell ⟨g,k,none⟩ v) a b r:=
 ⟨Blk.far h.A (by show w.heap.size≠g;omega) _,Blk.far h.B (by show w.heap.size+1≠g;omega) _,Blk.far h.R (by show w.heap.size+1+1≠g;omega) _,h.bel.setCell (p:=⟨g,k,none⟩) (by show w.heap.size<=g;omega) _⟩
theorem Bx3.start (w:World) (a b:List Int):Bx3 w (((w.alloc (.cells (agi a) 27)).alloc (.cells (agi b) 27)).alloc (.cells (agi Z8) 27)) a b Z8:=by
 have h1:=IB.new w 27 a
 have h2:=IB.new (w.alloc (.cells (agi a) 27)) 27 b
 have h3:=IB.new ((w.alloc (.cells (agi a) 27)).alloc (.cells (agi b) 27)) 27 Z8
 simp only[World.size_alloc] at h2 h3
 exact⟨(Blk.alloc h1 _).alloc _,Blk.alloc h2 _,h3,(((Below.refl _ _).alloc (Nat.le_refl _) _).alloc (by simp) _).alloc (by simp;omega) _⟩
end Go.Proofs.YthoiikkjjaldnaaDoor
namespace Go.Proofs.YthoiikkjjaldnaaDoor
set_option linter.unusedVariables false
set_option linter.unusedSimpArgs false
set_option maxRecDepth 100000
theorem sumN_zero (n:Nat):sumN (fun _=>0) n=0:=by
 induction n with
 |zero=>rfl
 |succ n ih=>simp only[sumN];rw[ih];rfl
end Go.Proofs.YthoiikkjjaldnaaDoor
namespace Go.Proofs.YthoiikkjjaldnaaDoor
set_option linter.unusedVariables false
set_option linter.unusedSimpArgs false
set_option maxRecDepth 100000
def okP1 (x:Int):Bool:=decide (-1048576<=x/\x<=1048576)
theorem okP1_yes {x:Int} (h1: -1048576<=x) (h2:x<=1048576):okP1 x=true:=by unfold okP1;simp;omega
theorem okP1_no {x:Int} (h:x< -1048576\/1048576<x):okP1 x=false:=by unfold okP1;simp;omega
def okP (a:List Int):Bool:=a.all okP1
theorem okP_at {a:List Int} (h:okP a=true) (i:Nat): -1048576<=a.getD i 0/\a.getD i 0<=1048576:=by
 by_cases hi:i<a.length
 ·have:=List.all_eq_true.mp h _ (List.getElem_mem hi)
  rw[List.getD_eq_getElem?_getD,List.getElem?_eq_getElem hi]
  unfold okP1 at this
  simpa using this
 ·rw[List.getD_eq_getElem?_getD,List.getElem?_eq_none (by omega)]
  simp
def goodF (a p l:List Int):Bool:=okP a&&(decide (a.getD 0 0=4096)&&(all16 p&&all16 l))
def gterm (a p:List Int) (i:Nat):Int:=a.getD (i+1) 0*p.getD i 0
theorem gterm_bound {a p:List Int} (ha:okP a=true) (hp:all16 p=true) (i:Nat): -34359738368<=gterm a p i/\gterm a p i<=34359738368:=by
 have h1:=okP_at ha (i+1)
 have h2:=all16_at hp i
 have:=mul_bound (x:=a.getD (i+1) 0) (X:=1048576) (y:=p.getD i 0) (Y:=32768) (by omega) (by omega) ⟨by omega,by omega⟩ ⟨by omega,by omega⟩
 unfold gterm
 omega
theorem gsum_bound {a p:List Int} (ha:okP a=true) (hp:all16 p=true) (n:Nat): -(34359738368*(n:Int))<=sumN (gterm a p) n/\sumN (gterm a p) n<=34359738368*(n:Int):=by
 induction n with
 |zero=>simp[sumN]
 |succ n ih=>
  have:=gterm_bound ha hp n
  simp only[sumN]
  push_cast
  omega
def guessL (a p:List Int):Int:=(2048+sumN (gterm a p) 8)/4096
theorem guess_bound {a p:List Int} (ha:okP a=true) (hp:all16 p=true): -1000000000<=guessL a p/\guessL a p<=1000000000:=by
 have:=gsum_bound ha hp 8
 unfold guessL
 omega
def pushL (p:List Int) (x:Int):List Int:=x::p.take 7
theorem pushL_len {p:List Int} (h:p.length=8) (x:Int):(pushL p x).length=8:=by simp[pushL,h]
theorem all16_take {p:List Int} (h:all16 p=true) (n:Nat):all16 (p.take n)=true:=by
 unfold all16 at*
 rw[List.all_eq_true] at*
 intro x hx
 exact h x (List.mem_of_mem_take hx)
theorem all16_push {p:List Int} (h:all16 p=true) {x:Int} (hx:ok16 x=true):all16 (pushL p x)=true:=by
 have:=all16_take h 7
 unfold all16 at*
 simp[pushL,hx,this]
theorem ok16_s16 (x:Int):ok16 (s16 x)=true:=by
 have:=s16_range x
 exact ok16_yes (by omega) (by omega)
def newL (p:List Int):List Int->List Int
 |[]=>p
 |x::xs=>newL (pushL p x) xs
theorem newL_len: ∀(l p:List Int),p.length=8->(newL p l).length=8
 |[],_,h=>h
 |x::xs,p,h=>newL_len xs (pushL p x) (pushL_len h x)
theorem newL_snoc: ∀(l p:List Int) (x:Int),newL p (l++[x])=pushL (newL p l) x
 |[],_,_=>rfl
 |y::ys,p,x=>newL_snoc ys (pushL p y) x
theorem newL_all: ∀(l p:List Int),all16 p=true->all16 l=true->all16 (newL p l)=true
 |[],_,h,_=>h
 |x::xs,p,h,hl=>by
  have h2:ok16 x=true/\all16 xs=true:=by simpa[all16] using hl
  exact newL_all xs (pushL p x) (all16_push h h2.1) h2.2
def makeN (a p e:List Int):Nat->List Int
 |0=>[]
 |n+1=>makeN a p e n++[s16 (e.getD n 0-guessL a (newL p (makeN a p e n)))]
theorem makeN_len (a p e:List Int) (n:Nat):(makeN a p e n).length=n:=by
 induction n with
 |zero=>rfl
 |succ n ih=>simp[makeN,ih]
theorem makeN_all (a p e:List Int) (n:Nat):all16 (makeN a p e n)=true:=by
 induction n with
 |zero=>rfl
 |succ n ih=>
  unfold all16 at*
  simp[makeN,ih,ok16_s16]
end Go.Proofs.YthoiikkjjaldnaaDoor
namespace Go.Proofs.YthoiikkjjaldnaaDoor
set_option linter.unusedVariables false
set_option linter.unusedSimpArgs false
set_option maxRecDepth 100000
open Go.RowKit
def gainB (n:Int):Bool:=decide (0<=n/\n<=7)
def gainV (n:Int):Int:=if gainB n then gainsL.getD n.toNat 0 else 0
theorem gainB_yes {n:Int} (h1:0<=n) (h2:n<=7):gainB n=true:=by unfold gainB;simp;omega
theorem gainB_no {n:Int} (h:n<0\/7<n):gainB n=false:=by unfold gainB;simp;omega
theorem pitchGain_any (n:Int) (w:World) (T:TabA w 0 gainsL):
 Calls Tryd.prog 55 #[.int .i64 n] w fun e w'=>e= .returned (.tuple #[.int .i64 (gainV n),.int .i64 (errOf (gainB n))])/\w=w':=by
 by_cases h1:n<0\/7<n
 ·rw[show gainV n=0 from by unfold gainV;rw[gainB_no h1];rfl,gainB_no h1]
  rcases h1 with h1|h1
  ·go_enter Tryd.func55,Tryd.ntmps55
   go_wp2
   go_ret2
   exact⟨rfl,rfl⟩
  ·have h2: ¬n<0:=by omega
   have h3:8<=n:=by omega
   go_enter Tryd.func55,Tryd.ntmps55
   go_wp2
   go_ret2
   exact⟨rfl,rfl⟩
 ·obtain⟨k,rfl⟩:=Int.eq_ofNat_of_zero_le (show 0<=n by omega)
  have hk:k<8:=by omega
  have hc:=T.cell k hk
  rw[show gainV (k:Nat)=gainsL.getD k 0 from by unfold gainV;rw[gainB_yes (by omega) (by omega)];rfl,gainB_yes (by omega) (by omega)]
  generalize gainsL.getD k 0=v at*
  clear h1 T
  go_enter Tryd.func55,Tryd.ntmps55
  go_wp2
  go_ret2
  exact⟨rfl,rfl⟩
end Go.Proofs.YthoiikkjjaldnaaDoor
namespace Go.Proofs.YthoiikkjjaldnaaDoor
set_option linter.unusedVariables false
set_option linter.unusedSimpArgs false
set_option maxRecDepth 100000
open Go.RowKit
theorem and1 (x:Int):bits BinOp.and IntKind.i64 x 1=x%2:=by
 have h:(BitVec.ofInt 64 x&&&BitVec.ofInt 64 1).toNat=(x%2).toNat:=by
  rw[BitVec.toNat_and,BitVec.toNat_ofInt,show(BitVec.ofInt 64 1).toNat=2^1-1 from by decide,Nat.and_two_pow_sub_one_eq_mod]
  omega
 show IntKind.i64.wrap ((BitVec.ofInt 64 x&&&BitVec.ofInt 64 1).toNat:Int)=_
 rw[h,IntKind.wrap_i64]
 omega
end Go.Proofs.YthoiikkjjaldnaaDoor
namespace Go.Proofs.YthoiikkjjaldnaaDoor
set_option linter.unusedVariables false
set_option linter.unusedSimpArgs false
set_option maxRecDepth 100000
open Go.RowKit
def dterm (xs ys:List Int) (i:Nat):Int:=xs.getD i 0*ys.getD i 0
def dotL (xs ys:List Int) (n:Nat):Int:=sumN (dterm xs ys) n
def In16 (xs:List Int):Prop:= ∀i,-32768<=xs.getD i 0/\xs.getD i 0<=32767
theorem prod16 {x y:Int} (h1: -32768<=x) (h2:x<=32767) (h3: -32768<=y) (h4:y<=32767): -1073741824<=x*y/\x*y<=1073741824:=by
 have:=mul_bound (x:=x) (X:=32768) (y:=y) (Y:=32768) (by omega) (by omega) ⟨by omega,by omega⟩ ⟨by omega,by omega⟩
 omega
theorem dotL_range {xs ys:List Int} (hx:In16 xs) (hy:In16 ys) (n:Nat): -(1073741824*(n:Int))<=dotL xs ys n/\dotL xs ys n<=1073741824*(n:Int):=by
 unfold dotL
 induction n with
 |zero=>simp[sumN]
 |succ n ih=>
  have h:=prod16 (hx n).1 (hx n).2 (hy n).1 (hy n).2
  simp only[sumN]
  unfold dterm at*
  push_cast
  omega
end Go.Proofs.YthoiikkjjaldnaaDoor
