/- Texts that the law rests on, laid together: DkA, BigSub, BigInt, BigInt2, BigInt3, BigSum, BigISub, BigSubO, BigICmp, NumA, BigRsh, BigIAdd. -/
import Derived.Test.YthoiikkjjaldnaaDoorZ7e0d48
import Derived.Test.YthoiikkjjaldnaaDoorZ4df1bd
import Derived.Deep.RegionWith
import Derived.Deep.RegionHeld3
import Derived.Test.YthoiikkjjaldnaaDoorRows
import Derived.WalkKit
import Derived.WalkLawsBesides
namespace Go.Proofs.YthoiikkjjaldnaaDoor
set_option linter.unusedVariables false
set_option linter.unusedSimpArgs false
set_option maxRecDepth 100000
open Go.RowKit
def callC (k v:Int) (r:Bool) (A:Option Addr) (n c:Nat) (A2:Option Addr) (n2 c2:Nat):Array Value:= #[.int .i64 k,.int .i64 v,.bool r,.slice A n c,.slice A2 n2 c2]
theorem one_call (k v:Int) (r:Bool) (A:Option Addr) (n c:Nat) (A2:Option Addr) (n2 c2:Nat):(callC k v r A n c A2 n2 c2).all (·.oneCell')=true:=by
 rw[Array.all_eq_true_iff_forall_mem]
 intro u hu
 unfold callC at hu
 simp only[List.mem_toArray,List.mem_cons,List.not_mem_nil,or_false] at hu
 rcases hu with rfl|rfl|rfl|rfl|rfl<;>rfl
theorem sizeCall:(Tryd.prog.info? 56).map (·.size)=some 5:=by kernel_rfl
theorem sizeAns:(Tryd.prog.info? 58).map (·.size)=some 4:=by kernel_rfl
theorem results_any1 {fn:Func} {p:Tmp} {ty:TypeId} (h:fn.results= #[.cell p ty]) (tmps:Array Value) (w:World) (g:Nat) (cs:Array Value) (d:TypeDesc)
 (hp:tmps.getD p undef= .pointer (some ⟨g,0,none⟩)) (hg:Blk w g ty cs) (hu:Tryd.prog.underlying ty=some d) (hd:isAggD d=true) (hi:(Tryd.prog.info? ty).map (·.size)=some cs.size):
 (results fn tmps).run Tryd.prog w= .ok (.agg cs) w:=by
 have hp':tmps[p]?.getD undef= .pointer (some ⟨g,0,none⟩):=by simpa using hp
 have hr:=run_loadVar_row (P:=Tryd.prog) w g ty ty cs (0,0) d hg hu (by cases d<;>first|rfl|(simp[isAggD] at hd)) hi
 simp[results,h,hp',asAddr,hr]
section
variable {ops:Array Oper} {rest:List Oper} {o:Oper} {a:Act} {w:World} {Q:Exit->Act->World->Prop}
theorem wpList_storeC (hgd:o.guard=none) (ty:TypeId) (x y:Operand) (ho:o.op= .store ty x y) (g:Nat) (t:TypeId) (c0 cs:Array Value) (hx:a.eval x= .pointer (some ⟨g,0,none⟩)) (hy:a.eval y= .agg cs) (h:Blk w g t c0)
 (hi:(Tryd.prog.info? ty).map (·.size)=some cs.size) (hs:c0.size=cs.size) (h1:cs.all (·.oneCell')=true) (k:wpList Tryd.prog ops Q rest (a.put o.dst undef) (w.setRow g cs)):wpList Tryd.prog ops Q (o::rest) a w:=
 wpList_store_row hgd ty x y ho g cs hx hy t c0 h hi hs h1 k
theorem wpList_loadC (hw:Region.wanted o (yielded ops a.tmps)=true) (ty:TypeId) (x:Operand) (ho:o.op= .load ty x) (g:Nat) (t:TypeId) (cs:Array Value) (d:TypeDesc) (hx:a.eval x= .pointer (some ⟨g,0,none⟩)) (h:Blk w g t cs)
 (hu:Tryd.prog.underlying ty=some d) (hd:isAggD d=true) (hi:(Tryd.prog.info? ty).map (·.size)=some cs.size) (k:wpList Tryd.prog ops Q rest (a.put o.dst (.agg cs)) w):wpList Tryd.prog ops Q (o::rest) a w:=
 Go.BigFrame.wpList_want hw fun K hK=>wp_load_row ty x ho g hx t cs (0,0) d h hu (by cases d<;>first|rfl|(simp[isAggD] at hd)) hi (hK _ _ k)
theorem Blk.setRow_ {g:Nat} {t:TypeId} {c0:Array Value} (h:Blk w g t c0) (cs:Array Value):Blk (w.setRow g cs) g t cs:=setRow_heap w g _ _ t _ h
end
def ansC (code v:Int) (A:Option Addr) (n c:Nat) (A2:Option Addr) (n2 c2:Nat):Array Value:= #[.int .i64 code,.int .i64 v,.slice A n c,.slice A2 n2 c2]
theorem one_ans (k v:Int) (A:Option Addr) (n c:Nat) (A2:Option Addr) (n2 c2:Nat):(ansC k v A n c A2 n2 c2).all (·.oneCell')=true:=by
 rw[Array.all_eq_true_iff_forall_mem]
 intro u hu
 unfold ansC at hu
 simp only[List.mem_toArray,List.mem_cons,List.not_mem_nil,or_false] at hu
 rcases hu with rfl|rfl|rfl|rfl<;>rfl
end Go.Proofs.YthoiikkjjaldnaaDoor
namespace Go.Proofs.YthoiikkjjaldnaaDoor
set_option linter.unusedVariables false
set_option linter.unusedSimpArgs false
set_option maxRecDepth 100000
open Go.RowKit
structure SubInv (w wr:World) (an:Nat) (ua ub:List Nat) (k c:Nat) (rs:List Nat):Prop where
 len:rs.length=an
 ok:wok rs
 val:wv (rs.take k)+wv (ub.take k)=wv (ua.take k)+4294967296^k*c
 own:wr.ownsRow w.heap.size 176 1 (.slice (some ⟨w.heap.size,0,none⟩) an an) an (W32 rs)
 bel:Below w.heap.size w wr
theorem SubInv.step {w wr:World} {an:Nat} {ua ub:List Nat} {k c:Nat} {rs:List Nat} (h:SubInv w wr an ua ub k c rs) (hk:k<an)
 {x c' xa xb:Nat} (hx:x<4294967296) (hxa:ua.getD k 0=xa) (hxb:ub.getD k 0=xb) (hv:x+xb+c=xa+4294967296*c'):
 SubInv w (wr.setCell ⟨w.heap.size,k,none⟩ (.int .u32 (x:Nat))) an ua ub (k+1) c' (rs.set k x):=by
 have hl:=h.len
 refine⟨by simpa using h.len,wok_set h.ok k hx,?_,?_,h.bel.setCell (Nat.le_refl _) _⟩
 ·rw[take_set_succ _ _ _ (by omega),wv_snoc,List.length_take,Nat.min_eq_left (by omega),wv_take_succ',wv_take_succ',hxa,hxb,Nat.pow_succ]
  have h1:=h.val
  have h2:4294967296^k*(x+xb+c)=4294967296^k*(xa+4294967296*c'):=by rw[hv]
  simp only[Nat.mul_add] at h2
  rw[Nat.mul_assoc]
  omega
 ·have:=(h.own.stored k (.int .u32 (x:Nat))).1
  rwa [W32_set] at this
theorem SubInv.fin {w wr:World} {an:Nat} {ua ub:List Nat} {c:Nat} {rs:List Nat} (h:SubInv w wr an ua ub an c rs) (h1:ua.length=an) (h2:ub.length<=an) (hle:wv ub<=wv ua):
 wv rs=wv ua-wv ub:=by
 have hv:=h.val
 have hl:=h.len
 rw[List.take_of_length_le (l:=ua) (by omega),List.take_of_length_le (l:=ub) (by omega),List.take_of_length_le (l:=rs) (by omega)] at hv
 have h3:=wv_lt h.ok
 rw[hl] at h3
 have:c=0:=by
  by_cases hc:c=0
  ·exact hc
  ·exfalso
   have:=Nat.mul_le_mul_left (4294967296^an) (show 1<=c by omega)
   omega
 subst this
 omega
end Go.Proofs.YthoiikkjjaldnaaDoor
namespace Go.Proofs.YthoiikkjjaldnaaDoor
set_option linter.unusedVariables false
set_option linter.unusedSimpArgs false
set_option maxRecDepth 100000
open Go.RowKit
theorem Nm.drew {w:World} {v:Value} {n:Nat} (h:Nm w v n):Nm w.drew v n:=h.below (B:=w.heap.size) ((Below.refl _ _).drew) (Nat.le_refl _)
def sgn (neg:Bool) (n:Nat):Int:=if neg then-(n:Int) else n
end Go.Proofs.YthoiikkjjaldnaaDoor
namespace Go.Proofs.YthoiikkjjaldnaaDoor
set_option linter.unusedVariables false
set_option linter.unusedSimpArgs false
set_option maxRecDepth 100000
open Go.RowKit
theorem Nm.cells {w:World} {v:Value} {n:Nat} (h:Nm w v n) (hn:n<18446744073709551616):
 ∃ao len cap,v= .slice ao len cap/\((len=0/\n=0)\/(∃g off,len=1/\ao=some ⟨g,off,none⟩/\n<4294967296/\w.cell? ⟨g,off,none⟩=some (.int .u32 (n:Nat)))\/
  (∃g off lo hi,len=2/\ao=some ⟨g,off,none⟩/\lo<4294967296/\hi<4294967296/\n=lo+4294967296*hi/\w.cell? ⟨g,off,none⟩=some (.int .u32 (lo:Nat))/\w.cell? ⟨g,off+1,none⟩=some (.int .u32 (hi:Nat)))):=by
 obtain⟨ao,len,cap,ws,rfl,hr,ht,rfl⟩:=h
 have hl:ws.length<=2:=len_le_of_lt ht (n:=2) (by simpa using hn)
 have hlen:=hr.len
 refine⟨ao,len,cap,rfl,?_⟩
 match ws,hlen,hr,ht,hn,hl with
 |[],hlen,hr,ht,hn,hl=>exact .inl ⟨by simpa using hlen.symm,rfl⟩
 |[a],hlen,hr,ht,hn,hl=>
  obtain rfl:len=1:=by simpa using hlen.symm
  obtain⟨g,off,rfl⟩:=hr.addr (by omega)
  have hc:=hr.cell 0 (by omega)
  have ha:=(wok_cons.1 hr.ok).1
  exact .inr (.inl ⟨g,off,rfl,rfl,by simpa[wv] using ha,by simpa[wv] using hc⟩)
 |[a,b],hlen,hr,ht,hn,hl=>
  obtain rfl:len=2:=by simpa using hlen.symm
  obtain⟨g,off,rfl⟩:=hr.addr (by omega)
  have hc:=hr.cell 0 (by omega)
  have hc1:=hr.cell 1 (by omega)
  have ha:=(wok_cons.1 hr.ok).1
  have hb:=(wok_cons.1 (wok_cons.1 hr.ok).2).1
  exact .inr (.inr ⟨g,off,a,b,rfl,rfl,ha,hb,by simp[wv],by simpa using hc,by simpa using hc1⟩)
end Go.Proofs.YthoiikkjjaldnaaDoor
namespace Go.Proofs.YthoiikkjjaldnaaDoor
set_option linter.unusedVariables false
set_option linter.unusedSimpArgs false
set_option maxRecDepth 100000
open Go.RowKit
theorem Nm.one (w:World):Nm (w.alloc (.cells #[.int .u32 1] 176)) (.slice (some ⟨w.heap.size,0,none⟩) 1 1) 1:=by
 have hO:=World.ownsRow_lit (base:=w.heap.size) (e:=176) (size:=1) w #[.int .u32 ((1:Nat):Int)] 1 (Nat.le_refl _) (by unfold maxLen;omega) rfl
 obtain⟨ao,cap,hv,hr,_⟩:=Rd.owned (ws:=[1]) hO (by intro y hy;simp at hy;omega)
 injection hv with h1 h2 h3
 subst h1;subst h3
 exact⟨_,1,1,[1],rfl,hr,by intro n hn;simp at hn;subst hn;decide,rfl⟩
end Go.Proofs.YthoiikkjjaldnaaDoor
namespace Go.Proofs.YthoiikkjjaldnaaDoor
set_option linter.unusedVariables false
set_option linter.unusedSimpArgs false
set_option maxRecDepth 100000
open Go.RowKit
def Sums (w:World) (z:Int) (e:Ending) (w':World):Prop:= ∃neg v n,e= .returned (.tuple #[.bool neg,v])/\Nm w' v n/\sgn neg n=z/\∃w1 k,w1=w.drewN k/\Below w.heap.size w1 w'
theorem Sums.below {w w':World} {z:Int} {e:Ending} (h:Sums w z e w'):Below w.heap.size w w':=by
 obtain⟨_,_,_,_,_,_,w1,k,rfl,hb⟩:=h
 exact Below.trans (b:=w.drewN k) ⟨rfl,rfl,rfl,Nat.le_refl _,fun _ _=>rfl⟩ hb
end Go.Proofs.YthoiikkjjaldnaaDoor
namespace Go.Proofs.YthoiikkjjaldnaaDoor
set_option linter.unusedVariables false
set_option linter.unusedSimpArgs false
set_option maxRecDepth 100000
open Go.RowKit
end Go.Proofs.YthoiikkjjaldnaaDoor
namespace Go.Proofs.YthoiikkjjaldnaaDoor
set_option linter.unusedVariables false
set_option linter.unusedSimpArgs false
set_option maxRecDepth 100000
open Go.RowKit
end Go.Proofs.YthoiikkjjaldnaaDoor
namespace Go.Proofs.YthoiikkjjaldnaaDoor
set_option linter.unusedVariables false
set_option linter.unusedSimpArgs false
set_option maxRecDepth 100000
open Go.RowKit
theorem below_drN (w:World) (k:Nat):Below w.heap.size w (w.drewN k):=⟨rfl,rfl,rfl,Nat.le_refl _,fun _ _=>rfl⟩
end Go.Proofs.YthoiikkjjaldnaaDoor
namespace Go.Proofs.YthoiikkjjaldnaaDoor
set_option linter.unusedVariables false
set_option linter.unusedSimpArgs false
set_option maxRecDepth 100000
open Go.RowKit
def lim (lo hi x:Int):Int:=if x<lo then lo else if hi<x then hi else x
def limd (lo hi x:Int):Bool:=if x<lo then true else if hi<x then true else false
theorem lim_range {lo hi:Int} (h:lo<=hi) (x:Int):lo<=lim lo hi x/\lim lo hi x<=hi:=by
 unfold lim;repeat' split
 all_goals omega
def s16 (x:Int):Int:=lim (-32768) 32767 x
theorem s16_range (x:Int): -32768<=s16 x/\s16 x<=32767:=lim_range (by omega) x
def d16 (x:Int):Bool:=limd (-32768) 32767 x
def Pair (w:World) (n:Int) (b:Bool) (e:Ending) (w':World):Prop:=e= .returned (.tuple #[.int .i64 n,.bool b])/\w=w'
theorem stop_any (x lo hi:Int) (w:World):
 Calls Tryd.prog 92 #[.int .i64 x,.int .i64 lo,.int .i64 hi] w (Pair w (lim lo hi x) (limd lo hi x)):=by
 unfold lim limd
 go_enter Tryd.func92,Tryd.ntmps92
 go_wp2
 all_goals (go_ret2;exact⟨by simp[*],rfl⟩)
theorem sat16_any (x:Int) (w:World):Calls Tryd.prog 75 #[.int .i64 x] w (Pair w (s16 x) (d16 x)):=by
 go_enter Tryd.func75,Tryd.ntmps75
 go_wp2_with (go_at_call 92;refine(stop_any _ _ _ _).mono ?_;rintro e w' ⟨rfl,rfl⟩)
 go_ret2
 exact⟨rfl,rfl⟩
end Go.Proofs.YthoiikkjjaldnaaDoor
namespace Go.Proofs.YthoiikkjjaldnaaDoor
set_option linter.unusedVariables false
set_option linter.unusedSimpArgs false
set_option maxRecDepth 100000
open Go.RowKit
end Go.Proofs.YthoiikkjjaldnaaDoor
namespace Go.Proofs.YthoiikkjjaldnaaDoor
set_option linter.unusedVariables false
set_option linter.unusedSimpArgs false
set_option maxRecDepth 100000
open Go.RowKit
end Go.Proofs.YthoiikkjjaldnaaDoor
