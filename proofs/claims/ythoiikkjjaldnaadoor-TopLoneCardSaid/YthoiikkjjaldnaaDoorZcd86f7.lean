/- Texts that the law rests on, laid together: BigDiv, BigDiv1, BigQuo, BigAddO, BigDivMod, BigIMul, BigMulO, MakeI, FadeW, SteadyW, EqA. -/
import Derived.Test.YthoiikkjjaldnaaDoorZd03041
import Derived.Deep.RegionWith
import Derived.Test.YthoiikkjjaldnaaDoorZ7e0d48
import Derived.Test.YthoiikkjjaldnaaDoorZbe9dc0
import Derived.Test.YthoiikkjjaldnaaDoorZe4c9da
import Derived.Laws.StructEq
set_option maxHeartbeats 1000000
namespace Go.Proofs.YthoiikkjjaldnaaDoor
set_option linter.unusedVariables false
set_option linter.unusedSimpArgs false
set_option maxRecDepth 100000
open Go.RowKit
theorem Nm.drewN {w:World} {v:Value} {n:Nat} (h:Nm w v n) (k:Nat):Nm (w.drewN k) v n:=h.below (B:=w.heap.size) ⟨rfl,rfl,rfl,Nat.le_refl _,fun _ _=>rfl⟩ (Nat.le_refl _)
end Go.Proofs.YthoiikkjjaldnaaDoor
namespace Go.Proofs.YthoiikkjjaldnaaDoor
set_option linter.unusedVariables false
set_option linter.unusedSimpArgs false
set_option maxRecDepth 100000
open Go.RowKit
structure SmInv (w wr:World) (an:Nat) (ua:List Nat) (d k r:Nat) (rs:List Nat):Prop where
 len:rs.length=an
 ok:wok rs
 lt:r<d
 val:wv (ua.drop k)=d*wv (rs.drop k)+r
 own:wr.ownsRow w.heap.size 176 1 (.slice (some ⟨w.heap.size,0,none⟩) an an) an (W32 rs)
 bel:Below w.heap.size w wr
theorem drop_set_succ (l:List Nat) (k x:Nat) (h:k<l.length):(l.set k x).drop k=x::l.drop (k+1):=by
 rw[List.set_eq_take_append_cons_drop,if_pos h,List.drop_append,List.drop_of_length_le (by rw[List.length_take];omega),List.length_take,Nat.min_eq_left (by omega)]
 simp
theorem SmInv.step {w wr:World} {an:Nat} {ua:List Nat} {d k r:Nat} {rs:List Nat} (h:SmInv w wr an ua d (k+1) r rs) (hk:k<an) (hl:ua.length=an) (hd:d<4294967296) (hxa:ua.getD k 0<4294967296):
 SmInv w (wr.setCell ⟨w.heap.size,k,none⟩ (.int .u32 (((r*4294967296+ua.getD k 0)/d:Nat):Int))) an ua d k ((r*4294967296+ua.getD k 0)%d) (rs.set k ((r*4294967296+ua.getD k 0)/d))/\(r*4294967296+ua.getD k 0)/d<4294967296:=by
 have hrl:=h.len
 have hlt:=h.lt
 have hq:(r*4294967296+ua.getD k 0)/d<4294967296:=by
  rw[Nat.div_lt_iff_lt_mul (by omega)]
  have:=Nat.mul_le_mul_right 4294967296 (show r+1<=d by omega)
  rw[Nat.mul_comm 4294967296 d]
  omega
 refine⟨⟨by simpa using h.len,wok_set h.ok k hq,Nat.mod_lt _ (by omega),?_,?_,h.bel.setCell (Nat.le_refl _) _⟩,hq⟩
 ·rw[drop_set_succ _ _ _ (by omega),drop_getD ua k (by omega),wv,wv,h.val]
  have h1:=Nat.div_add_mod (r*4294967296+ua.getD k 0) d
  generalize ua.getD k 0=x at*
  generalize wv (rs.drop (k+1))=W at*
  generalize (r*4294967296+x)/d=Q at*
  generalize (r*4294967296+x)%d=R at*
  rw[Nat.mul_add,Nat.mul_add]
  have h2:4294967296*(d*W)=d*(4294967296*W):=by rw[<-Nat.mul_assoc,Nat.mul_comm 4294967296 d,Nat.mul_assoc]
  rw[h2]
  omega
 ·have:=(h.own.stored k (.int .u32 (((r*4294967296+ua.getD k 0)/d:Nat):Int))).1
  rwa [W32_set] at this
end Go.Proofs.YthoiikkjjaldnaaDoor
namespace Go.Proofs.YthoiikkjjaldnaaDoor
set_option linter.unusedVariables false
set_option linter.unusedSimpArgs false
set_option maxRecDepth 100000
open Go.RowKit
end Go.Proofs.YthoiikkjjaldnaaDoor
namespace Go.Proofs.YthoiikkjjaldnaaDoor
set_option linter.unusedVariables false
set_option linter.unusedSimpArgs false
set_option maxRecDepth 100000
open Go.RowKit
end Go.Proofs.YthoiikkjjaldnaaDoor
namespace Go.Proofs.YthoiikkjjaldnaaDoor
set_option linter.unusedVariables false
set_option linter.unusedSimpArgs false
set_option maxRecDepth 100000
open Go.RowKit
structure Two (b m:Nat) (w w':World):Prop where
 os:w'.os=w.os
 tape:w'.tape=w.tape
 output:w'.output=w.output
 size:w.heap.size<=w'.heap.size
 block: ∀k,k<w.heap.size->k≠b->k≠m->w'.heap[k]?=w.heap[k]?
theorem Two.trans {b m:Nat} {u v w:World} (h:Two b m u v) (k:Two b m v w):Two b m u w:=
 ⟨k.os.trans h.os,k.tape.trans h.tape,k.output.trans h.output,Nat.le_trans h.size k.size,fun i hi hb hm=>(k.block i (Nat.lt_of_lt_of_le hi h.size) hb hm).trans (h.block i hi hb hm)⟩
theorem Two.left {b m:Nat} {u v:World} (h:u.grownBy v (some b)):Two b m u v:=⟨h.os,h.tape,h.output,h.size,fun k hk hb _=>h.block k hk (by simpa using hb)⟩
theorem Two.right {b m:Nat} {u v:World} (h:u.grownBy v (some m)):Two b m u v:=⟨h.os,h.tape,h.output,h.size,fun k hk _ hm=>h.block k hk (by simpa using hm)⟩
theorem Two.below {b m:Nat} {u v:World} (h:Below u.heap.size u v):Two b m u v:=⟨h.os,h.tape,h.output,h.size,fun k hk _ _=>h.block k hk⟩
end Go.Proofs.YthoiikkjjaldnaaDoor
namespace Go.Proofs.YthoiikkjjaldnaaDoor
set_option linter.unusedVariables false
set_option linter.unusedSimpArgs false
set_option maxRecDepth 100000
open Go.RowKit
end Go.Proofs.YthoiikkjjaldnaaDoor
namespace Go.Proofs.YthoiikkjjaldnaaDoor
set_option linter.unusedVariables false
set_option linter.unusedSimpArgs false
set_option maxRecDepth 100000
open Go.RowKit
end Go.Proofs.YthoiikkjjaldnaaDoor
namespace Go.Proofs.YthoiikkjjaldnaaDoor
set_option linter.unusedVariables false
set_option linter.unusedSimpArgs false
set_option maxRecDepth 100000
open Go.RowKit
theorem made_ints (n:Nat):(madeCells (Value.int .i64 0).cells (n*1)).toList=ints (List.replicate n 0):=by
 rw[Nat.mul_one]
 show(madeCells #[Value.int .i64 0] n).toList=_
 rw[toList_madeCells_one]
 simp[ints]
theorem wpList_makeI {ops:Array Oper} {rest:List Oper} {o:Oper} {a:Act} {w:World} {Q:Exit->Act->World->Prop} (hgd:o.guard=none) (l c:Operand)
 (ho:o.op= .makeSlice 36 l c) (kl kc:IntKind) (n:Nat) (hl:a.eval l= .int kl (n:Int)) (hc:a.eval c= .int kc (n:Int)) (base:Nat) (hn:n<=17592186044416) (hbase:base<=w.heap.size)
 (h: ∀w1,Own w1 base (some ⟨w.heap.size,0,none⟩) n (List.replicate n 0)->w.grownBy w1 none->wpList Tryd.prog ops Q rest (a.put o.dst (.slice (some ⟨w.heap.size,0,none⟩) n n)) w1):
 wpList Tryd.prog ops Q (o::rest) a w:=by
 obtain⟨i0,hi,hz0,hz1,hz2⟩:=info_parts infoI
 refine wpList_make_full w hgd l c 36 ho base 3 i0 (.int .i64 0) 1 Tryd.underlying36 hi hz0 hz1 kl kc (n:Int) (n:Int) n hl hc rfl rfl (by rw[hz2];omega) (by unfold maxLen;omega) hbase ?_
 intro w1 hown hgrow
 refine h w1 ?_ hgrow
 unfold Own
 rw[List.length_replicate]
 rw[<-made_ints]
 simpa using hown
end Go.Proofs.YthoiikkjjaldnaaDoor
namespace Go.Proofs.YthoiikkjjaldnaaDoor
set_option linter.unusedVariables false
set_option linter.unusedSimpArgs false
set_option maxRecDepth 100000
open Go.RowKit
def fdN (x:Int):Nat->Int
 |0=>x
 |k+1=>fdN x k*26214/32768
theorem fdN_range {x:Int} (h0:0<=x) (h1:x<=32767) (k:Nat):0<=fdN x k/\fdN x k<=32767:=by
 induction k with
 |zero=>exact⟨h0,h1⟩
 |succ k ih=>simp only[fdN];omega
def fade (g e:Int):Int:=if g<0\/5<e then 0 else fdN (min g 32767) e.toNat
theorem fade_range (g e:Int):0<=fade g e/\fade g e<=32767:=by
 unfold fade
 split
 ·omega
 ·exact fdN_range (by omega) (by omega) _
theorem fade_any (g e:Int) (w:World):Calls Tryd.prog 74 #[.int .i64 g,.int .i64 e] w fun en w'=>en= .returned (.int .i64 (fade g e))/\w=w':=by
 by_cases h1:g<0
 ·have hv:fade g e=0:=by unfold fade;rw[if_pos (.inl h1)]
  rw[hv]
  have d1:decide (g<0)=true:=by simpa using h1
  clear hv
  go_enter Tryd.func74,Tryd.ntmps74
  go_wp2
  go_ret
  exact⟨rfl,rfl⟩
 by_cases h2:5<e
 ·have hv:fade g e=0:=by unfold fade;rw[if_pos (.inr h2)]
  rw[hv]
  have d1:decide (g<0)=false:=by simpa using h1
  have d2:decide (6<=e)=true:=by simp;omega
  clear hv
  go_enter Tryd.func74,Tryd.ntmps74
  go_wp2
  go_ret
  exact⟨rfl,rfl⟩
 have hv:fade g e=fdN (min g 32767) e.toNat:=by unfold fade;rw[if_neg (by omega)]
 have d1:decide (g<0)=false:=by simpa using h1
 have d2:decide (6<=e)=false:=by simp;omega
 have h3:e<=5:=by omega
 clear h2
 rcases(show(g<=32767/\min g 32767=g)\/(32767<g/\min g 32767=32767) by omega) with⟨hg,hm⟩|⟨hg,hm⟩
 all_goals
  rw[hm] at hv
  have HV:=hid hv
  clear hv hm
  go_enter Tryd.func74,Tryd.ntmps74
  go_wp2
  go_loop [0,14] (fun gv iv=> ∃(k:Nat) (y:Int),(k=0\/(k:Int)<=e)/\iv= .int .i64 k/\gv= .int .i64 y/\0<=y/\y<=32767/\Hid (y=fdN (min g 32767) k)) (fun _ iv=>(e-intOf iv).toNat)
  case atStart=>exact⟨0,_,.inl rfl,rfl,rfl,by omega,by omega,hid (by simp only[fdN];omega)⟩
  case round=>
   obtain⟨k,y,hk,rfl,rfl,hy0,hy1,HY⟩:=hrel
   have HS:=hid (show fdN (min g 32767) (k+1)=y*26214/32768 by rw[HY.out];rfl)
   by_cases hlt:(k:Int)<e
   ·go_wp2
    go_round
    case rel=>exact⟨k+1,y*26214/32768,by omega,by go_num,rfl,by omega,by omega,hid HS.out.symm⟩
    case measure=>simp[intOf]<;>omega
   ·have HK:=hid (show k=e.toNat by omega)
    have HF:=hid (show fade g e=y by
     rw[HV.out,HY.out,HK.out]
     congr 1
     omega)
    clear hg
    go_wp2
    go_ret
    exact⟨by rw[HF.out];rfl,rfl⟩
end Go.Proofs.YthoiikkjjaldnaaDoor
namespace Go.Proofs.YthoiikkjjaldnaaDoor
set_option linter.unusedVariables false
set_option linter.unusedSimpArgs false
set_option maxRecDepth 100000
open Go.RowKit
def AnsB (w:World) (b:Bool) (e:Ending) (w':World):Prop:=e= .returned (.bool b)/\Below w.heap.size w w'
end Go.Proofs.YthoiikkjjaldnaaDoor
namespace Go.Proofs.YthoiikkjjaldnaaDoor
set_option linter.unusedVariables false
set_option linter.unusedSimpArgs false
set_option maxRecDepth 100000
open Go.RowKit
theorem run_equalIn_agi (d:Nat) {t:TypeId} {n:Nat} (ht:Tryd.prog.underlying t=some (.array n 3)) (xs:List Int) (hl:xs.length=n) (w:World):
 (Op.equalIn (d+2) t (.agg (agi xs)) (.agg (agi xs))).run Tryd.prog w= .ok true w:=by
 have hs: ∀w,(sizeOf 3).run Tryd.prog w= .ok 1 w:=fun w=>by kernel_rfl
 have ha: ∀w,(isAgg 3).run Tryd.prog w= .ok false w:=fun w=>by kernel_rfl
 rw[Op.equalIn]
 simp only[Sem.run_bind,run_underlying ht,Result.andThen_ok,hs,Std.Legacy.Range.forIn_eq_forIn_range',Std.Legacy.Range.size,Nat.sub_zero,Nat.add_sub_cancel,Nat.div_one]
 have hl2: ∀i∈List.range' 0 n 1,i<n:=fun i hi=>by simpa using(List.mem_range'_1.1 hi).2
 generalize List.range' 0 n 1=l at hl2|-
 induction l with
 |nil=>simp
 |cons i l ih=>
  have hi:i<n:=hl2 i (by simp)
  have px:(part 3 (agi xs) (i*1)).run Tryd.prog w= .ok (.int .i64 (xs.getD i 0)) w:=by
   have hg:=agi_get xs i (by omega)
   simp[part,ha,hg]
  have pe:(Op.equalIn (d+1) 3 (.int .i64 (xs.getD i 0)) (.int .i64 (xs.getD i 0))).run Tryd.prog w= .ok true w:=by
   rw[run_equalIn_int w d 3 .i64 .i64 _ _ Tryd.underlying3]
   simp
  simp only[List.forIn_cons,Sem.run_bind,px,pe,Result.andThen_ok]
  simp only[Bool.not_true,Bool.false_eq_true,if_false,Sem.run_pure,Result.andThen_ok]
  exact ih fun j hj=>hl2 j (by simp[hj])
theorem Blk.stored {w:World} {g:Nat} {t:TypeId} {cs c2:Array Value} (h:Blk w g t cs) (o:Obj):Blk ((w.alloc o).setRow w.heap.size c2) g t cs:=
 Blk.rowFar (Blk.alloc h o) (by have:=Blk.lt h;omega)
theorem IB.stored (w:World) (t:TypeId) (zs ys:List Int):IB ((w.alloc (.cells (agi zs) t)).setRow w.heap.size (agi ys)) w.heap.size t ys:=(IB.new w t zs).setRow ys
theorem below_stored (w:World) (o:Obj) (c2:Array Value):Below w.heap.size w ((w.alloc o).setRow w.heap.size c2):=
 below_setRow ((Below.refl _ w).alloc (Nat.le_refl _) o) (Nat.le_refl _) c2
end Go.Proofs.YthoiikkjjaldnaaDoor
