/- Texts that the law rests on, laid together: DotR, WidW, PkB, Row4, PkM, PkS, Mul64, BetterM. -/
import Derived.Test.YthoiikkjjaldnaaDoorZ4b8d9d
import Derived.Test.YthoiikkjjaldnaaDoorZbe9dc0
import Derived.Test.YthoiikkjjaldnaaDoorZcd86f7
import Derived.Test.YthoiikkjjaldnaaDoorZ7e0d48
import Derived.Deep.RegionHeld3
import Derived.Test.YthoiikkjjaldnaaDoorZ4df1bd
import Derived.Test.YthoiikkjjaldnaaDoorZe4c9da
import Derived.Test.YthoiikkjjaldnaaDoorRows
import Derived.WalkKit
import Derived.Deep.MidRow
import Derived.Shelf.Bits.Mul64
set_option maxHeartbeats 2000000
namespace Go.Proofs.YthoiikkjjaldnaaDoor
set_option linter.unusedVariables false
set_option linter.unusedSimpArgs false
set_option maxRecDepth 100000
open Go.RowKit
end Go.Proofs.YthoiikkjjaldnaaDoor
namespace Go.Proofs.YthoiikkjjaldnaaDoor
set_option linter.unusedVariables false
set_option linter.unusedSimpArgs false
set_option maxRecDepth 100000
open Go.RowKit
def widV (i:Int):Int:=if 0<=i/\i<=7 then widthL.getD i.toNat 0 else 0
theorem widV_out {i:Int} (h:i<0\/7<i):widV i=0:=by unfold widV;rw[if_neg (by omega)]
theorem widV_cases (i:Int):widV i=0/\(i<0\/7<i)\/widV i=6/\0<=i/\i<=1\/widV i=5/\2<=i/\i<=3\/widV i=4/\4<=i/\i<=5\/widV i=3/\6<=i/\i<=7:=by
 by_cases h:i<0\/7<i
 ·exact .inl ⟨widV_out h,h⟩
 ·obtain⟨k,rfl⟩:=Int.eq_ofNat_of_zero_le (show 0<=i by omega)
  have hk:k<8:=by omega
  have e:widV (k:Nat)=widthL.getD k 0:=by unfold widV;rw[if_pos (by omega)];rfl
  rw[e]
  have:k=0\/k=1\/k=2\/k=3\/k=4\/k=5\/k=6\/k=7:=by omega
  rcases this with rfl|rfl|rfl|rfl|rfl|rfl|rfl|rfl<;>simp[widthL]
theorem quantWidth_any (i:Int) (w:World) (T:TabA w 1 widthL):
 Calls Tryd.prog 76 #[.int .i64 i] w fun e w'=>e= .returned (.int .i64 (widV i))/\w=w':=by
 by_cases h1:i<0\/7<i
 ·rw[widV_out h1]
  rcases h1 with h1|h1
  ·go_enter Tryd.func76,Tryd.ntmps76
   go_wp2
   go_ret
   exact⟨rfl,rfl⟩
  ·have h2: ¬i<0:=by omega
   have h3:8<=i:=by omega
   go_enter Tryd.func76,Tryd.ntmps76
   go_wp2
   go_ret
   exact⟨rfl,rfl⟩
 ·obtain⟨k,rfl⟩:=Int.eq_ofNat_of_zero_le (show 0<=i by omega)
  have hk:k<8:=by omega
  have hc:=T.cell k hk
  rw[show widV (k:Nat)=widthL.getD k 0 from by unfold widV;rw[if_pos (by omega)];rfl]
  generalize widthL.getD k 0=v at*
  clear h1 T
  go_enter Tryd.func76,Tryd.ntmps76
  go_wp2
  go_ret
  exact⟨rfl,rfl⟩
end Go.Proofs.YthoiikkjjaldnaaDoor
namespace Go.Proofs.YthoiikkjjaldnaaDoor
set_option linter.unusedVariables false
set_option linter.unusedSimpArgs false
set_option maxRecDepth 100000
open Go.RowKit
def digE (V e:Nat):Nat:=V/2^e%256
theorem digE_lt (V e:Nat):digE V e<256:=Nat.mod_lt _ (by omega)
theorem digE_bit (V e q:Nat):(digE V e).testBit q=(decide (q<8)&&V.testBit (e+q)):=by
 unfold digE
 rw[show 256=2^8 from rfl,Nat.testBit_mod_two_pow,Nat.testBit_div_two_pow,Nat.add_comm q e]
theorem bit_one {u:Nat} (hu:u<=1) (x:Nat):u.testBit x=(decide (x=0)&&decide (u=1)):=by
 have:u=0\/u=1:=by omega
 rcases this with rfl|rfl
 ·simp
 ·cases x with
  |zero=>rfl
  |succ x=>simp[Nat.testBit_succ]
theorem digE_put {V u p e:Nat} (hu:u<=1) (h1:e<=p) (h2:p<e+8):digE (V|||u<<<p) e=digE V e|||u<<<(p-e):=by
 apply Nat.eq_of_testBit_eq
 intro q
 rw[digE_bit,Nat.testBit_or,Nat.testBit_or,digE_bit,Nat.testBit_shiftLeft,Nat.testBit_shiftLeft,bit_one hu,bit_one hu]
 by_cases hq:q<8
 ·by_cases hv:V.testBit (e+q)
  ·simp[hq,hv]
  ·by_cases h3:e+q=p
   ·have h4:q=p-e:=by omega
    subst h4
    simp[hq,hv,h3]
   ·by_cases h5:p<=e+q
    ·have h6: ¬q-(p-e)=0:=by omega
     have h7: ¬e+q-p=0:=by omega
     simp[h6,h7,hv]
    ·have h6: ¬q>=p-e:=by omega
     simp[h5,h6,hv]
 ·by_cases h3:q-(p-e)=0
  ·omega
  ·simp[hq,h3]
theorem digE_far {V u p e:Nat} (hu:u<=1) (h:p<e\/e+8<=p):digE (V|||u<<<p) e=digE V e:=by
 apply Nat.eq_of_testBit_eq
 intro q
 rw[digE_bit,Nat.testBit_or,digE_bit,Nat.testBit_shiftLeft,bit_one hu]
 by_cases hq:q<8
 ·by_cases h5:e+q>=p
  ·have h7: ¬e+q-p=0:=by omega
   simp[h7]
  ·simp[h5]
 ·simp[hq]
def digL (V:Nat):List Int:=(List.range 14).map (fun j=>(digE V (8*(13-j)):Int))
theorem put_bit (V v k P:Nat):(V|||(v>>>(k+1))<<<(P+1))|||((v>>>k%2)<<<P)=V|||(v>>>k)<<<P:=by
 rw[Nat.or_assoc]
 congr 1
 apply Nat.eq_of_testBit_eq
 intro x
 have hu:v>>>k%2<=1:=by omega
 rw[Nat.testBit_or,Nat.testBit_shiftLeft,Nat.testBit_shiftLeft,Nat.testBit_shiftLeft,Nat.testBit_shiftRight,Nat.testBit_shiftRight,bit_one hu]
 by_cases h1:x>=P
 ·by_cases h2:x=P
  ·subst h2
   have h3:v.testBit k=decide (v>>>k%2=1):=by
    rw[Nat.testBit,Nat.one_and_eq_mod_two]
    by_cases h:v>>>k%2=1
    ·simp[h]
    ·have:v>>>k%2=0:=by omega
     simp[this]
   have h6: ¬x>=x+1:=by omega
   rw[decide_eq_false h6,decide_eq_true h1,Nat.sub_self,show k+0=k from rfl,h3]
   simp only[Bool.true_and,Bool.false_and,Bool.false_or,decide_true]
  ·have h4: ¬x-P=0:=by omega
   have h5:k+1+(x-(P+1))=k+(x-P):=by omega
   have h6:x>=P+1:=by omega
   rw[decide_eq_true h1,decide_eq_true h6,decide_eq_false h4,h5]
   simp only[Bool.true_and,Bool.false_and,Bool.or_false]
 ·have h6: ¬x>=P+1:=by omega
  rw[decide_eq_false h1,decide_eq_false h6]
  rfl
theorem or_bytes (a b:Nat) (ha:a<256) (hb:b<256):bits BinOp.or IntKind.u8 (a:Int) (b:Int)=((a|||b:Nat):Int):=by
 have h:(BitVec.ofInt 8 (a:Int)|||BitVec.ofInt 8 (b:Int)).toNat=a|||b:=by
  rw[BitVec.toNat_or,BitVec.toNat_ofInt,BitVec.toNat_ofInt]
  congr 1<;>omega
 have h2:a|||b<2^8:=Nat.or_lt_two_pow ha hb
 show IntKind.u8.wrap ((BitVec.ofInt 8 (a:Int)|||BitVec.ofInt 8 (b:Int)).toNat:Int)=_
 rw[h]
 rw[IntKind.wrap_u8]
 omega
end Go.Proofs.YthoiikkjjaldnaaDoor
namespace Go.Proofs.YthoiikkjjaldnaaDoor
set_option linter.unusedVariables false
set_option linter.unusedSimpArgs false
set_option maxRecDepth 100000
open Go.RowKit
def cel4 (l:List (List Int)):List Value:=l.flatMap ints
theorem cel4_get: ∀{l:List (List Int)} (_: ∀x∈l,x.length=4) (i j:Nat) (_:i<l.length) (_:j<4),(cel4 l)[4*i+j]?=(ints (l.getD i []))[j]?
 |[],_,i,j,hi,_=>by simp at hi
 |x::l,h,0,j,_,hj=>by
  have h2:=h x (List.mem_cons_self ..)
  unfold cel4
  rw[List.flatMap_cons,List.getElem?_append_left (by rw[ints_len];omega)]
  simp
 |x::l,h,i+1,j,hi,hj=>by
  have h2:=h x (List.mem_cons_self ..)
  have ih:=cel4_get (l:=l) (fun y hy=>h y (List.mem_cons_of_mem _ hy)) i j (by simpa using hi) hj
  unfold cel4 at*
  rw[List.flatMap_cons,List.getElem?_append_right (by rw[ints_len];omega),ints_len,h2,show 4*(i+1)+j-4=4*i+j by omega,ih]
  simp
def Own4 (w:World) (base:Nat) (A:Option Addr) (c:Nat) (l:List (List Int)):Prop:=w.ownsRow base 72 4 (.slice A l.length c) l.length (cel4 l)/\∀x∈l,x.length=4
section
variable {w w':World} {base c:Nat} {A:Option Addr} {l:List (List Int)}
theorem Own4.nil:Own4 w base none 0 []:=⟨World.ownsRow_nil w base _ _,fun x hx=>by simp at hx⟩
theorem Own4.lt (h:Own4 w base A c l): ∀a,A=some a->base<=a.block/\a.block<w.heap.size:=fun a ha=>by
 subst ha
 exact World.ownsRow.lt h.1 a.block rfl
theorem Own4.below (h:Own4 w base A c l) (hb:Below w.heap.size w w'):Own4 w' base A c l:=
 ⟨World.ownsRow.kept h.1 (row:=none) ⟨hb.os,hb.tape,hb.output,hb.size,fun k hk _=>hb.block k hk⟩ (by cases A<;>simp[Value.ownBlock]),h.2⟩
theorem Own4.kept {row:Option Nat} (h:Own4 w base A c l) (hg:w.grownBy w' row) (hne: ∀a,A=some a->some a.block≠row):Own4 w' base A c l:=
 ⟨World.ownsRow.kept h.1 hg (by
   cases A with
   |none=>exact .inl rfl
   |some a=>exact .inr (hne a rfl)),h.2⟩
theorem Own4.ne_ {g:Nat} (h:Own4 w base A c l) (hg:g<base): ∀ad,A=some ad->ad.block≠g:=fun ad e=>by
 have:=(h.lt ad e).1
 omega
theorem Own4.setRow {g:Nat} (h:Own4 w base A c l) (hg:g<base) (cs:Array Value):Own4 (w.setRow g cs) base A c l:=
 h.kept (row:=some g) ⟨rfl,rfl,rfl,by simp[World.setRow],fun i _ hn=>setRow_other w g i cs (by intro e;subst e;exact hn rfl)⟩ (fun ad e h2=>by
  injection h2 with h2
  exact h.ne_ hg ad e h2)
theorem Own4.setC {g:Nat} (h:Own4 w base A c l) (hg:g<base) (i:Nat) (v:Value):Own4 (w.setCell ⟨g,i,none⟩ v) base A c l:=
 h.kept (row:=some g) ⟨rfl,rfl,rfl,by simp[World.setCell],fun j _ hn=>Below.heap_setCell _ _ _ j (by simpa using hn)⟩ (fun ad e h2=>by
  injection h2 with h2
  exact h.ne_ hg ad e h2)
def Rs4 (w:World) (g:Nat) (l:List (List Int)):Prop:=g<w.heap.size/\∀i,i<l.length->w.rangeAt g (4*i) (ints (l.getD i []))
theorem Own4.reads (h:Own4 w base A c l) (hn:0<l.length): ∃g,A=some ⟨g,0,none⟩/\Rs4 w g l:=by
 have hr:=Reads.of_own h.1
 rcases h.1.2 with⟨_,h0⟩|⟨g,cap,cur,hv,_⟩
 ·omega
 ·injection hv with hA _ _
  subst hA
  obtain⟨ad,e,hb,hc⟩:=hr.2 hn
  injection e with e
  subst e
  refine⟨g,rfl,hb,fun i hi j v hv=>?_⟩
  have hj:j<4:=by
   have:=(List.getElem?_eq_some_iff.1 hv).1
   rw[ints_len] at this
   have h4:(l.getD i []).length=4:=by
    rw[List.getD_eq_getElem?_getD,List.getElem?_eq_getElem hi]
    exact h.2 _ (List.getElem_mem hi)
   omega
  have:=hc (4*i+j) v (by rw[cel4_get h.2 i j hi hj];exact hv)
  rwa [add_zero'] at this
theorem Rs4.below {g:Nat} (h:Rs4 w g l) (hb:Below w.heap.size w w'):Rs4 w' g l:=
 ⟨Nat.lt_of_lt_of_le h.1 hb.size,fun i hi j v hv=>(hb.cell (p:=⟨g,4*i+j,none⟩) h.1).trans (h.2 i hi j v hv)⟩
theorem Rs4.rowFar {g b:Nat} (h:Rs4 w g l) (hne:g≠b) (cs:Array Value):Rs4 (w.setRow b cs) g l:=
 ⟨by simpa[World.setRow] using h.1,fun i hi j v hv=>by
   have:=h.2 i hi j v hv
   unfold World.cell? at*
   rw[setRow_other w b g cs hne]
   exact this⟩
end
end Go.Proofs.YthoiikkjjaldnaaDoor
namespace Go.Proofs.YthoiikkjjaldnaaDoor
set_option linter.unusedVariables false
set_option linter.unusedSimpArgs false
set_option maxRecDepth 100000
open Go.RowKit
def pkB:List Int:=[2,6,6,5,5,4,4,3,3,6,3,4,4,4,4,4,5,6,3,4,4,4,4,4,5]
def pkT:List Int:=[2,63,63,31,31,15,15,7,7,59,7,9,9,9,9,15,31,59,7,9,9,9,9,15,31]
def fld (g i:Nat):List Value:=[.pointer (some ⟨g,i,none⟩),.int .i64 (pkB.getD i 0),.int .i64 (pkT.getD i 0)]
def fcells (g n:Nat):List Value:=(List.range n).flatMap (fld g)
theorem fcells_snoc (g n:Nat):fcells g n++fld g n=fcells g (n+1):=by
 unfold fcells
 rw[List.range_succ,List.flatMap_append]
 simp
theorem fcells_len (g n:Nat):(fcells g n).length=n*3:=by
 induction n with
 |zero=>rfl
 |succ n ih=>rw[<-fcells_snoc,List.length_append,ih];simp[fld];omega
theorem fcells_get (g:Nat) {n i j:Nat} (hi:i<n) (hj:j<3):(fcells g n)[3*i+j]?=(fld g i)[j]?:=by
 induction n with
 |zero=>omega
 |succ n ih=>
  rw[<-fcells_snoc]
  by_cases h:i<n
  ·rw[List.getElem?_append_left (by rw[fcells_len];omega),ih h]
  ·obtain rfl:i=n:=by omega
   rw[List.getElem?_append_right (by rw[fcells_len];omega),fcells_len]
   congr 1
   omega
theorem fld_one (g i:Nat): ∀u∈fld g i,u.oneCell'=true:=by
 intro u hu
 unfold fld at hu
 simp only[List.mem_cons,List.not_mem_nil,or_false] at hu
 rcases hu with rfl|rfl|rfl<;>rfl
theorem fld_lit (g:Nat) {i a:Nat} {b t:Int} (ha:a=i) (hb:pkB.getD i 0=b) (ht:pkT.getD i 0=t):[Value.pointer (some ⟨g,a,none⟩),.int .i64 b,.int .i64 t]=fld g i:=by
 unfold fld
 rw[hb,ht,ha]
theorem fcells_one (g n:Nat) {l:List Value} (h:l=fld g n):fcells g n++l=fcells g (n+1):=by rw[h];exact fcells_snoc g n
theorem fcells_two (g n:Nat) {l:List Value} (h:l=fld g n++fld g (n+1)):fcells g n++l=fcells g (n+2):=by rw[h,<-List.append_assoc,fcells_snoc,fcells_snoc]
theorem fcells_cell (g n:Nat) (u:Value) (hu:u∈fcells g n):u.oneCell'=true:=by
 unfold fcells at hu
 obtain⟨i,_,h⟩:=List.mem_flatMap.1 hu
 exact fld_one g i u h
def OwnF (w:World) (base:Nat) (A:Option Addr) (c g n:Nat):Prop:=w.ownsRow base 135 3 (.slice A n c) n (fcells g n)
theorem infoF:(Tryd.prog.info? 135).map (fun i=>(i.zero,i.size,i.bytes))=some (some (.agg #[.pointer none,.int .i64 0,.int .i64 0]),3,24):=by kernel_rfl
section
variable {w w':World} {base c g n:Nat} {A:Option Addr}
theorem OwnF.lt (h:OwnF w base A c g n): ∀a,A=some a->base<=a.block/\a.block<w.heap.size:=fun a ha=>by
 subst ha
 exact World.ownsRow.lt h a.block rfl
theorem OwnF.kept {row:Option Nat} (h:OwnF w base A c g n) (hg:w.grownBy w' row) (hne: ∀a,A=some a->some a.block≠row):OwnF w' base A c g n:=
 World.ownsRow.kept h hg (by
  cases A with
  |none=>exact .inl rfl
  |some a=>exact .inr (hne a rfl))
theorem OwnF.below (h:OwnF w base A c g n) (hb:Below w.heap.size w w'):OwnF w' base A c g n:=
 World.ownsRow.kept h (row:=none) ⟨hb.os,hb.tape,hb.output,hb.size,fun k hk _=>hb.block k hk⟩ (by cases A<;>simp[Value.ownBlock])
theorem OwnF.alloc (h:OwnF w base A c g n) (o:Obj):OwnF (w.alloc o) base A c g n:=World.ownsRow.alloc h o
theorem OwnF.drew (h:OwnF w base A c g n):OwnF w.drew base A c g n:=h
theorem OwnF.cap (h:OwnF w base A c g n):n<=c:=by
 rcases h.2 with⟨hv,hn⟩|⟨b,cap,cur,hv,hb,hg,h1,h2,_⟩
 ·omega
 ·injection hv with _ _ hc
  omega
theorem OwnF.at_ (h:OwnF w base A c g n) (hn:0<n): ∃b,A=some ⟨b,0,none⟩/\b<w.heap.size/\base<=b/\∀i,i<n->w.cell? ⟨b,3*i,none⟩=some (.pointer (some ⟨g,i,none⟩))/\w.cell? ⟨b,3*i+1,none⟩=some (.int .i64 (pkB.getD i 0))/\w.cell? ⟨b,3*i+2,none⟩=some (.int .i64 (pkT.getD i 0)):=by
 have hr:=Reads.of_own h
 have hlt:=h.lt
 rcases h.2 with⟨_,h0⟩|⟨b,cap,cur,hv,_⟩
 ·omega
 ·injection hv with hA _ _
  subst hA
  obtain⟨ad,e,hb,hc⟩:=hr.2 hn
  injection e with e
  subst e
  refine⟨b,rfl,hb,(hlt _ rfl).1,fun i hi=>?_⟩
  have f:=fun j (hj:j<3) v (hv:(fld g i)[j]?=some v)=>hc (3*i+j) v (by rw[fcells_get g hi hj];exact hv)
  have f0:=f 0 (by omega) _ rfl
  have f1:=f 1 (by omega) _ rfl
  have f2:=f 2 (by omega) _ rfl
  rw[add_zero'] at f0 f1 f2
  exact⟨f0,f1,f2⟩
end
theorem wpList_pushF {ops:Array Oper} {rest:List Oper} {o:Oper} {a:Act} {w:World} {Q:Exit->Act->World->Prop} (hgd:o.guard=none) (s x:Operand)
 (ho:o.op= .call {callee:= .builtin .append,args:= #[s,x],argTypes:= #[130,130]})
 (base:Nat) (A:Option Addr) (c g n m q:Nat) (hq:n+m=q) (hs:a.eval s= .slice A n c) (hown:OwnF w base A c g n)
 (h:Nat) (cs:Array Value) (hx:a.eval x= .slice (some ⟨h,0,none⟩) m m) (hy:Blk w h 135 cs) (hcs:fcells g n++cs.toList=fcells g (n+m)) (hlen:n+m<=1000000) (hbase:base<=w.heap.size)
 (k: ∀A' c' w',OwnF w' base A' c' g q->w.grownBy w' (A.map (·.block))->wpList Tryd.prog ops Q rest (a.put o.dst (.slice A' q c')) w'):wpList Tryd.prog ops Q (o::rest) a w:=by
 subst hq
 obtain⟨i0,hi,hz0,hz1,hz2⟩:=info_parts infoF
 have hcl:cs.toList.length=m*3:=by
  have h1:=congrArg List.length hcs
  rw[List.length_append,fcells_len,fcells_len] at h1
  omega
 refine wpList_plain hgd fun K hK=>?_
 obtain⟨v',w',hrun,h2,h3,h4'⟩:=run_append_any (P:=Tryd.prog) w base 130 o.type 135 i0 _ 3 24 Tryd.underlying130 hi hz0 hz1 hz2 rfl (by omega) _ _ _ hown (h+1) (some ⟨h,0,none⟩) m m cs.toList
  ⟨hcl,fun _=>⟨_,rfl,by show h<h+1;omega,fun j u hj=>by rw[add_zero',Blk.cell hy j];simpa using hj⟩⟩ (fun u hu=>fcells_cell g (n+m) u (by rw[<-hcs];exact List.mem_append_right _ hu)) (by unfold maxLen;omega) (by omega) hbase
 rw[hcs] at h2
 obtain⟨A',c',hv'⟩: ∃A' c',v'= .slice A' (n+m) c':=by
  rcases h2.2 with⟨hv,_⟩|⟨g',cap,cur,hv,_⟩
  ·rename_i h0
   exact⟨none,0,by rw[hv,h0]⟩
  ·exact⟨_,_,hv⟩
 subst hv'
 unfold Oper.wp execOp
 simp only[ho,resolve,invoke,builtin,Sem.run_bind,Sem.run_pure,Result.andThen_ok,List.map_toArray,List.map_cons,List.map_nil,hs,hx,hrun]
 exact hK _ _ (k A' c' w' h2 (by cases A<;>exact h3))
theorem step_pushF {ops:Array Oper} {o:Oper} {a:Act} {w:World} {K:Act->World->Prop} {Q:Exit->Act->World->Prop} {E:Prop} (hgd:o.guard=none) (s x:Operand)
 (ho:o.op= .call {callee:= .builtin .append,args:= #[s,x],argTypes:= #[130,130]})
 (base:Nat) (A:Option Addr) (c g n m q:Nat) (hq:n+m=q) (hs:a.eval s= .slice A n c) (hown:OwnF w base A c g n)
 (h:Nat) (cs:Array Value) (hx:a.eval x= .slice (some ⟨h,0,none⟩) m m) (hy:Blk w h 135 cs) (hcs:fcells g n++cs.toList=fcells g (n+m)) (hlen:n+m<=1000000) (hbase:base<=w.heap.size)
 (k: ∀A' c' w',OwnF w' base A' c' g q->w.grownBy w' (A.map (·.block))->K (a.put o.dst (.slice A' q c')) w'):if Region.wanted o (yielded ops a.tmps)=true then Oper.wp Tryd.prog o a w K Q else E:=by
 have hw:Region.wanted o (yielded ops a.tmps)=true:=by simp[Region.wanted,hgd]
 rw[if_pos hw]
 subst hq
 obtain⟨i0,hi,hz0,hz1,hz2⟩:=info_parts infoF
 have hcl:cs.toList.length=m*3:=by
  have h1:=congrArg List.length hcs
  rw[List.length_append,fcells_len,fcells_len] at h1
  omega
 obtain⟨v',w',hrun,h2,h3,h4'⟩:=run_append_any (P:=Tryd.prog) w base 130 o.type 135 i0 _ 3 24 Tryd.underlying130 hi hz0 hz1 hz2 rfl (by omega) _ _ _ hown (h+1) (some ⟨h,0,none⟩) m m cs.toList
  ⟨hcl,fun _=>⟨_,rfl,by show h<h+1;omega,fun j u hj=>by rw[add_zero',Blk.cell hy j];simpa using hj⟩⟩ (fun u hu=>fcells_cell g (n+m) u (by rw[<-hcs];exact List.mem_append_right _ hu)) (by unfold maxLen;omega) (by omega) hbase
 rw[hcs] at h2
 obtain⟨A',c',hv'⟩: ∃A' c',v'= .slice A' (n+m) c':=by
  rcases h2.2 with⟨hv,_⟩|⟨g',cap,cur,hv,_⟩
  ·rename_i h0
   exact⟨none,0,by rw[hv,h0]⟩
  ·exact⟨_,_,hv⟩
 subst hv'
 unfold Oper.wp execOp
 simp only[ho,resolve,invoke,builtin,Sem.run_bind,Sem.run_pure,Result.andThen_ok,List.map_toArray,List.map_cons,List.map_nil,hs,hx,hrun]
 exact(k A' c' w' h2 (by cases A<;>exact h3))
end Go.Proofs.YthoiikkjjaldnaaDoor
namespace Go.Proofs.YthoiikkjjaldnaaDoor
set_option linter.unusedVariables false
set_option linter.unusedSimpArgs false
set_option maxRecDepth 100000
open Go.RowKit
def sumY (xs:List Int):Nat->Int
 |0=>90
 |n+1=>sumY xs n+xs.getD n 0
def Byts (xs:List Int):Prop:= ∀i,0<=xs.getD i 0/\xs.getD i 0<=255
theorem sumY_range {xs:List Int} (h:Byts xs) (n:Nat):0<=sumY xs n/\sumY xs n<=90+255*(n:Int):=by
 induction n with
 |zero=>simp[sumY]
 |succ n ih=>
  have:=h n
  simp only[sumY]
  push_cast
  omega
def chk (xs:List Int):Int:=sumY xs xs.length%256
theorem packSum_any (A:Option Addr) (c n:Nat) (xs:List Int) (w:World) (hr:Rb w w.heap.size A xs) (hn:xs.length=n) (hl:n<=1000) (hx:Byts xs):
 Calls Tryd.prog 70 #[.slice A n c] w fun e w'=>e= .returned (.int .u8 (chk xs))/\w=w':=by
 have HC:=hid (show chk xs=sumY xs n%256 from by unfold chk;rw[hn])
 have HR:=hid hr
 have HN:=hid hn
 clear hr hn
 go_enter Tryd.func70,Tryd.ntmps70
 go_wp2
 go_loop [3,8] (fun sv iv=> ∃k:Nat,k<=n/\iv= .int .i64 k/\sv= .int .i64 (sumY xs k)) (fun _ iv=>n-(intOf iv).toNat)
 case atStart=>exact⟨0,by omega,rfl,rfl⟩
 case round=>
  obtain⟨k,hk,rfl,rfl⟩:=hrel
  have sr:=sumY_range hx k
  by_cases hlt:k<n
  ·obtain⟨ad,rfl,_,c0⟩:=HR.out.at_ (k:=k) (by rw[HN.out];exact hlt)
   have hb:=hx k
   have ST:=hid (show sumY xs (k+1)=sumY xs k+xs.getD k 0 from rfl)
   generalize xs.getD k 0=x at*
   generalize sumY xs k=s at*
   have k0:(0:Int)<=k:=by omega
   have kn:(k:Int)<n:=by omega
   have hw1:IntKind.i64.wrap x=x:=by rw[IntKind.wrap_i64];omega
   have hw2:IntKind.i64.wrap (s+x)=s+x:=by rw[IntKind.wrap_i64];omega
   go_wp2
   refine⟨⟨k+1,by omega,by go_num,by rw[ST.out]⟩,?_⟩
   simp[intOf]<;>omega
  ·obtain rfl:k=n:=by omega
   generalize sumY xs k=s at*
   have hw:IntKind.u8.wrap s=s%256:=IntKind.wrap_u8 s
   go_wp2
   go_ret
   exact⟨by rw[HC.out];rfl,rfl⟩
end Go.Proofs.YthoiikkjjaldnaaDoor
namespace Go.Proofs.YthoiikkjjaldnaaDoor
set_option linter.unusedVariables false
set_option linter.unusedSimpArgs false
set_option maxRecDepth 100000
open Go.Shelf
def lays264_ren:Go.Shelf.Ren:=⟨fun|264=>98|n=>n,fun|53=>155|46=>106|n=>n,fun|n=>n⟩
theorem lays264:Go.Proofs.Lays.n264 Tryd.prog lays264_ren:={
 mixed:=by kernel_rfl
 f264:=Tryd.func98.trans (congrArg some (by kernel_rfl))
 t46:=Tryd.underlying106
 a46:=Tryd.isAgg106
 z46:=Tryd.sizeOf106
 v46:=Tryd.zeroValue106
 t53:=Tryd.underlying155
 a53:=Tryd.isAgg155
 z53:=Tryd.sizeOf155
 v53:=Tryd.zeroValue155}
theorem Mul64_any (x y:Nat) (hx:x<18446744073709551616) (hy:y<18446744073709551616) (w:World):
 Calls Tryd.prog 98 #[.int .u64 x,.int .u64 y] w fun e w'=>e= .returned (.tuple #[.int .u64 ((x*y/18446744073709551616:Nat):Int),.int .u64 ((x*y%18446744073709551616:Nat):Int)])/\w'=w:=
 Any.bits_Mul64 lays264 x y hx hy w
end Go.Proofs.YthoiikkjjaldnaaDoor
namespace Go.Proofs.YthoiikkjjaldnaaDoor
set_option linter.unusedVariables false
set_option linter.unusedSimpArgs false
set_option maxRecDepth 100000
def betterB (c e d f:Int):Bool:=if e<=0 then false else if f<=0 then true else decide (max d 0*max d 0*e<max c 0*max c 0*f)
theorem better_no {c e d f:Int} (h:e<=0):betterB c e d f=false:=by unfold betterB;rw[if_pos h]
theorem better_yes {c e d f:Int} (h:0<e) (h2:f<=0):betterB c e d f=true:=by unfold betterB;rw[if_neg (by omega),if_pos h2]
theorem better_cmp {c e d f:Int} (h:0<e) (h2:0<f):betterB c e d f=decide (max d 0*max d 0*e<max c 0*max c 0*f):=by unfold betterB;rw[if_neg (by omega),if_neg (by omega)]
def dg (n k:Nat):Nat:=if k=0 then n/340282366920938463463374607431768211456 else if k=1 then n/18446744073709551616%18446744073709551616 else n%18446744073709551616
theorem dg0 (n:Nat):dg n 0=n/340282366920938463463374607431768211456:=rfl
theorem dg1 (n:Nat):dg n 1=n/18446744073709551616%18446744073709551616:=rfl
theorem dg2 (n:Nat):dg n 2=n%18446744073709551616:=rfl
theorem dg_cmp (x y:Nat):
 (dg x 0≠dg y 0->(dg y 0<dg x 0↔y<x))/\(dg x 0=dg y 0->dg x 1≠dg y 1->(dg y 1<dg x 1↔y<x))/\
 (dg x 0=dg y 0->dg x 1=dg y 1->dg x 2≠dg y 2->(dg y 2<dg x 2↔y<x))/\(dg x 0=dg y 0->dg x 1=dg y 1->dg x 2=dg y 2->x=y):=by
 simp only[dg0,dg1,dg2]
 refine⟨?_,?_,?_,?_⟩<;>omega
end Go.Proofs.YthoiikkjjaldnaaDoor
