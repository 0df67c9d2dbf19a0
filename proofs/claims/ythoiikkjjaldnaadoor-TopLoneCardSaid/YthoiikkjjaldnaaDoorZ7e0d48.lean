/- Texts that the law rests on, laid together: Mem, Push, Row, Tabs, PushN, Byt. -/
import Derived.Test.YthoiikkjjaldnaaDoorRows
import Derived.WalkKit
import Derived.WalkLawsBesides
import Derived.Below
import Derived.Carry
import Derived.ChangeSlices
import Derived.SizedLaws
import Derived.Laws.OwnMore
import Derived.Laws.Rows
import Derived.Deep.AppendLies
import Derived.Deep.Draws
import Derived.Maps.AppendAt
import Derived.RegionTactic
import Derived.OwnWalk
import Derived.Laws.Tables
import Derived.Deep.WholeRow
import Derived.BigFrame
import Derived.Lib.LaidTab
import Derived.LaidMore
import Derived.MakeChecks
namespace Go.Proofs.YthoiikkjjaldnaaDoor
set_option linter.unusedVariables false
set_option linter.unusedSimpArgs false
set_option maxRecDepth 100000
open Go.RowKit
def ints (xs:List Int):List Value:=xs.map (Value.int .i64)
def agi (xs:List Int):Array Value:=(ints xs).toArray
theorem ints_len (xs:List Int):(ints xs).length=xs.length:=by simp[ints]
theorem agi_size (xs:List Int):(agi xs).size=xs.length:=by simp[agi,ints]
theorem ints_get (xs:List Int) (k:Nat) (h:k<xs.length):(ints xs)[k]?=some (.int .i64 (xs.getD k 0)):=by
 simp[ints,h]
theorem agi_get (xs:List Int) (k:Nat) (h:k<xs.length):(agi xs)[k]?=some (.int .i64 (xs.getD k 0)):=by
 simp[agi,ints,h]
theorem agi_set (xs:List Int) (k:Nat) (v:Int):(agi xs).setIfInBounds k (.int .i64 v)=agi (xs.set k v):=by
 simp[agi,ints,List.map_set]
theorem ints_one (xs:List Int): ∀u∈ints xs,u.oneCell'=true:=ints_oneCell .i64 xs
theorem ints_append (xs ys:List Int):ints xs++ints ys=ints (xs++ys):=by simp[ints]
def W64 (xs:List Int):Prop:= ∀x∈xs,-9223372036854775808<=x/\x<=9223372036854775807
theorem W64.at_ {xs:List Int} (h:W64 xs) (k:Nat): -9223372036854775808<=xs.getD k 0/\xs.getD k 0<=9223372036854775807:=by
 rw[List.getD_eq_getElem?_getD]
 cases hk:xs[k]? with
 |none=>simp
 |some x=>simpa using h x (List.mem_of_getElem? hk)
theorem block_of_add (a:Addr) (n:Nat):(a.add n).block=a.block:=by unfold Addr.add;split<;>rfl
theorem add_of_add (a:Addr) (i j:Nat):(a.add i).add j=a.add (i+j):=by
 unfold Addr.add
 by_cases hi:i=0<;>by_cases hj:j=0<;>simp[hi,hj,Nat.add_assoc]
theorem add_zero' (g i:Nat):(⟨g,0,none⟩:Addr).add i=⟨g,i,none⟩:=by
 unfold Addr.add;split<;>simp_all
def Reads (w:World) (B size:Nat) (A:Option Addr) (n:Nat) (xs:List Value):Prop:=
 xs.length=n*size/\(0<n->∃ad,A=some ad/\ad.block<B/\∀j u,xs[j]?=some u->w.cell? (ad.add j)=some u)
section
variable {w w':World} {B B' size n:Nat} {A:Option Addr} {xs:List Value}
theorem Reads.none_:Reads w B size A 0 []:=⟨by simp,fun h=>absurd h (by omega)⟩
theorem Reads.keep (h:Reads w B size A n xs) (hk: ∀p:Addr,p.block<B->w'.cell? p=w.cell? p):Reads w' B size A n xs:=
 ⟨h.1,fun hn=>by
   obtain⟨ad,e,hb,hc⟩:=h.2 hn
   exact⟨ad,e,hb,fun j u hu=>(hk _ (by rw[block_of_add];exact hb)).trans (hc j u hu)⟩⟩
theorem Reads.more (h:Reads w B size A n xs) (hB:B<=B'):Reads w B' size A n xs:=
 ⟨h.1,fun hn=>by
   obtain⟨ad,e,hb,hc⟩:=h.2 hn
   exact⟨ad,e,by omega,hc⟩⟩
theorem Reads.below (h:Reads w B size A n xs) (hb:Below B w w'):Reads w' B size A n xs:=h.keep fun _ hp=>hb.cell hp
theorem Reads.cut (h:Reads w B size A n xs) {k cap:Nat} (hk:k<=n) (hc:n<=cap):
 Reads w B size (if cap=k then A else A.map (·.add (k*size))) (n-k) (xs.drop (k*size)):=by
 refine⟨by rw[List.length_drop,h.1,Nat.sub_mul],fun hn=>?_⟩
 obtain⟨ad,rfl,hb,hcell⟩:=h.2 (by omega)
 rw[if_neg (by omega)]
 refine⟨ad.add (k*size),rfl,by rw[block_of_add];exact hb,fun j u hu=>?_⟩
 rw[add_of_add]
 exact hcell _ u (by rw[<-hu,List.getElem?_drop])
theorem Reads.take (h:Reads w B size A n xs) {k:Nat} (hk:k<=n):Reads w B size A k (xs.take (k*size)):=by
 have h1:=h.1
 refine⟨?_,fun hn=>?_⟩
 ·rw[List.length_take,h1];exact Nat.min_eq_left (Nat.mul_le_mul_right _ hk)
 ·obtain⟨ad,rfl,hb,hcell⟩:=h.2 (by omega)
  refine⟨ad,rfl,hb,fun j u hu=>hcell j u ?_⟩
  rw[List.getElem?_take] at hu
  split at hu
  ·exact hu
  ·cases hu
theorem Reads.of_own {base:Nat} {e:TypeId} {c:Nat} (h:w.ownsRow base e size (.slice A n c) n xs):Reads w w.heap.size size A n xs:=by
 refine⟨h.1,fun hn=>?_⟩
 obtain⟨g,cap,hv,_,hlt⟩:=h.form hn
 have hA:A=some ⟨g,0,none⟩:=by injection hv
 subst hA
 exact⟨_,rfl,hlt,h.cells (g:=g) rfl⟩
end
def Rs (w:World) (B:Nat) (A:Option Addr) (xs:List Int):Prop:=Reads w B 1 A xs.length (ints xs)
section
variable {w w':World} {B B':Nat} {A:Option Addr} {xs:List Int}
theorem Rs.at_ {k:Nat} (h:Rs w B A xs) (hk:k<xs.length): ∃ad,A=some ad/\ad.block<B/\w.cell? (ad.add k)=some (.int .i64 (xs.getD k 0)):=by
 obtain⟨ad,e,hb,hc⟩:=h.2 (by omega)
 exact⟨ad,e,hb,hc k _ (ints_get xs k hk)⟩
theorem Rs.ad (h:Rs w B A xs) (hk:0<xs.length): ∃ad,A=some ad/\ad.block<B/\∀k,k<xs.length->w.cell? (ad.add k)=some (.int .i64 (xs.getD k 0)):=by
 obtain⟨ad,e,hb,hc⟩:=h.2 hk
 exact⟨ad,e,hb,fun k hk=>hc k _ (ints_get xs k hk)⟩
theorem Rs.below (h:Rs w B A xs) (hb:Below B w w'):Rs w' B A xs:=Reads.below h hb
theorem Rs.below' (h:Rs w B A xs) (hB:B<=B') (hb:Below B' w w'):Rs w' B A xs:=Reads.below h (hb.mono hB)
theorem Rs.more (h:Rs w B A xs) (hB:B<=B'):Rs w B' A xs:=Reads.more h hB
theorem Rs.nil:Rs w B A []:=Reads.none_
theorem Rs.drop (h:Rs w B A xs) {k cap:Nat} (hk:k<=xs.length) (hc:xs.length<=cap):Rs w B (if cap=k then A else A.map (·.add k)) (xs.drop k):=by
 have h1:=Reads.cut h hk hc
 simp only[Nat.mul_one] at h1
 unfold Rs
 rw[List.length_drop]
 have e:ints (xs.drop k)=(ints xs).drop k:=by simp[ints,List.map_drop]
 rw[e];exact h1
theorem Rs.take (h:Rs w B A xs) {k:Nat} (hk:k<=xs.length):Rs w B A (xs.take k):=by
 have h1:=Reads.take h hk
 simp only[Nat.mul_one] at h1
 unfold Rs
 rw[List.length_take,Nat.min_eq_left hk]
 have e:ints (xs.take k)=(ints xs).take k:=by simp[ints,List.map_take]
 rw[e];exact h1
end
def Own (w:World) (base:Nat) (A:Option Addr) (c:Nat) (xs:List Int):Prop:=w.ownsRow base 3 1 (.slice A xs.length c) xs.length (ints xs)
section
variable {w w':World} {base base':Nat} {A:Option Addr} {c:Nat} {xs:List Int}
theorem Own.reads (h:Own w base A c xs):Rs w w.heap.size A xs:=Reads.of_own h
theorem Own.nil:Own w base none 0 []:=World.ownsRow_nil w base _ _
theorem Own.lt (h:Own w base A c xs): ∀a,A=some a->base<=a.block/\a.block<w.heap.size:=fun a ha=>by
 subst ha
 exact World.ownsRow.lt h a.block rfl
theorem Own.cap (h:Own w base A c xs):xs.length<=c/\c<=9223372036854775807:=by
 rcases h.2 with⟨hv,hn⟩|⟨g,cap,cur,hv,hb,hg,h1,h2,_⟩
 ·injection hv with _ _ hc
  omega
 ·injection hv with _ _ hc
  unfold maxLen at h2
  omega
theorem Own.below (h:Own w base A c xs) (hb:Below w.heap.size w w'):Own w' base A c xs:=
 World.ownsRow.kept h (row:=none) ⟨hb.os,hb.tape,hb.output,hb.size,fun k hk _=>hb.block k hk⟩ (by cases A<;>simp[Value.ownBlock])
theorem Own.kept {row:Option Nat} (h:Own w base A c xs) (hg:w.grownBy w' row) (hne: ∀a,A=some a->some a.block≠row):Own w' base A c xs:=
 World.ownsRow.kept h hg (by
  cases A with
  |none=>exact .inl rfl
  |some a=>exact .inr (hne a rfl))
theorem Own.more (h:Own w base A c xs) (hb:base'<=base):Own w base' A c xs:=by
 refine⟨h.1,?_⟩
 rcases h.2 with hn|⟨g,cap,cur,hv,hbb,rest⟩
 ·exact .inl hn
 ·exact .inr ⟨g,cap,cur,hv,by omega,rest⟩
theorem Own.alloc (h:Own w base A c xs) (o:Obj):Own (w.alloc o) base A c xs:=World.ownsRow.alloc h o
theorem Own.drew (h:Own w base A c xs):Own w.drew base A c xs:=h
theorem Own.drewN (h:Own w base A c xs) (n:Nat):Own (w.drewN n) base A c xs:=h
theorem Own.form (h:Own w base A c xs) (hn:0<xs.length): ∃g cap cur,A=some ⟨g,0,none⟩/\base<=g/\g<w.heap.size/\w.heap[g]?=some (.cells cur 3 (0,0))/\c=cap/\xs.length<=cap/\cap<=maxLen/\cur.size=cap/\cur.toList.take xs.length=ints xs:=by
 rcases h.2 with⟨_,h0⟩|⟨g,cap,cur,hv,hb,hg,h1,h2,h3,h4⟩
 ·omega
 ·injection hv with hA _ hc
  exact⟨g,cap,cur,hA,hb,(Array.getElem?_eq_some_iff.1 hg).1,hg,hc,h1,h2,by simpa using h3,by simpa using h4⟩
theorem Own.set_ {g:Nat} (h:Own w base (some ⟨g,0,none⟩) c xs) (k:Nat) (hk:k<xs.length) (x:Int):Own (w.setCell ⟨g,k,none⟩ (.int .i64 x)) base (some ⟨g,0,none⟩) c (xs.set k x):=by
 have h1:=World.ownsRow.stored (g:=g) (cap:=c) h k (.int .i64 x)
 unfold Own
 rw[List.length_set]
 have e:ints (xs.set k x)=(ints xs).set k (.int .i64 x):=by simp[ints,List.map_set]
 rw[e];exact h1.1
theorem Own.cell {g:Nat} (h:Own w base (some ⟨g,0,none⟩) c xs) (k:Nat) (hk:k<xs.length):w.cell? ⟨g,k,none⟩=some (.int .i64 (xs.getD k 0)):=by
 have h1:=World.ownsRow.cellAt (g:=g) (cap:=c) h k (by omega)
 rw[h1];exact ints_get xs k hk
theorem Own.frozen {g:Nat} (h:Own w base (some ⟨g,0,none⟩) c xs) (k:Nat):w.frozen? ⟨g,k,none⟩=false:=World.ownsRow.frozenAt h k
end
def Blk (w:World) (g:Nat) (t:TypeId) (cs:Array Value):Prop:=w.heap[g]?=some (.cells cs t (0,0))
section
variable {w w':World} {g:Nat} {t:TypeId} {cs:Array Value}
theorem Blk.lt (h:Blk w g t cs):g<w.heap.size:=by
 rcases Nat.lt_or_ge g w.heap.size with hlt|hge
 ·exact hlt
 ·unfold Blk at h;rw[Array.getElem?_eq_none hge] at h;cases h
theorem Blk.cell (h:Blk w g t cs) (i:Nat):w.cell? ⟨g,i,none⟩=cs[i]?:=cell_of_row w g i cs t (0,0) h
theorem Blk.frozen (h:Blk w g t cs) (i:Nat):w.frozen? ⟨g,i,none⟩=false:=by
 unfold Blk at h
 simp[World.frozen?,h]
theorem Blk.new (w:World) (t:TypeId) (cs:Array Value):Blk (w.alloc (.cells cs t)) w.heap.size t cs:=heap_alloc_new w _
theorem Blk.drew (h:Blk w g t cs):Blk w.drew g t cs:=h
theorem Blk.drewN (h:Blk w g t cs) (n:Nat):Blk (w.drewN n) g t cs:=h
theorem Blk.alloc (h:Blk w g t cs) (o:Obj):Blk (w.alloc o) g t cs:=(Below.heap_alloc w o g h.lt).trans h
theorem Blk.set_ (h:Blk w g t cs) (i:Nat) (u:Value):Blk (w.setCell ⟨g,i,none⟩ u) g t (cs.setIfInBounds i u):=by
 unfold Blk at h|-
 simp[World.setCell,Array.getElem?_modify,h]
theorem Blk.far (h:Blk w g t cs) {p:Addr} (hp:g≠p.block) (u:Value):Blk (w.setCell p u) g t cs:=(Below.heap_setCell w p u g hp).trans h
theorem Blk.below {B:Nat} (h:Blk w g t cs) (hb:Below B w w') (hg:g<B):Blk w' g t cs:=(hb.block g hg).trans h
theorem Blk.below' (h:Blk w g t cs) (hb:Below w.heap.size w w'):Blk w' g t cs:=(hb.block g h.lt).trans h
theorem Blk.grown {row:Option Nat} (h:Blk w g t cs) (hb:w.grownBy w' row) (hg:some g≠row):Blk w' g t cs:=(hb.block g h.lt hg).trans h
theorem Blk.ne_ {g':Nat} {t':TypeId} {cs':Array Value} (h:Blk w g t cs) (h':Blk w g' t' cs') (hne:t≠t'):g≠g':=by
 rintro rfl
 unfold Blk at h h'
 rw[h] at h'
 injection h' with h'
 injection h' with _ ht
 exact hne ht
end
def IB (w:World) (g:Nat) (t:TypeId) (xs:List Int):Prop:=Blk w g t (agi xs)
section
variable {w w':World} {g:Nat} {t:TypeId} {xs:List Int}
theorem IB.cell (h:IB w g t xs) (i:Nat) (hi:i<xs.length):w.cell? ⟨g,i,none⟩=some (.int .i64 (xs.getD i 0)):=(Blk.cell h i).trans (agi_get xs i hi)
theorem IB.set_ (h:IB w g t xs) (i:Nat) (x:Int):IB (w.setCell ⟨g,i,none⟩ (.int .i64 x)) g t (xs.set i x):=by
 have h1:=Blk.set_ h i (.int .i64 x)
 rw[agi_set] at h1
 exact h1
theorem IB.new (w:World) (t:TypeId) (xs:List Int):IB (w.alloc (.cells (agi xs) t)) w.heap.size t xs:=Blk.new w t _
end
theorem get_set_same (xs:List Int) (k:Nat) (v:Int) (h:k<xs.length):(xs.set k v).getD k 0=v:=by simp[h]
theorem get_set_other (xs:List Int) {k j:Nat} (v:Int) (h:k≠j):(xs.set k v).getD j 0=xs.getD j 0:=by
 simp[h]
theorem list_ext {xs ys:List Int} (hl:xs.length=ys.length) (h: ∀k,k<xs.length->xs.getD k 0=ys.getD k 0):xs=ys:=by
 apply List.ext_getElem hl
 intro k h1 h2
 have:=h k h1
 simpa[List.getD_eq_getElem?_getD,h1,h2] using this
section
variable {P:Program} {w:World} {r:Reach} {b:Nat} {t:TypeId} {v:Value}
theorem range_i64 {n:Int} (h:IntKind.i64.has n): -9223372036854775808<=n/\n<=9223372036854775807:=by
 have h1:=h.1
 have h2:=h.2
 simp[IntKind.min,IntKind.max,IntKind.signed,IntKind.bits] at h1 h2
 omega
theorem cell_int {k:IntKind} (ht:P.underlying t=some (.int k)) (h:Cell.okWide P w r b t v): ∃n,v= .int k n/\k.has n:=by
 unfold Cell.okWide at h
 simp only[ht] at h
 unfold Cell.ok at h
 simp only[ht] at h
 cases v<;>simp_all
theorem value_int {k:IntKind} (ht:P.underlying t=some (.int k)) (h:Value.okWide P w r b t v): ∃n,v= .int k n/\k.has n:=by
 unfold Value.okWide at h
 simp only[ht] at h
 exact cell_int ht h
def isAggD:TypeDesc->Bool
 | .struct _=>true
 | .array _ _=>true
 |_=>false
end
section
open Go.ChangeShapes
variable {H:Type} {enc:TypeId×Value->H} {P:Program} {w:World}
theorem value_slice {P:Program} {w:World} {r:Reach} {b:Nat} {t e:TypeId} {v:Value} (ht:P.underlying t=some (.slice e)) (h:Value.okWide P w r b t v): ∃A n c,v= .slice A n c:=by
 unfold Value.okWide at h
 simp only[ht] at h
 unfold Cell.okWide at h
 simp only[ht] at h
 unfold Cell.ok at h
 simp only[ht] at h
 split at h<;>simp_all
theorem argsStay {W W':World} (hl:laidOutB P=true) (hb:Below W.heap.size W W'): ∀{ts:List TypeId} {vs:List Value} {ds:List (DataW H)} {ps:List MemPlace},(∀t∈ts,P.readableRec t=true/\t<P.types.size)->
 DataW.TrodAll enc P W 0 (fun _=>true) true ts vs ds ps->(∀x∈ps,x.block<W.heap.size)->DataW.TrodAll enc P W' 0 (fun b=>decide (b<W.heap.size)) true ts vs ds ps
 |[],[],[],_,_,h,_=>h
 |t::_,_::_,_::_,_,hT,⟨p,q,h1,h2,e⟩,hs=>
  ⟨p,q,Below.trod hl (hT t (List.mem_cons.2 (Or.inl rfl))).1 (hT t (List.mem_cons.2 (Or.inl rfl))).2 h1 hb (fun x hx=>hs x (by rw[e];exact List.mem_append_left _ hx)),
    argsStay hl hb (fun t ht=>hT t (List.mem_cons.2 (Or.inr ht))) h2 (fun x hx=>hs x (by rw[e];exact List.mem_append_right _ hx)),e⟩
end
end Go.Proofs.YthoiikkjjaldnaaDoor
namespace Go.Proofs.YthoiikkjjaldnaaDoor
set_option linter.unusedVariables false
set_option linter.unusedSimpArgs false
set_option maxRecDepth 100000
open Go.RowKit
theorem infoI:(Tryd.prog.info? 3).map (fun i=>(i.zero,i.size,i.bytes))=some (some (.int .i64 0),1,8):=by kernel_rfl
section
variable {P:Program} (w:World)
theorem run_append_of_nil (base:Nat) (t ty e:TypeId) (i:TypeInfo) (size:Nat) (ht:P.underlying t=some (.slice e)) (hi:P.info? e=some i)
 (v:Value) (n:Nat) (xs:List Value) (hown:w.ownsRow base e size v n xs) (c:Nat):(Builtin.append_ #[t,t] ty #[v,.slice none 0 c]).run P w= .ok v w:=by
 rcases hown.2 with⟨rfl,rfl⟩|⟨g,cap,cur,rfl,_,_,hnc,_⟩
 ·simp[Builtin.append_,run_underlying ht,sizeOf,typeInfo,hi,Builtin.lenOf,Builtin.firstCells]
 ·simp[Builtin.append_,run_underlying ht,sizeOf,typeInfo,hi,Builtin.lenOf,Builtin.firstCells,hnc,storeCells]
theorem run_append_any (base:Nat) (t ty e:TypeId) (i:TypeInfo) (z:Value) (size bytes:Nat) (ht:P.underlying t=some (.slice e)) (hi:P.info? e=some i) (hz:i.zero=some z)
 (hsize:i.size=size) (hby:i.bytes=bytes) (hzs:z.cells.size=size) (hsz:0<size)
 (v:Value) (n:Nat) (xs:List Value) (hown:w.ownsRow base e size v n xs)
 (B:Nat) (A:Option Addr) (m c:Nat) (news:List Value) (hr:Reads w B size A m news) (h1: ∀u∈news,u.oneCell'=true)
 (h63:n+m<=maxLen) (hbytes:(n+m)*bytes<=140737488355328) (hbase:base<=w.heap.size):
 ∃v' w',(Builtin.append_ #[t,t] ty #[v,.slice A m c]).run P w= .ok v' w'/\w'.ownsRow base e size v' (n+m) (xs++news)/\w.grownBy w' v.ownBlock/\
  (v'.ownBlock=v.ownBlock\/v'.ownBlock=some w.heap.size):=by
 rcases A with _|ad
 ·have hm:m=0:=by
   rcases Nat.eq_zero_or_pos m with h0|h0
   ·exact h0
   ·obtain⟨ad,h,_⟩:=hr.2 h0
    cases h
  subst hm
  have hn:news=[]:=List.eq_nil_of_length_eq_zero (by simpa using hr.1)
  subst hn
  exact⟨v,w,run_append_of_nil w base t ty e i size ht hi v n xs hown c,by simpa using hown,World.grownBy.refl w _,.inl rfl⟩
 ·have hcells: ∀j u,news[j]?=some u->w.cell? (ad.add j)=some u:=by
   intro j u hu
   rcases Nat.eq_zero_or_pos m with h0|h0
   ·subst h0
    have hn:news=[]:=List.eq_nil_of_length_eq_zero (by simpa using hr.1)
    subst hn
    simp at hu
   ·obtain⟨ad',h,_,hc⟩:=hr.2 h0
    injection h with h
    subst h
    exact hc j u hu
  obtain⟨v',w',hrun,h2,h3,_,h5⟩:=run_append_own_at (P:=P) w base t ty e i z size bytes ht hi hz hsize hby hzs hsz v n xs hown ad m c news hr.1 hcells h1 h63 hbytes hbase
  exact⟨v',w',hrun,h2,h3,h5⟩
end
theorem Own.head {w:World} {base c:Nat} {A:Option Addr} {xs:List Int} (h:Own w base A c xs) (hn:0<xs.length): ∃g,A=some ⟨g,0,none⟩/\base<=g/\g<w.heap.size:=by
 obtain⟨g,_,_,hA,h1,h2,_⟩:=h.form hn
 exact⟨g,hA,h1,h2⟩
theorem cell_new (w:World) (v:Value) (t:TypeId):(w.alloc (.cells #[v] t)).cell? ⟨w.heap.size,0,none⟩=some v:=by
 rw[Blk.cell (Blk.new w t #[v]) 0];rfl
theorem own_form {w:World} {base n:Nat} {v:Value} {vs:List Value} {ys:List Int} (h:w.ownsRow base 3 1 v n vs) (hv:vs=ints ys): ∃A c,v= .slice A ys.length c/\Own w base A c ys:=by
 subst hv
 have hl:ys.length=n:=by have:=h.1;simpa[ints] using this
 subst hl
 rcases h.2 with⟨hv,hn⟩|⟨g,cap,cur,hv,rest⟩
 ·subst hv
  refine⟨none,0,by rw[hn],?_⟩
  unfold Own
  rw[hn] at h|-
  exact h
 ·subst hv
  exact⟨_,_,rfl,h⟩
theorem wpList_cat {ops:Array Oper} {rest:List Oper} {o:Oper} {a:Act} {w:World} {Q:Exit->Act->World->Prop} (hgd:o.guard=none) (s x:Operand)
 (ho:o.op= .call {callee:= .builtin .append,args:= #[s,x],argTypes:= #[36,36]})
 (base:Nat) (A:Option Addr) (c:Nat) (xs:List Int) (hs:a.eval s= .slice A xs.length c) (hown:Own w base A c xs)
 (B:Nat) (A2:Option Addr) (c2:Nat) (ys:List Int) (hx:a.eval x= .slice A2 ys.length c2) (hr:Rs w B A2 ys) (hlen:xs.length+ys.length<=17592186044416) (hbase:base<=w.heap.size)
 (h: ∀A' c' w',Own w' base A' c' (xs++ys)->w.grownBy w' (A.map (·.block))->(A'=A\/∃g,A'=some ⟨g,0,none⟩/\w.heap.size<=g)->wpList Tryd.prog ops Q rest (a.put o.dst (.slice A' (xs.length+ys.length) c')) w'):wpList Tryd.prog ops Q (o::rest) a w:=by
 obtain⟨i0,hi,hz0,hz1,hz2⟩:=info_parts infoI
 refine wpList_plain hgd fun K hK=>?_
 obtain⟨v',w',hrun,h2,h3,h4⟩:=run_append_any (P:=Tryd.prog) w base 36 o.type 3 i0 (.int .i64 0) 1 8 Tryd.underlying36 hi hz0 hz1 hz2 rfl (by omega) _ _ _ hown B A2 ys.length c2 (ints ys) hr (ints_one ys) (by unfold maxLen;omega) (by omega) hbase
 have hlt:=fun a ha=>Own.lt hown a ha
 obtain⟨A',c',rfl,hO⟩:=own_form h2 (ints_append xs ys)
 have hl:(xs++ys).length=xs.length+ys.length:=by simp
 unfold Oper.wp execOp
 simp only[ho,resolve,invoke,builtin,Sem.run_bind,Sem.run_pure,Result.andThen_ok,List.map_toArray,List.map_cons,List.map_nil,hs,hx,hrun]
 refine hK _ _ ?_
 rw[hl]
 refine h A' c' w' hO (by cases A<;>exact h3) ?_
 have hn:=hO.2
 rcases hn with⟨hv,h0⟩|⟨g,cap,cur,hv,_⟩
 ·injection hv with hA _ _
  subst hA
  left
  cases A with
  |none=>rfl
  |some ad=>
   rcases h4 with h4|h4
   ·simp[Value.ownBlock] at h4
   ·simp[Value.ownBlock] at h4
 ·injection hv with hA _ _
  subst hA
  rcases h4 with h4|h4
  ·left
   cases A with
   |none=>simp[Value.ownBlock] at h4
   |some ad=>
    simp[Value.ownBlock] at h4
    rcases hown.2 with⟨hv2,_⟩|⟨g2,cap2,cur2,hv2,_⟩
    ·cases hv2
    ·injection hv2 with hA2 _ _
     injection hA2 with hA2
     subst hA2
     simp at h4
     subst h4
     rfl
  ·right
   simp[Value.ownBlock] at h4
   exact⟨g,rfl,by omega⟩
theorem wpList_push {ops:Array Oper} {rest:List Oper} {o:Oper} {a:Act} {w:World} {Q:Exit->Act->World->Prop} (hgd:o.guard=none) (s x:Operand)
 (ho:o.op= .call {callee:= .builtin .append,args:= #[s,x],argTypes:= #[36,36]})
 (base:Nat) (A:Option Addr) (c:Nat) (xs:List Int) (hs:a.eval s= .slice A xs.length c) (hown:Own w base A c xs)
 (ad:Addr) (y:Int) (hx:a.eval x= .slice (some ad) 1 1) (hc:w.cell? ad=some (.int .i64 y)) (hlen:xs.length+1<=17592186044416) (hbase:base<=w.heap.size)
 (h: ∀A' c' w',Own w' base A' c' (xs++[y])->w.grownBy w' (A.map (·.block))->(A'=A\/∃g,A'=some ⟨g,0,none⟩/\w.heap.size<=g)->wpList Tryd.prog ops Q rest (a.put o.dst (.slice A' (xs.length+1) c')) w'):wpList Tryd.prog ops Q (o::rest) a w:=
 wpList_cat hgd s x ho base A c xs hs hown (ad.block+1) (some ad) 1 [y] hx ⟨by simp[ints],fun _=>⟨ad,rfl,by omega,fun j u hj=>by
  match j,hj with
  |0,hj=>simp[ints] at hj;subst hj;have e:ad.add 0=ad:=by unfold Addr.add;simp
         rw[e];exact hc⟩⟩ hlen hbase h
end Go.Proofs.YthoiikkjjaldnaaDoor
namespace Go.Proofs.YthoiikkjjaldnaaDoor
set_option linter.unusedVariables false
set_option linter.unusedSimpArgs false
set_option maxRecDepth 100000
open Go.RowKit
theorem agi_one (xs:List Int):(agi xs).all (·.oneCell')=true:=by
 rw[Array.all_eq_true_iff_forall_mem]
 intro v hv
 exact ints_one xs v (by simpa[agi] using hv)
section
variable {w:World} {g:Nat} {t ty:TypeId} {xs ys:List Int} {d:TypeDesc} {n:Nat}
theorem IB.load (h:IB w g t xs) (hu:Tryd.prog.underlying ty=some d) (hd:isAggD d=true) (hi:(Tryd.prog.info? ty).map (·.size)=some n) (hl:xs.length=n):
 (Instr.loadAt ty (.pointer (some ⟨g,0,none⟩))).run Tryd.prog w= .ok (.agg (agi xs)) w:=by
 simp only[Instr.loadAt,Instr.sureAddr,Sem.run_bind,Sem.run_pure,Result.andThen]
 exact run_loadVar_row w g t ty (agi xs) (0,0) d h hu (by cases d<;>first|rfl|(simp[isAggD] at hd)) (by rw[hi,agi_size,hl])
theorem IB.store (h:IB w g t xs) (hi:(Tryd.prog.info? ty).map (·.size)=some n) (hl:xs.length=n) (hl2:ys.length=n):
 (Instr.storeAt ty (.pointer (some ⟨g,0,none⟩)) (.agg (agi ys))).run Tryd.prog w= .ok () (w.setRow g (agi ys)):=by
 simp only[Instr.storeAt,Instr.sureAddr,Sem.run_bind,Sem.run_pure,Result.andThen]
 exact run_storeVar_row w g t ty (agi xs) (agi ys) h (by rw[hi,agi_size,hl2]) (by rw[agi_size,agi_size,hl,hl2]) (agi_one ys)
theorem IB.setRow (h:IB w g t xs) (ys:List Int):IB (w.setRow g (agi ys)) g t ys:=setRow_heap w g _ _ t _ h
theorem Blk.rowFar {k:Nat} {cs c2:Array Value} (h:Blk w k t cs) (hne:k≠g):Blk (w.setRow g c2) k t cs:=(setRow_other w g k c2 hne).trans h
theorem below_setRow {B:Nat} {a:World} (h:Below B a w) (hg:B<=g) (cs:Array Value):Below B a (w.setRow g cs):=
 ⟨h.os,h.tape,h.output,by simpa using h.size,fun k hk=>(setRow_other w g k cs (by omega)).trans (h.block k hk)⟩
end
theorem results_row2 {fn:Func} {p q:Tmp} {ty:TypeId} (h:fn.results= #[.cell p ty,.tmp q]) (tmps:Array Value) (w:World) (g:Nat) (t:TypeId) (xs:List Int) (d:TypeDesc) (n:Nat)
 (hp:tmps.getD p undef= .pointer (some ⟨g,0,none⟩)) (hg:IB w g t xs) (hu:Tryd.prog.underlying ty=some d) (hd:isAggD d=true) (hi:(Tryd.prog.info? ty).map (·.size)=some n) (hl:xs.length=n):
 (results fn tmps).run Tryd.prog w= .ok (.tuple #[.agg (agi xs),tmps.getD q undef]) w:=by
 have hp':tmps[p]?.getD undef= .pointer (some ⟨g,0,none⟩):=by simpa using hp
 have hr:=run_loadVar_row (P:=Tryd.prog) w g t ty (agi xs) (0,0) d hg hu (by cases d<;>first|rfl|(simp[isAggD] at hd)) (by rw[hi,agi_size,hl])
 simp[results,h,hp',asAddr,hr]
theorem results_row3 {fn:Func} {p q r:Tmp} {ty:TypeId} (h:fn.results= #[.cell p ty,.tmp q,.tmp r]) (tmps:Array Value) (w:World) (g:Nat) (t:TypeId) (xs:List Int) (d:TypeDesc) (n:Nat)
 (hp:tmps.getD p undef= .pointer (some ⟨g,0,none⟩)) (hg:IB w g t xs) (hu:Tryd.prog.underlying ty=some d) (hd:isAggD d=true) (hi:(Tryd.prog.info? ty).map (·.size)=some n) (hl:xs.length=n):
 (results fn tmps).run Tryd.prog w= .ok (.tuple #[.agg (agi xs),tmps.getD q undef,tmps.getD r undef]) w:=by
 have hp':tmps[p]?.getD undef= .pointer (some ⟨g,0,none⟩):=by simpa using hp
 have hr:=run_loadVar_row (P:=Tryd.prog) w g t ty (agi xs) (0,0) d hg hu (by cases d<;>first|rfl|(simp[isAggD] at hd)) (by rw[hi,agi_size,hl])
 simp[results,h,hp',asAddr,hr]
theorem wpList_storeI {ops:Array Oper} {rest:List Oper} {o:Oper} {a:Act} {w:World} {Q:Exit->Act->World->Prop} (hgd:o.guard=none) (ty:TypeId) (x y:Operand) (ho:o.op= .store ty x y)
 (g:Nat) (t:TypeId) (xs ys:List Int) (n:Nat) (hx:a.eval x= .pointer (some ⟨g,0,none⟩)) (hy:a.eval y= .agg (agi ys)) (h:IB w g t xs)
 (hi:(Tryd.prog.info? ty).map (·.size)=some n) (hl:xs.length=n) (hl2:ys.length=n)
 (k:wpList Tryd.prog ops Q rest (a.put o.dst undef) (w.setRow g (agi ys))):wpList Tryd.prog ops Q (o::rest) a w:=
 wpList_store_row hgd ty x y ho g (agi ys) hx hy t (agi xs) h (by rw[hi,agi_size,hl2]) (by rw[agi_size,agi_size,hl,hl2]) (agi_one ys) k
theorem wpList_loadI {ops:Array Oper} {rest:List Oper} {o:Oper} {a:Act} {w:World} {Q:Exit->Act->World->Prop} (hw:Region.wanted o (yielded ops a.tmps)=true) (ty:TypeId) (x:Operand) (ho:o.op= .load ty x)
 (g:Nat) (t:TypeId) (xs:List Int) (n:Nat) (d:TypeDesc) (hx:a.eval x= .pointer (some ⟨g,0,none⟩)) (h:IB w g t xs) (hu:Tryd.prog.underlying ty=some d) (hd:isAggD d=true)
 (hi:(Tryd.prog.info? ty).map (·.size)=some n) (hl:xs.length=n)
 (k:wpList Tryd.prog ops Q rest (a.put o.dst (.agg (agi xs))) w):wpList Tryd.prog ops Q (o::rest) a w:=
 Go.BigFrame.wpList_want hw fun K hK=>wp_load_row ty x ho g hx t (agi xs) (0,0) d h hu (by cases d<;>first|rfl|(simp[isAggD] at hd)) (by rw[hi,agi_size,hl]) (hK _ _ k)
theorem run_index_agi {t:TypeId} {n:Nat} (ht:Tryd.prog.underlying t=some (.array n 3)) (xs:List Int) (hl:xs.length=n) (k:Nat) (hk:k<n) (w:World):
 (Instr.index t (.agg (agi xs)) (.int .i64 (k:Nat))).run Tryd.prog w= .ok (.int .i64 (xs.getD k 0)) w:=by
 have hs: ∀w,(sizeOf 3).run Tryd.prog w= .ok 1 w:=fun w=>by kernel_rfl
 have ha: ∀w,(isAgg 3).run Tryd.prog w= .ok false w:=fun w=>by kernel_rfl
 have hg:=agi_get xs k (by omega)
 simp[Instr.index,asIntOf,run_underlying ht,hk,part,hs,ha,hg]
theorem Own.ne_ {w:World} {base c g:Nat} {A:Option Addr} {xs:List Int} (h:Own w base A c xs) (hg:g<base): ∀ad,A=some ad->ad.block≠g:=fun ad e=>by
 have:=(h.lt ad e).1
 omega
theorem Own.setRow {w:World} {base c g:Nat} {A:Option Addr} {xs:List Int} (h:Own w base A c xs) (hg:g<base) (cs:Array Value):Own (w.setRow g cs) base A c xs:=
 h.kept (row:=some g) ⟨rfl,rfl,rfl,by simp[World.setRow],fun i _ hn=>setRow_other w g i cs (by intro e;subst e;exact hn rfl)⟩ (fun ad e h2=>by
  injection h2 with h2
  exact h.ne_ hg ad e h2)
theorem Own.setC {w:World} {base c g:Nat} {A:Option Addr} {xs:List Int} (h:Own w base A c xs) (hg:g<base) (i:Nat) (v:Value):Own (w.setCell ⟨g,i,none⟩ v) base A c xs:=
 h.kept (row:=some g) ⟨rfl,rfl,rfl,by simp[World.setCell],fun j _ hn=>Below.heap_setCell _ _ _ j (by simpa using hn)⟩ (fun ad e h2=>by
  injection h2 with h2
  exact h.ne_ hg ad e h2)
end Go.Proofs.YthoiikkjjaldnaaDoor
namespace Go.Proofs.YthoiikkjjaldnaaDoor
set_option linter.unusedVariables false
set_option linter.unusedSimpArgs false
set_option maxRecDepth 100000
open Go.RowKit Go.ChangeShapes
def rootsL:List Int:=[444758425,203159592,97181937,47538611,23511884,11692281,5830311,2911209,1454619,727063,363470,181719,90856,45427,22713]
def gainsL:List Int:=[0,3277,6554,9830,12452,14746,16384,18022]
def widthL:List Int:=[6,6,5,5,4,4,3,3]
def TabA (w:World) (g:Nat) (zs:List Int):Prop:= ∃t fr,w.heap[g]?=some (.cells (agi zs) t fr)
def TabS (w:World) (g:Nat) (zs:List Int):Prop:= ∃A c,g<w.heap.size/\w.cell? ⟨g,0,none⟩=some (.slice A zs.length c)/\Rs w w.heap.size A zs/\zs.length<=c
section
variable {w w':World} {g:Nat} {zs:List Int}
theorem TabA.lt (h:TabA w g zs):g<w.heap.size:=by
 obtain⟨t,fr,h⟩:=h
 rcases Nat.lt_or_ge g w.heap.size with hlt|hge
 ·exact hlt
 ·rw[Array.getElem?_eq_none hge] at h;cases h
theorem TabA.cell (h:TabA w g zs) (i:Nat) (hi:i<zs.length):w.cell? ⟨g,i,none⟩=some (.int .i64 (zs.getD i 0)):=by
 obtain⟨t,fr,h⟩:=h
 exact(cell_of_row w g i _ t fr h).trans (agi_get zs i hi)
theorem TabA.below (h:TabA w g zs) (hb:Below w.heap.size w w'):TabA w' g zs:=by
 obtain⟨t,fr,h1⟩:=h
 exact⟨t,fr,(hb.block g (TabA.lt ⟨t,fr,h1⟩)).trans h1⟩
theorem TabS.below (h:TabS w g zs) (hb:Below w.heap.size w w'):TabS w' g zs:=by
 obtain⟨A,c,h0,h1,h2,h3⟩:=h
 have:=hb.size
 exact⟨A,c,by omega,(hb.cell (p:=⟨g,0,none⟩) h0).trans h1,(h2.below hb).more this,h3⟩
theorem TabA.below' {B:Nat} (h:TabA w g zs) (hb:Below B w w') (hB:w.heap.size<=B):TabA w' g zs:=h.below (hb.mono hB)
theorem TabS.below' {B:Nat} (h:TabS w g zs) (hb:Below B w w') (hB:w.heap.size<=B):TabS w' g zs:=h.below (hb.mono hB)
theorem TabS.form (h:TabS w g zs): ∃A c,w.cell? ⟨g,0,none⟩=some (.slice A zs.length c)/\zs.length<=c/\∀k,k<zs.length->∃ad,A=some ad/\w.cell? (ad.add k)=some (.int .i64 (zs.getD k 0)):=by
 obtain⟨A,c,_,h1,h2,h3⟩:=h
 refine⟨A,c,h1,h3,fun k hk=>?_⟩
 obtain⟨ad,e,_,hc⟩:=h2.at_ hk
 exact⟨ad,e,hc⟩
end
theorem wpList_loadT {ops:Array Oper} {rest:List Oper} {o:Oper} {a:Act} {w:World} {Q:Exit->Act->World->Prop} (hw:Region.wanted o (yielded ops a.tmps)=true) (ty:TypeId) (x:Operand) (ho:o.op= .load ty x)
 (g:Nat) (xs:List Int) (n:Nat) (d:TypeDesc) (hx:a.eval x= .pointer (some ⟨g,0,none⟩)) (h:TabA w g xs) (hu:Tryd.prog.underlying ty=some d) (hd:isAggD d=true) (hi:(Tryd.prog.info? ty).map (·.size)=some n) (hl:xs.length=n)
 (hk:wpList Tryd.prog ops Q rest (a.put o.dst (.agg (agi xs))) w):wpList Tryd.prog ops Q (o::rest) a w:=by
 obtain⟨t,fr,h⟩:=h
 exact Go.BigFrame.wpList_want hw fun K hK=>wp_load_row ty x ho g hx t (agi xs) fr d h hu (by cases d<;>first|rfl|(simp[isAggD] at hd)) (by rw[hi,agi_size,hl]) (hK _ _ hk)
theorem laid_agg {W:World} {name:String} {zs:List Int} {rest:List (String×DataW Unit)} {ps:List MemPlace} {g:Nat} {t:TypeId} {n:Nat}
 (hg:Tryd.prog.globalNamed name=some g) (hty:(Tryd.prog.globals[g]?).map (·.type)=some t) (ht:Tryd.prog.underlying t=some (.array n 3)) (hce:Tryd.prog.cellsOf 3=1) (hct:Tryd.prog.cellsOf t=n)
 (h:DataW.LaidVars Tryd.prog W ((name,Lib.tabData .i64 zs)::rest) ps):TabA W g zs/\∃q,DataW.LaidVars Tryd.prog W rest q:=by
 obtain⟨g',t',cs,fuel,p,q,hg',ht',hvar,hd,hr,_⟩:=h
 obtain rfl:=Option.some.inj (hg.symm.trans hg')
 obtain rfl:=Option.some.inj (hty.symm.trans ht')
 refine⟨?_,q,hr⟩
 have hcs:=Lib.cells_of_tab ht Tryd.underlying3 hce hct hd
 simp only[World.var?,hg,Option.bind_some] at hvar
 split at hvar
 ·rename_i c t fr hb
  cases hvar
  refine⟨t,fr,?_⟩
  rw[hb]
  have:cs=agi zs:=by
   unfold agi ints
   rw[<-hcs]
  rw[this]
 ·cases hvar
end Go.Proofs.YthoiikkjjaldnaaDoor
namespace Go.Proofs.YthoiikkjjaldnaaDoor
set_option linter.unusedVariables false
set_option linter.unusedSimpArgs false
set_option maxRecDepth 100000
open Go.RowKit
theorem wpList_pushN {ops:Array Oper} {rest:List Oper} {o:Oper} {a:Act} {w:World} {Q:Exit->Act->World->Prop} (hgd:o.guard=none) (s x:Operand)
 (ho:o.op= .call {callee:= .builtin .append,args:= #[s,x],argTypes:= #[36,36]})
 (base:Nat) (A:Option Addr) (c n:Nat) (xs:List Int) (hs:a.eval s= .slice A n c) (hn:xs.length=n) (hown:Own w base A c xs)
 (ad:Addr) (y:Int) (hx:a.eval x= .slice (some ad) 1 1) (hc:w.cell? ad=some (.int .i64 y)) (hlen:n+1<=17592186044416) (hbase:base<=w.heap.size)
 (h: ∀A' c' w',Own w' base A' c' (xs++[y])->w.grownBy w' (A.map (·.block))->(A'=A\/∃g,A'=some ⟨g,0,none⟩/\w.heap.size<=g)->wpList Tryd.prog ops Q rest (a.put o.dst (.slice A' (n+1) c')) w'):wpList Tryd.prog ops Q (o::rest) a w:=by
 subst hn
 exact wpList_push hgd s x ho base A c xs hs hown ad y hx hc hlen hbase h
theorem wpList_catN {ops:Array Oper} {rest:List Oper} {o:Oper} {a:Act} {w:World} {Q:Exit->Act->World->Prop} (hgd:o.guard=none) (s x:Operand)
 (ho:o.op= .call {callee:= .builtin .append,args:= #[s,x],argTypes:= #[36,36]})
 (base:Nat) (A:Option Addr) (c n:Nat) (xs:List Int) (hs:a.eval s= .slice A n c) (hn:xs.length=n) (hown:Own w base A c xs)
 (B:Nat) (A2:Option Addr) (c2 m:Nat) (ys:List Int) (hx:a.eval x= .slice A2 m c2) (hm:ys.length=m) (hr:Rs w B A2 ys) (hlen:n+m<=17592186044416) (hbase:base<=w.heap.size)
 (h: ∀A' c' w',Own w' base A' c' (xs++ys)->w.grownBy w' (A.map (·.block))->(A'=A\/∃g,A'=some ⟨g,0,none⟩/\w.heap.size<=g)->wpList Tryd.prog ops Q rest (a.put o.dst (.slice A' (n+m) c')) w'):wpList Tryd.prog ops Q (o::rest) a w:=by
 subst hn
 subst hm
 exact wpList_cat hgd s x ho base A c xs hs hown B A2 c2 ys hx hr hlen hbase h
theorem below_grown {a w w':World} {base:Nat} {A:Option Addr} {c:Nat} {xs:List Int} (hB:Below base a w) (hO:Own w base A c xs) (hG:w.grownBy w' (A.map (·.block))) (hb:base<=w.heap.size):Below base a w':=
 hB.grown hG hb (fun k hk=>by
  cases A with
  |none=>cases hk
  |some ad=>simp at hk;subst hk;exact(hO.lt ad rfl).1)
theorem Blk.grownA {w w':World} {g:Nat} {t:TypeId} {cs:Array Value} {A:Option Addr} (h:Blk w g t cs) (hG:w.grownBy w' (A.map (·.block))) (hne: ∀ad,A=some ad->ad.block≠g):Blk w' g t cs:=
 Blk.grown h hG (fun e=>by
  cases A with
  |none=>cases e
  |some ad=>simp at e;exact hne ad rfl e.symm)
end Go.Proofs.YthoiikkjjaldnaaDoor
namespace Go.Proofs.YthoiikkjjaldnaaDoor
set_option linter.unusedVariables false
set_option linter.unusedSimpArgs false
set_option maxRecDepth 100000
open Go.RowKit
def bts (xs:List Int):List Value:=xs.map (Value.int .u8)
theorem bts_len (xs:List Int):(bts xs).length=xs.length:=by simp[bts]
theorem bts_get (xs:List Int) (k:Nat) (h:k<xs.length):(bts xs)[k]?=some (.int .u8 (xs.getD k 0)):=by simp[bts,h]
theorem bts_one (xs:List Int): ∀u∈bts xs,u.oneCell'=true:=ints_oneCell .u8 xs
theorem bts_append (xs ys:List Int):bts xs++bts ys=bts (xs++ys):=by simp[bts]
def Rb (w:World) (B:Nat) (A:Option Addr) (xs:List Int):Prop:=Reads w B 1 A xs.length (bts xs)
def OwnB (w:World) (base:Nat) (A:Option Addr) (c:Nat) (xs:List Int):Prop:=w.ownsRow base 5 1 (.slice A xs.length c) xs.length (bts xs)
theorem infoB:(Tryd.prog.info? 5).map (fun i=>(i.zero,i.size,i.bytes))=some (some (.int .u8 0),1,1):=by kernel_rfl
section
variable {w w':World} {B B':Nat} {A:Option Addr} {xs:List Int}
theorem Rb.below (h:Rb w B A xs) (hb:Below B w w'):Rb w' B A xs:=Reads.below h hb
theorem Rb.more (h:Rb w B A xs) (hB:B<=B'):Rb w B' A xs:=Reads.more h hB
theorem Rb.at_ {k:Nat} (h:Rb w B A xs) (hk:k<xs.length): ∃ad,A=some ad/\ad.block<B/\w.cell? (ad.add k)=some (.int .u8 (xs.getD k 0)):=by
 obtain⟨ad,e,hb,hc⟩:=h.2 (by omega)
 exact⟨ad,e,hb,hc k _ (bts_get xs k hk)⟩
theorem Rb.ad (h:Rb w B A xs) (hk:0<xs.length): ∃ad,A=some ad/\ad.block<B/\∀k,k<xs.length->w.cell? (ad.add k)=some (.int .u8 (xs.getD k 0)):=by
 obtain⟨ad,e,hb,hc⟩:=h.2 hk
 exact⟨ad,e,hb,fun k hk=>hc k _ (bts_get xs k hk)⟩
theorem Rb.nil:Rb w B A []:=Reads.none_
theorem OwnB.nil {base:Nat}:OwnB w base none 0 []:=World.ownsRow_nil w base _ _
theorem OwnB.reads {base c:Nat} (h:OwnB w base A c xs):Rb w w.heap.size A xs:=Reads.of_own h
theorem OwnB.below {base c:Nat} (h:OwnB w base A c xs) (hb:Below w.heap.size w w'):OwnB w' base A c xs:=
 World.ownsRow.kept h (row:=none) ⟨hb.os,hb.tape,hb.output,hb.size,fun k hk _=>hb.block k hk⟩ (by cases A<;>simp[Value.ownBlock])
theorem OwnB.cap {base c:Nat} (h:OwnB w base A c xs):xs.length<=c/\c<=9223372036854775807:=by
 rcases h.2 with⟨hv,hn⟩|⟨g,cap,cur,hv,hb,hg,h1,h2,_⟩
 ·injection hv with _ _ hc
  omega
 ·injection hv with _ _ hc
  unfold maxLen at h2
  omega
theorem OwnB.lt {base c:Nat} (h:OwnB w base A c xs): ∀a,A=some a->base<=a.block/\a.block<w.heap.size:=fun a ha=>by
 subst ha
 exact World.ownsRow.lt h a.block rfl
theorem OwnB.ne_ {base c g:Nat} (h:OwnB w base A c xs) (hg:g<base): ∀ad,A=some ad->ad.block≠g:=fun ad e=>by
 have:=(h.lt ad e).1
 omega
end
theorem own_formB {w:World} {base n:Nat} {v:Value} {vs:List Value} {ys:List Int} (h:w.ownsRow base 5 1 v n vs) (hv:vs=bts ys): ∃A c,v= .slice A ys.length c/\OwnB w base A c ys:=by
 subst hv
 have hl:ys.length=n:=by have:=h.1;simpa[bts] using this
 subst hl
 rcases h.2 with⟨hv,hn⟩|⟨g,cap,cur,hv,rest⟩
 ·subst hv
  refine⟨none,0,by rw[hn],?_⟩
  unfold OwnB
  rw[hn] at h|-
  exact h
 ·subst hv
  exact⟨_,_,rfl,h⟩
theorem wpList_catB {ops:Array Oper} {rest:List Oper} {o:Oper} {a:Act} {w:World} {Q:Exit->Act->World->Prop} (hgd:o.guard=none) (s x:Operand)
 (ho:o.op= .call {callee:= .builtin .append,args:= #[s,x],argTypes:= #[39,39]})
 (base:Nat) (A:Option Addr) (c n:Nat) (xs:List Int) (hs:a.eval s= .slice A n c) (hn:xs.length=n) (hown:OwnB w base A c xs)
 (B:Nat) (A2:Option Addr) (c2 m:Nat) (ys:List Int) (hx:a.eval x= .slice A2 m c2) (hm:ys.length=m) (hr:Rb w B A2 ys) (hlen:n+m<=140737488355328) (hbase:base<=w.heap.size)
 (h: ∀A' c' w',OwnB w' base A' c' (xs++ys)->w.grownBy w' (A.map (·.block))->wpList Tryd.prog ops Q rest (a.put o.dst (.slice A' (n+m) c')) w'):wpList Tryd.prog ops Q (o::rest) a w:=by
 subst hn
 subst hm
 obtain⟨i0,hi,hz0,hz1,hz2⟩:=info_parts infoB
 refine wpList_plain hgd fun K hK=>?_
 obtain⟨v',w',hrun,h2,h3,h4⟩:=run_append_any (P:=Tryd.prog) w base 39 o.type 5 i0 (.int .u8 0) 1 1 Tryd.underlying39 hi hz0 hz1 hz2 rfl (by omega) _ _ _ hown B A2 ys.length c2 (bts ys) hr (bts_one ys) (by unfold maxLen;omega) (by omega) hbase
 obtain⟨A',c',rfl,hO⟩:=own_formB h2 (bts_append xs ys)
 have hl:(xs++ys).length=xs.length+ys.length:=by simp
 unfold Oper.wp execOp
 simp only[ho,resolve,invoke,builtin,Sem.run_bind,Sem.run_pure,Result.andThen_ok,List.map_toArray,List.map_cons,List.map_nil,hs,hx,hrun]
 refine hK _ _ ?_
 rw[hl]
 exact h A' c' w' hO (by cases A<;>exact h3)
section
open Go.ChangeShapes
variable {H:Type} {enc:TypeId×Value->H} {P:Program} {w:World}
theorem slice_reads {t e:TypeId} {k:IntKind} {A:Option Addr} {n c fuel:Nat} {d:DataW H} {ps:List MemPlace} (ht:P.underlying t=some (.slice e)) (he:P.underlying e=some (.int k)) (hc:P.cellsOf e=1)
 (h:DataW.trod enc P w 0 (fun _=>true) true fuel t [.slice A n c]=some (d,ps)) (hd: ∀x∈d.weights P t,x<=reachBytes):
 ∃xs:List Int,xs.length=n/\n<=c/\c*P.bytesOf e<=140737488351232/\Reads w w.heap.size 1 A n (xs.map (Value.int k))/\∀x∈xs,k.has x:=by
 rcases open_ints ht he hc h with⟨h1,_⟩|⟨a,len,cap,zs,h1,_,hl,hm,hlen,hx,hcell,hwf⟩
 ·simp only[List.cons.injEq,Value.slice.injEq,and_true] at h1
  obtain⟨rfl,rfl,rfl⟩:=h1
  exact⟨[],rfl,by omega,by omega,Reads.none_,by intro x hx;simp at hx⟩
 ·simp only[List.cons.injEq,Value.slice.injEq,and_true] at h1
  obtain⟨rfl,rfl,rfl⟩:=h1
  simp only[if_true] at hlen
  simp only[Prod.mk.injEq] at hx
  obtain⟨rfl,_⟩:=hx
  have htl:(zs.take n).length=n:=by rw[List.length_take];omega
  have hwt:=hd (((lits k (zs.take n)).length+(lits k (zs.drop n):List (DataW H)).length)*P.bytesOf e) (by simp only[DataW.weights,ht];exact List.mem_cons_self ..)
  simp only[lits,List.length_map,List.length_take,List.length_drop,reachBytes] at hwt
  have hcc:min n zs.length+(zs.length-n)=c:=by omega
  rw[hcc] at hwt
  refine⟨zs.take n,htl,by omega,hwt,⟨by rw[List.length_map,htl,Nat.mul_one],fun hn=>⟨a,rfl,?_,?_⟩⟩,?_⟩
  ·have:=World.block_lt_of_cell? w _ (hcell 0 (by omega))
   rwa [block_of_add] at this
  ·intro j u hu
   have hj:j<n:=by
    have:=(List.getElem?_eq_some_iff.1 hu).1
    rwa [List.length_map,htl] at this
   rw[hcell j (by omega),<-hu,List.getElem?_map,List.getElem?_take,if_pos hj,List.getElem?_eq_getElem (by omega)]
   simp[List.getD_eq_getElem?_getD,(show j<zs.length by omega)]
  ·intro x hx
   have:=hwf x (List.mem_of_mem_take hx)
   simpa[Lit.wf,IntKind.has] using this
end
end Go.Proofs.YthoiikkjjaldnaaDoor
