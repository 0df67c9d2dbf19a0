/- Texts that the law rests on. -/
import Derived.Test.YthoiikkjjaldnaaGreatDoorZbase
namespace Go.Proofs.YthoiikkjjaldnaaGreatDoor
set_option linter.unusedVariables false
set_option linter.unusedSimpArgs false
set_option maxRecDepth 100000
set_option maxHeartbeats 8000000
open Go.RowKit
section
open Go.ChangeShapes
def aj(xs:List Int):List Value:=xs.map (Value.int .i64)
def agi(xs:List Int):Array Value:=(aj xs).toArray
theorem aQ(xs:List Int):(aj xs).length=xs.length:=nZ
theorem dV(xs:List Int):(agi xs).size=xs.length:=by simp[agi,aj]
theorem rJ(xs:List Int)(k:Nat)(h:k<xs.length):(aj xs)[k]?=some (.int .i64 (xs.getD k 0)):=by
 simp[aj,h]
theorem Fq(xs:List Int)(k:Nat)(h:k<xs.length):(agi xs)[k]?=some (.int .i64 (xs.getD k 0)):=by
 simp[agi,aj,h]
theorem acI(xs:List Int)(k:Nat)(v:Int):(agi xs).setIfInBounds k (.int .i64 v)=agi (xs.set k v):=by
 simp[agi,aj,List.map_set]
theorem mQ(xs:List Int):∀u∈aj xs,u.oneCell'=true:=ints_oneCell .i64 xs
theorem BU(xs ys:List Int):aj xs++aj ys=aj (xs++ys):=nZ
def W64(xs:List Int):Prop:=∀x∈xs,-9223372036854775808<=x/\x<=9223372036854775807
theorem W64.at_{xs:List Int}(h:W64 xs)(k:Nat): -9223372036854775808<=xs.getD k 0/\xs.getD k 0<=9223372036854775807:=by
 rw[bi]
 cases hk:xs[k]? with
 |none=>simp
 |some x=>simpa using h x (List.mem_of_getElem? hk)
theorem dM(a:Addr)(n:Nat):(a.add n).block=a.block:=by unfold Addr.add;split<;>rfl
theorem acJ(a:Addr)(i j:Nat):(a.add i).add j=a.add (i+j):=by
 unfold Addr.add
 by_cases hi:i=0<;>by_cases hj:j=0<;>simp[hi,hj,Nat.add_assoc]
theorem lI(g i:Nat):(⟨g,0,none⟩:Addr).add i=⟨g,i,none⟩:=by
 unfold Addr.add;split<;>simp_all
def Reads(w:World)(B size:Nat)(A:Option Addr)(n:Nat)(xs:List Value):Prop:=
 xs.length=n*size/\(0<n->∃ad,A=some ad/\ad.block<B/\∀j u,xs[j]?=some u->w.cell? (ad.add j)=some u)
section
variable {w w':World} {B B' size n:Nat} {A:Option Addr} {xs:List Value}
theorem Reads.none_:Reads w B size A 0 []:=⟨az,fun h=>absurd h ah⟩
theorem Reads.keep(h:Reads w B size A n xs)(hk:∀p:Addr,p.block<B->w'.cell? p=w.cell? p):Reads w' B size A n xs:=
 ⟨h.1,fun hn=>by
   obtain⟨ad,e,hb,hc⟩:=h.2 hn
   exact⟨ad,e,hb,fun j u hu=>(hk _ (by rw[dM];exact hb)).trans (hc j u hu)⟩⟩
theorem Reads.more(h:Reads w B size A n xs)(hB:B<=B'):Reads w B' size A n xs:=
 ⟨h.1,fun hn=>by
   obtain⟨ad,e,hb,hc⟩:=h.2 hn
   exact⟨ad,e,ah,hc⟩⟩
theorem Reads.below(h:Reads w B size A n xs)(hb:Below B w w'):Reads w' B size A n xs:=h.keep fun _ hp=>hb.cell hp
theorem Reads.cut(h:Reads w B size A n xs){k cap:Nat}(hk:k<=n)(hc:n<=cap):
 Reads w B size (if cap=k then A else A.map (·.add (k*size))) (n-k) (xs.drop (k*size)):=by
 refine⟨by rw[jY,h.1,Nat.sub_mul],fun hn=>?_⟩
 obtain⟨ad,rfl,hb,hcell⟩:=h.2 ah
 rw[if_neg ah]
 refine⟨ad.add (k*size),rfl,by rw[dM];exact hb,fun j u hu=>?_⟩
 rw[acJ]
 exact hcell _ u (by rw[<-hu,List.getElem?_drop])
theorem Reads.take(h:Reads w B size A n xs){k:Nat}(hk:k<=n):Reads w B size A k (xs.take (k*size)):=by
 have h1:=h.1
 refine⟨?_,fun hn=>?_⟩
 ·rw[fL,h1];exact Nat.min_eq_left (Nat.mul_le_mul_right _ hk)
 obtain⟨ad,rfl,hb,hcell⟩:=h.2 ah
 refine⟨ad,rfl,hb,fun j u hu=>hcell j u ?_⟩
 rw[wR] at hu
 split at hu
 ·exact hu
 cases hu
theorem Reads.of_own{base:Nat}{e:TypeId}{c:Nat}(h:w.ownsRow base e size (.slice A n c) n xs):Reads w w.heap.size size A n xs:=by
 refine⟨h.1,fun hn=>?_⟩
 obtain⟨g,cap,hv,_,hlt⟩:=h.form hn
 have hA:A=some ⟨g,0,none⟩:=by injection hv
 subst hA
 exact⟨_,rfl,hlt,h.cells (g:=g) rfl⟩
end
def Rs(w:World)(B:Nat)(A:Option Addr)(xs:List Int):Prop:=Reads w B 1 A xs.length (aj xs)
section
variable {w w':World} {B B':Nat} {A:Option Addr} {xs:List Int}
theorem Rs.at_{k:Nat}(h:Rs w B A xs)(hk:k<xs.length):∃ad,A=some ad/\ad.block<B/\w.cell? (ad.add k)=some (.int .i64 (xs.getD k 0)):=by
 obtain⟨ad,e,hb,hc⟩:=h.2 ah
 exact⟨ad,e,hb,hc k _ (rJ xs k hk)⟩
theorem Rs.ad(h:Rs w B A xs)(hk:0<xs.length):∃ad,A=some ad/\ad.block<B/\∀k,k<xs.length->w.cell? (ad.add k)=some (.int .i64 (xs.getD k 0)):=by
 obtain⟨ad,e,hb,hc⟩:=h.2 hk
 exact⟨ad,e,hb,fun k hk=>hc k _ (rJ xs k hk)⟩
theorem Rs.below(h:Rs w B A xs)(hb:Below B w w'):Rs w' B A xs:=Reads.below h hb
theorem Rs.below'(h:Rs w B A xs)(hB:B<=B')(hb:Below B' w w'):Rs w' B A xs:=Reads.below h (hb.mono hB)
theorem Rs.more(h:Rs w B A xs)(hB:B<=B'):Rs w B' A xs:=Reads.more h hB
theorem Rs.nil:Rs w B A []:=Reads.none_
theorem Rs.drop(h:Rs w B A xs){k cap:Nat}(hk:k<=xs.length)(hc:xs.length<=cap):Rs w B (if cap=k then A else A.map (·.add k)) (xs.drop k):=by
 have h1:=Reads.cut h hk hc
 simp only[Nat.mul_one] at h1
 unfold Rs
 rw[jY]
 have e:aj (xs.drop k)=(aj xs).drop k:=by simp[aj,List.map_drop]
 rw[e];exact h1
theorem Rs.take(h:Rs w B A xs){k:Nat}(hk:k<=xs.length):Rs w B A (xs.take k):=by
 have h1:=Reads.take h hk
 simp only[Nat.mul_one] at h1
 unfold Rs
 rw[fL,Nat.min_eq_left hk]
 have e:aj (xs.take k)=(aj xs).take k:=by simp[aj,List.map_take]
 rw[e];exact h1
end
def Own(w:World)(base:Nat)(A:Option Addr)(c:Nat)(xs:List Int):Prop:=w.ownsRow base 3 1 (.slice A xs.length c) xs.length (aj xs)
section
variable {w w':World} {base base':Nat} {A:Option Addr} {c:Nat} {xs:List Int}
theorem Own.reads(h:Own w base A c xs):Rs w w.heap.size A xs:=Reads.of_own h
theorem Own.nil:Own w base none 0 []:=World.ownsRow_nil w base _ _
theorem Own.lt(h:Own w base A c xs):∀a,A=some a->base<=a.block/\a.block<w.heap.size:=fun a ha=>by
 subst ha
 exact World.ownsRow.lt h a.block rfl
theorem Own.cap(h:Own w base A c xs):xs.length<=c/\c<=9223372036854775807:=by
 rcases h.2 with⟨hv,hn⟩|⟨g,cap,cur,hv,hb,hg,h1,h2,_⟩
 ·injection hv with _ _ hc
  omega
 injection hv with _ _ hc
 unfold maxLen at h2
 omega
theorem Own.below(h:Own w base A c xs)(hb:Below w.heap.size w w'):Own w' base A c xs:=
 World.ownsRow.kept h (row:=none) ⟨hb.os,hb.tape,hb.output,hb.size,fun k hk _=>hb.block k hk⟩ UJ
theorem Own.kept{row:Option Nat}(h:Own w base A c xs)(hg:w.grownBy w' row)(hne:∀a,A=some a->some a.block≠row):Own w' base A c xs:=
 World.ownsRow.kept h hg (by
  cases A with
  |none=>exact .inl rfl
  |some a=>exact .inr (hne a rfl))
theorem Own.more(h:Own w base A c xs)(hb:base'<=base):Own w base' A c xs:=by
 exact ab2
theorem Own.alloc(h:Own w base A c xs)(o:Obj):Own (w.alloc o) base A c xs:=World.ownsRow.alloc h o
theorem Own.drew(h:Own w base A c xs):Own w.drew base A c xs:=h
theorem Own.drewN(h:Own w base A c xs)(n:Nat):Own (w.drewN n) base A c xs:=h
theorem Own.form(h:Own w base A c xs)(hn:0<xs.length):∃g cap cur,A=some ⟨g,0,none⟩/\base<=g/\g<w.heap.size/\w.heap[g]?=some (.cells cur 3 (0,0))/\c=cap/\xs.length<=cap/\cap<=maxLen/\cur.size=cap/\cur.toList.take xs.length=aj xs:=by
 rcases h.2 with⟨_,h0⟩|⟨g,cap,cur,hv,hb,hg,h1,h2,h3,h4⟩
 ·omega
 injection hv with hA _ hc
 exact⟨g,cap,cur,hA,hb,(Array.getElem?_eq_some_iff.1 hg).1,hg,hc,h1,h2,by simpa using h3,by simpa using h4⟩
theorem Own.set_{g:Nat}(h:Own w base (some ⟨g,0,none⟩) c xs)(k:Nat)(hk:k<xs.length)(x:Int):Own (w.setCell ⟨g,k,none⟩ (.int .i64 x)) base (some ⟨g,0,none⟩) c (xs.set k x):=by
 have h1:=World.ownsRow.stored (g:=g) (cap:=c) h k (.int .i64 x)
 unfold Own
 rw[List.length_set]
 have e:aj (xs.set k x)=(aj xs).set k (.int .i64 x):=by simp[aj,List.map_set]
 rw[e];exact h1.1
theorem Own.cell{g:Nat}(h:Own w base (some ⟨g,0,none⟩) c xs)(k:Nat)(hk:k<xs.length):w.cell? ⟨g,k,none⟩=some (.int .i64 (xs.getD k 0)):=by
 have h1:=World.ownsRow.cellAt (g:=g) (cap:=c) h k ah
 rw[h1];exact rJ xs k hk
theorem Own.frozen{g:Nat}(h:Own w base (some ⟨g,0,none⟩) c xs)(k:Nat):w.frozen? ⟨g,k,none⟩=false:=World.ownsRow.frozenAt h k
end
def Blk(w:World)(g:Nat)(t:TypeId)(cs:Array Value):Prop:=w.heap[g]?=some (.cells cs t (0,0))
section
variable {w w':World} {g:Nat} {t:TypeId} {cs:Array Value}
theorem Blk.lt(h:Blk w g t cs):g<w.heap.size:=by
 rcases Nat.lt_or_ge g w.heap.size with hlt|hge
 ·exact hlt
 unfold Blk at h;rw[Array.getElem?_eq_none hge] at h;cases h
theorem Blk.cell(h:Blk w g t cs)(i:Nat):w.cell? ⟨g,i,none⟩=cs[i]?:=cell_of_row w g i cs t (0,0) h
theorem Blk.frozen(h:Blk w g t cs)(i:Nat):w.frozen? ⟨g,i,none⟩=false:=by
 unfold Blk at h
 simp[World.frozen?,h]
theorem Blk.new(w:World)(t:TypeId)(cs:Array Value):Blk (w.alloc (.cells cs t)) w.heap.size t cs:=heap_alloc_new w _
theorem Blk.drew(h:Blk w g t cs):Blk w.drew g t cs:=h
theorem Blk.alloc(h:Blk w g t cs)(o:Obj):Blk (w.alloc o) g t cs:=(Below.heap_alloc w o g h.lt).trans h
theorem Blk.set_(h:Blk w g t cs)(i:Nat)(u:Value):Blk (w.setCell ⟨g,i,none⟩ u) g t (cs.setIfInBounds i u):=by
 unfold Blk at h|-
 simp[World.setCell,Array.getElem?_modify,h]
theorem Blk.far(h:Blk w g t cs){p:Addr}(hp:g≠p.block)(u:Value):Blk (w.setCell p u) g t cs:=(Below.heap_setCell w p u g hp).trans h
theorem Blk.below{B:Nat}(h:Blk w g t cs)(hb:Below B w w')(hg:g<B):Blk w' g t cs:=(hb.block g hg).trans h
theorem Blk.below'(h:Blk w g t cs)(hb:Below w.heap.size w w'):Blk w' g t cs:=(hb.block g h.lt).trans h
theorem Blk.grown{row:Option Nat}(h:Blk w g t cs)(hb:w.grownBy w' row)(hg:some g≠row):Blk w' g t cs:=(hb.block g h.lt hg).trans h
theorem Blk.ne_{g':Nat}{t':TypeId}{cs':Array Value}(h:Blk w g t cs)(h':Blk w g' t' cs')(hne:t≠t'):g≠g':=by
 rintro rfl
 unfold Blk at h h'
 rw[h] at h'
 injection h' with h'
 injection h' with _ ht
 exact hne ht
end
def IB(w:World)(g:Nat)(t:TypeId)(xs:List Int):Prop:=Blk w g t (agi xs)
section
variable {w w':World} {g:Nat} {t:TypeId} {xs:List Int}
theorem IB.cell(h:IB w g t xs)(i:Nat)(hi:i<xs.length):w.cell? ⟨g,i,none⟩=some (.int .i64 (xs.getD i 0)):=(Blk.cell h i).trans (Fq xs i hi)
theorem IB.set_(h:IB w g t xs)(i:Nat)(x:Int):IB (w.setCell ⟨g,i,none⟩ (.int .i64 x)) g t (xs.set i x):=by
 have h1:=Blk.set_ h i (.int .i64 x)
 rw[acI] at h1
 exact h1
theorem IB.new(w:World)(t:TypeId)(xs:List Int):IB (w.alloc (.cells (agi xs) t)) w.heap.size t xs:=Blk.new w t _
end
theorem gQ(xs:List Int)(k:Nat)(v:Int)(h:k<xs.length):(xs.set k v).getD k 0=v:=by simp[h]
theorem iw(xs:List Int){k j:Nat}(v:Int)(h:k≠j):(xs.set k v).getD j 0=xs.getD j 0:=by
 simp[h]
theorem bV{xs ys:List Int}(hl:xs.length=ys.length)(h:∀k,k<xs.length->xs.getD k 0=ys.getD k 0):xs=ys:=by
 apply List.ext_getElem hl
 intro k h1 h2
 have:=h k h1
 simpa[bi,h1,h2] using this
section
variable {P:Program} {w:World} {r:Reach} {b:Nat} {t:TypeId} {v:Value}
theorem acK{n:Int}(h:IntKind.i64.has n): -9223372036854775808<=n/\n<=9223372036854775807:=by
 have h1:=h.1
 have h2:=h.2
 simp[IntKind.min,IntKind.max,IntKind.signed,IntKind.bits] at h1 h2
 omega
theorem acL{k:IntKind}(ht:P.underlying t=some (.int k))(h:Cell.okWide P w r b t v):∃n,v=.int k n/\k.has n:=by
 exact acr
theorem Vh(ht:P.underlying t=some .bool)(h:Cell.okWide P w r b t v):∃n,v=.bool n:=by
 exact acr
theorem aj9(ht:P.underlying t=some .bool)(h:Value.okWide P w r b t v):∃n,v=.bool n:=by
 unfold Value.okWide at h
 simp only[ht] at h
 exact Vh ht h
def mV:TypeDesc->Bool
 |.struct _=>true
 |.array _ _=>true
 |_=>false
end
section
variable {H:Type} {enc:TypeId×Value->H} {P:Program} {w:World}
theorem aka{t e:TypeId}{v:Value}{d:DataW H}{ps:List MemPlace}(ht:P.underlying t=some (.slice e))(he:P.underlying e=some (.int .i64))(hc:P.cellsOf e=1)(hb:P.bytesOf e=8)
 (h:DataW.Trod enc P w 0 (fun _=>true) true t v d ps) {ts:List TypeId} {ds:List (DataW H)} {j:Nat} (hsz:(DataW.weightsEach P ts ds).all (· <=reachBytes)=true) (htj:ts[j]?=some t) (hdj:ds[j]?=some d) (hv:∃A n c,v=.slice A n c):
 ∃A c xs,v=.slice A xs.length c/\Rs w w.heap.size A xs/\W64 xs/\xs.length<=c/\c*8<=140737488351232:=by
 obtain⟨A,n,c,rfl⟩:=hv
 obtain⟨fuel,hf⟩:=h
 have hf':DataW.trod enc P w 0 (fun _=>true) true fuel t [.slice A n c]=some (d,ps):=by simpa[Value.cells] using hf
 rcases open_ints ht he hc hf' with⟨h1,_⟩|⟨a,len,cap,zs,h1,_,hl,hm,hlen,hx,hcell,hwf⟩
 ·simp only[List.cons.injEq,Value.slice.injEq,and_true] at h1
  obtain⟨rfl,rfl,rfl⟩:=h1
  exact⟨none,0,[],rfl,Rs.nil,by intro x hx;simp at hx,az,ah⟩
 ·simp only[List.cons.injEq,Value.slice.injEq,and_true] at h1
  obtain⟨rfl,rfl,rfl⟩:=h1
  simp only[if_true] at hlen
  simp only[Prod.mk.injEq] at hx
  obtain⟨hd,_⟩:=hx
  have htl:(zs.take n).length=n:=vg
  have hwt:=sized_slice (P:=P) (elems:=lits .i64 (zs.take n)) (spare:=lits .i64 (zs.drop n)) hsz (j:=j) (t:=t) (e:=e) htj (by rw[hdj,hd]) ht
  rw[hb] at hwt
  simp only[lits,tX,fL,jY,reachBytes] at hwt
  refine⟨some a,c,zs.take n,by rw[htl],⟨nZ,fun hn=>⟨a,rfl,?_,?_⟩⟩,?_,ah,ah⟩
  ·have:=World.block_lt_of_cell? w _ (hcell 0 ah)
   rwa [dM] at this
  ·intro j u hu
   have hj:j<(zs.take n).length:=by
    have:=(List.getElem?_eq_some_iff.1 hu).1
    simpa[aj] using this
   rw[rJ _ j hj] at hu
   rw[hcell j ah,<-hu]
   exact acD
  intro x hx
  have:=hwf x (List.mem_of_mem_take hx)
  simp[Lit.wf,IntKind.min,IntKind.max,IntKind.signed,IntKind.bits] at this
  omega
theorem akb{P:Program}{w:World}{r:Reach}{b:Nat}{t e:TypeId}{v:Value}(ht:P.underlying t=some (.slice e))(h:Value.okWide P w r b t v):∃A n c,v=.slice A n c:=by
 unfold Value.okWide at h
 simp only[ht] at h
 unfold Cell.okWide at h
 simp only[ht] at h
 unfold Cell.ok at h
 simp only[ht] at h
 split at h<;>simp_all
theorem acM{W W':World}(hl:laidOutB P=true)(hb:Below W.heap.size W W'):∀{ts:List TypeId} {vs:List Value} {ds:List (DataW H)} {ps:List MemPlace},(∀t∈ts,P.readableRec t=true/\t<P.types.size)->
 DataW.TrodAll enc P W 0 (fun _=>true) true ts vs ds ps->(∀x∈ps,x.block<W.heap.size)->DataW.TrodAll enc P W' 0 (fun b=>decide (b<W.heap.size)) true ts vs ds ps
 |[],[],[],_,_,h,_=>h
 |t::_,_::_,_::_,_,hT,⟨p,q,h1,h2,e⟩,hs=>
  ⟨p,q,Below.trod hl (hT t (List.mem_cons.2 (Or.inl rfl))).1 (hT t (List.mem_cons.2 (Or.inl rfl))).2 h1 hb (fun x hx=>hs x (by rw[e];exact List.mem_append_left _ hx)),
    acM hl hb (fun t ht=>hT t (List.mem_cons.2 (Or.inr ht))) h2 (fun x hx=>hs x (by rw[e];exact List.mem_append_right _ hx)),e⟩
end
end
theorem BZ:(Tryz.prog.info? 3).map (fun i=>(i.zero,i.size,i.bytes))=some (some (.int .i64 0),1,8):=au
section
variable {P:Program} (w:World)
theorem acN(base:Nat)(t ty e:TypeId)(i:TypeInfo)(size:Nat)(ht:P.underlying t=some (.slice e))(hi:P.info? e=some i)
 (v:Value) (n:Nat) (xs:List Value) (hown:w.ownsRow base e size v n xs) (c:Nat):(Builtin.append_ #[t,t] ty #[v,.slice none 0 c]).run P w=.ok v w:=by
 rcases hown.2 with⟨rfl,rfl⟩|⟨g,cap,cur,rfl,_,_,hnc,_⟩
 ·simp[Builtin.append_,run_underlying ht,sizeOf,typeInfo,hi,Builtin.lenOf,Builtin.firstCells]
 ·simp[Builtin.append_,run_underlying ht,sizeOf,typeInfo,hi,Builtin.lenOf,Builtin.firstCells,hnc,storeCells]
theorem xE(base:Nat)(t ty e:TypeId)(i:TypeInfo)(z:Value)(size bytes:Nat)(ht:P.underlying t=some (.slice e))(hi:P.info? e=some i)(hz:i.zero=some z)
 (hsize:i.size=size) (hby:i.bytes=bytes) (hzs:z.cells.size=size) (hsz:0<size)
 (v:Value) (n:Nat) (xs:List Value) (hown:w.ownsRow base e size v n xs)
 (B:Nat) (A:Option Addr) (m c:Nat) (news:List Value) (hr:Reads w B size A m news) (h1:∀u∈news,u.oneCell'=true)
 (h63:n+m<=maxLen) (hbytes:(n+m)*bytes<=140737488355328) (hbase:base<=w.heap.size):
 ∃v' w',(Builtin.append_ #[t,t] ty #[v,.slice A m c]).run P w=.ok v' w'/\w'.ownsRow base e size v' (n+m) (xs++news)/\w.grownBy w' v.ownBlock/\
  (v'.ownBlock=v.ownBlock\/v'.ownBlock=some w.heap.size):=by
 rcases A with _|ad
 ·have hm:m=0:=by
   rcases Nat.eq_zero_or_pos m with h0|h0
   ·exact h0
   obtain⟨ad,h,_⟩:=hr.2 h0
   cases h
  subst hm
  have hn:news=[]:=List.eq_nil_of_length_eq_zero (by simpa using hr.1)
  subst hn
  exact⟨v,w,acN w base t ty e i size ht hi v n xs hown c,by simpa using hown,World.grownBy.refl w _,.inl rfl⟩
 ·have hcells:∀j u,news[j]?=some u->w.cell? (ad.add j)=some u:=by
   intro j u hu
   rcases Nat.eq_zero_or_pos m with h0|h0
   ·subst h0
    have hn:news=[]:=List.eq_nil_of_length_eq_zero (by simpa using hr.1)
    subst hn
    simp at hu
   obtain⟨ad',h,_,hc⟩:=hr.2 h0
   injection h with h
   subst h
   exact hc j u hu
  obtain⟨v',w',hrun,h2,h3,_,h5⟩:=run_append_own_at (P:=P) w base t ty e i z size bytes ht hi hz hsize hby hzs hsz v n xs hown ad m c news hr.1 hcells h1 h63 hbytes hbase
  exact⟨v',w',hrun,h2,h3,h5⟩
end
theorem Own.head{w:World}{base c:Nat}{A:Option Addr}{xs:List Int}(h:Own w base A c xs)(hn:0<xs.length):∃g,A=some ⟨g,0,none⟩/\base<=g/\g<w.heap.size:=by
 obtain⟨g,_,_,hA,h1,h2,_⟩:=h.form hn
 exact⟨g,hA,h1,h2⟩
theorem mW(w:World)(v:Value)(t:TypeId):(w.alloc (.cells #[v] t)).cell? ⟨w.heap.size,0,none⟩=some v:=by
 rw[Blk.cell (Blk.new w t #[v]) 0];rfl
theorem OU{w:World}{base n:Nat}{v:Value}{vs:List Value}{ys:List Int}(h:w.ownsRow base 3 1 v n vs)(hv:vs=aj ys):∃A c,v=.slice A ys.length c/\Own w base A c ys:=by
 subst hv
 have hl:ys.length=n:=by have:=h.1;simpa[aj] using this
 subst hl
 rcases h.2 with⟨hv,hn⟩|⟨g,cap,cur,hv,rest⟩
 ·subst hv
  refine⟨none,0,by rw[hn],?_⟩
  unfold Own
  rw[hn] at h|-
  exact h
 subst hv
 exact⟨_,_,rfl,h⟩
theorem Fv{ops:Array Oper}{rest:List Oper}{o:Oper}{a:Act}{w:World}{Q:Exit->Act->World->Prop}(hgd:o.guard=none)(s x:Operand)
 (ho:o.op=.call {callee:=.builtin .append,args:= #[s,x],argTypes:= #[27,27]})
 (base:Nat) (A:Option Addr) (c:Nat) (xs:List Int) (hs:a.eval s=.slice A xs.length c) (hown:Own w base A c xs)
 (B:Nat) (A2:Option Addr) (c2:Nat) (ys:List Int) (hx:a.eval x=.slice A2 ys.length c2) (hr:Rs w B A2 ys) (hlen:xs.length+ys.length<=17592186044416) (hbase:base<=w.heap.size)
 (h:∀A' c' w',Own w' base A' c' (xs++ys)->w.grownBy w' (A.map (·.block))->(A'=A\/∃g,A'=some ⟨g,0,none⟩/\w.heap.size<=g)->wpList Tryz.prog ops Q rest (a.put o.dst (.slice A' (xs.length+ys.length) c')) w'):wpList Tryz.prog ops Q (o::rest) a w:=by
 obtain⟨i0,hi,hz0,hz1,hz2⟩:=info_parts BZ
 refine wpList_plain hgd fun K hK=>?_
 obtain⟨v',w',hrun,h2,h3,h4⟩:=xE (P:=Tryz.prog) w base 27 o.type 3 i0 (.int .i64 0) 1 8 Tryz.underlying27 hi hz0 hz1 hz2 rfl ah _ _ _ hown B A2 ys.length c2 (aj ys) hr (mQ ys) iT ah hbase
 have hlt:=fun a ha=>Own.lt hown a ha
 obtain⟨A',c',rfl,hO⟩:=OU h2 (BU xs ys)
 have hl:(xs++ys).length=xs.length+ys.length:=az
 unfold Oper.wp execOp
 simp only[ho,resolve,invoke,builtin,nR,rD,nU,List.map_toArray,List.map_cons,List.map_nil,hs,hx,hrun]
 refine hK _ _ ?_
 rw[hl]
 refine h A' c' w' hO zk ?_
 have hn:=hO.2
 rcases hn with⟨hv,h0⟩|⟨g,cap,cur,hv,_⟩
 ·injection hv with hA _ _
  exact ab1
 ·injection hv with hA _ _
  exact l60
theorem Vj{ops:Array Oper}{rest:List Oper}{o:Oper}{a:Act}{w:World}{Q:Exit->Act->World->Prop}(hgd:o.guard=none)(s x:Operand)
 (ho:o.op=.call {callee:=.builtin .append,args:= #[s,x],argTypes:= #[27,27]})
 (base:Nat) (A:Option Addr) (c:Nat) (xs:List Int) (hs:a.eval s=.slice A xs.length c) (hown:Own w base A c xs)
 (ad:Addr) (y:Int) (hx:a.eval x=.slice (some ad) 1 1) (hc:w.cell? ad=some (.int .i64 y)) (hlen:xs.length+1<=17592186044416) (hbase:base<=w.heap.size)
 (h:∀A' c' w',Own w' base A' c' (xs++[y])->w.grownBy w' (A.map (·.block))->(A'=A\/∃g,A'=some ⟨g,0,none⟩/\w.heap.size<=g)->wpList Tryz.prog ops Q rest (a.put o.dst (.slice A' (xs.length+1) c')) w'):wpList Tryz.prog ops Q (o::rest) a w:=
 Fv hgd s x ho base A c xs hs hown (ad.block+1) (some ad) 1 [y] hx ⟨nZ,fun _=>⟨ad,rfl,ah,fun j u hj=>by
  match j,hj with
  |0,hj=>simp[aj] at hj;subst hj;have e:ad.add 0=ad:=by unfold Addr.add;simp
         rw[e];exact hc⟩⟩ hlen hbase h
def wv:List Nat->Nat
 |[]=>0
 |a::l=>a+4294967296*wv l
def wok(l:List Nat):Prop:=∀x∈l,x<4294967296
def oM(l:List Nat):Prop:=∀n,l.length=n+1->l.getD n 0≠0
theorem acP:wok []:=fun _ h=>qA
theorem acQ:oM []:=fun n h=>by simp at h
theorem uz{a:Nat}{l:List Nat}:wok (a::l)↔a<4294967296/\wok l:=by
 simp[wok]
theorem qE(l:List Nat)(i:Nat)(h:i<l.length):l.getD i 0=l[i]:=by
 rw[bi,jO h];rfl
theorem kO{l:List Nat}(h:wok l)(i:Nat):l.getD i 0<4294967296:=by
 rw[bi]
 by_cases hi:i<l.length
 ·rw[jO hi];exact h _ (List.getElem_mem hi)
 rw[List.getElem?_eq_none ah];decide
theorem Fz{l:List Nat}(h:wok l)(n:Nat):wok (l.take n):=fun x hx=>h x (List.mem_of_mem_take hx)
theorem xG(n:Nat):wok (List.replicate n 0):=fun x hx=>by
 have:=List.eq_of_mem_replicate hx;omega
theorem Cb(a b:List Nat):wv (a++b)=wv a+4294967296^a.length*wv b:=by
 induction a with
 |nil=>simp[wv]
 |cons x l ih=>
  simp only[List.cons_append,wv,ih,y9,Nat.pow_succ]
  rw[Nat.mul_add,Nat.mul_comm (4294967296^l.length) 4294967296,Nat.mul_assoc,Nat.add_assoc]
theorem uA{l:List Nat}(h:wok l):wv l<4294967296^l.length:=by
 induction l with
 |nil=>simp[wv]
 |cons x l ih=>
  rw[uz] at h
  have:=ih h.2
  simp only[wv,y9,Nat.pow_succ]
  have h2:wv l+1<=4294967296^l.length:=this
  have:=Nat.mul_le_mul_right 4294967296 h2
  omega
theorem Vk(n:Nat):wv (List.replicate n 0)=0:=by
 induction n with
 |zero=>rfl
 |succ n ih=>simp[List.replicate_succ,wv,ih]
theorem xH(l:List Nat)(x:Nat):wv (l++[x])=wv l+4294967296^l.length*x:=by
 rw[Cb];simp[wv]
theorem OV(l:List Nat)(k:Nat)(h:k<l.length):l.take (k+1)=l.take k++[l.getD k 0]:=by
 rw[List.take_succ_eq_append_getElem h,qE _ _ h]
theorem Vl(l:List Nat)(k:Nat)(h:k<l.length):wv (l.take (k+1))=wv (l.take k)+4294967296^k*l.getD k 0:=by
 rw[OV l k h,xH,fL,Nat.min_eq_left ah]
theorem vF(l:List Nat)(k:Nat):wv (l.take (k+1))=wv (l.take k)+4294967296^k*l.getD k 0:=by
 by_cases h:k<l.length
 ·exact Vl l k h
 rw[List.take_of_length_le ah,List.take_of_length_le ah,bi,List.getElem?_eq_none ah]
 simp
theorem FC(l:List Nat)(k x:Nat)(h:k<l.length):(l.set k x).take (k+1)=l.take k++[x]:=by
 rw[List.set_eq_take_append_cons_drop,if_pos h,List.take_append,List.take_of_length_le vg,fL,Nat.min_eq_left ah]
 simp
theorem vG{l:List Nat}(h:wok l)(k:Nat){x:Nat}(hx:x<4294967296):wok (l.set k x):=by
 intro y hy
 rcases List.mem_or_eq_of_mem_set hy with h1|h1
 ·exact h y h1
 omega
theorem Cc(l:List Nat)(k:Nat)(h:k<l.length):l.drop k=l.getD k 0::l.drop (k+1):=by
 rw[List.drop_eq_getElem_cons h,qE _ _ h]
theorem OY(l:List Nat)(k:Nat)(hk:k<=l.length)(h:∀i,k<=i->i<l.length->l.getD i 0=0):wv (l.take k)=wv l:=by
 obtain⟨d,hd⟩:∃d,d=l.length-k:=⟨_,rfl⟩
 induction d generalizing k with
 |zero=>rw[List.take_of_length_le ah]
 |succ d ih=>
  have hlt:k<l.length:=ah
  have:=ih (k+1) ah (fun i hi hi2=>h i ah hi2) ah
  rw[Vl l k hlt,h k (al0z _) hlt] at this
  simpa using this
theorem OZ(l:List Nat)(k:Nat)(hk:k<=l.length)(h:∀j,k=j+1->l.getD j 0≠0):oM (l.take k):=by
 intro n hn
 rw[fL,Nat.min_eq_left hk] at hn
 have:=h n hn
 rw[bi,wR,if_pos ah,<-bi]
 exact this
theorem Vm(n:Nat):0<4294967296^n:=Nat.pow_pos aB
theorem Vo{l:List Nat}{n:Nat}(ht:oM l)(hl:l.length=n+1):4294967296^n<=wv l:=by
 have h1:l=l.take n++[l.getD n 0]:=by
  rw[<-OV l n ah,List.take_of_length_le ah]
 have h2:=ht n hl
 rw[h1,xH,fL,Nat.min_eq_left ah]
 have h3:1<=l.getD n 0:=ah
 have:=Nat.mul_le_mul_left (4294967296^n) h3
 omega
theorem zt{l:List Nat}(ht:oM l){n:Nat}(h:wv l<4294967296^n):l.length<=n:=by
 by_cases hc:l.length<=n
 ·exact hc
 exfalso
 obtain⟨m,hm⟩:∃m,l.length=m+1:=⟨l.length-1,ah⟩
 have h1:=Vo ht hm
 have h2:4294967296^n<=4294967296^m:=Nat.pow_le_pow_right aB ah
 omega
theorem acR{l:List Nat}(ht:oM l):wv l=0↔l=[]:=by
 constructor
 ·intro h
  have:=zt ht (n:=0) (by rw[h];decide)
  exact List.length_eq_zero_iff.1 ah
 rintro rfl;rfl
theorem Pg{a b:List Nat}(ha:wok a)(hb:oM b)(h:a.length<b.length):wv a<wv b:=by
 obtain⟨m,hm⟩:∃m,b.length=m+1:=⟨b.length-1,ah⟩
 have h1:=Vo hb hm
 have h2:=uA ha
 have h3:4294967296^a.length<=4294967296^m:=Nat.pow_le_pow_right aB ah
 omega
theorem Vp{a b:List Nat}(ha:wok a){k:Nat}(hka:k<a.length)(hl:a.length=b.length)
 (heq:∀i,k<i->i<a.length->a.getD i 0=b.getD i 0) (h:a.getD k 0<b.getD k 0):wv a<wv b:=by
 have e1:∀l:List Nat,k<l.length->wv l=wv (l.take k)+4294967296^k*(l.getD k 0+4294967296*wv (l.drop (k+1))):=by
  intro l hl
  conv=>lhs;rw[<-qh k l]
  rw[Cb,fL,Nat.min_eq_left ah,Cc l k hl,wv]
 have e2:a.drop (k+1)=b.drop (k+1):=by
  apply List.ext_getElem?
  intro i
  rw[List.getElem?_drop,List.getElem?_drop]
  by_cases hi:k+1+i<a.length
  ·have:=heq (k+1+i) ah hi
   rw[qE _ _ hi,qE _ _ ah] at this
   rw[jO hi,jO ah,this]
  rw[List.getElem?_eq_none ah,List.getElem?_eq_none ah]
 rw[e1 a hka,e1 b ah,e2]
 have h3:=uA (Fz ha k)
 rw[fL,Nat.min_eq_left ah] at h3
 have h4:(a.getD k 0+4294967296*wv (b.drop (k+1)))+1<=b.getD k 0+4294967296*wv (b.drop (k+1)):=ah
 have h5:=Nat.mul_le_mul_left (4294967296^k) h4
 rw[Nat.mul_add,Nat.mul_one] at h5
 omega
theorem acS{a b:List Nat}(hl:a.length=b.length)(heq:∀i,i<a.length->a.getD i 0=b.getD i 0):a=b:=by
 apply List.ext_getElem hl
 intro i h1 h2
 have:=heq i h1
 rwa [qE _ _ h1,qE _ _ h2] at this
theorem Ph{l:List Nat}{k:Nat}(h:k<l.length)(x:Nat):wv (l.set k x)+4294967296^k*l.getD k 0=wv l+4294967296^k*x:=by
 have e:∀y,wv (l.take k++y::l.drop (k+1))=wv (l.take k)+4294967296^k*y+4294967296^k*(4294967296*wv (l.drop (k+1))):=by
  intro y
  rw[Cb,fL,Nat.min_eq_left ah,wv,Nat.mul_add];omega
 rw[List.set_eq_take_append_cons_drop,if_pos h,e x]
 have h2:wv l=wv (l.take k++l.getD k 0::l.drop (k+1)):=by rw[<-Cc l k h,qh]
 rw[h2,e];omega
theorem hid{p:Prop}(h:p):Hid p:=h
def W32(ws:List Nat):List Value:=ws.map (fun(n:Nat)=>Value.int .u32 (n:Int))
structure Rd(w:World)(ao:Option Addr)(n cap:Nat)(ws:List Nat):Prop where
 len:ws.length=n
 room:n<=cap
 big:cap<=maxLen
 ok:wok ws
 at_:ao=none->n=0/\cap=0
 cells:∀a,ao=some a->a.spot=none/\∃cur fz,w.heap[a.block]?=some (.cells cur 172 fz)/\∀i,i<n->cur[a.off+i]?=some (.int .u32 (ws.getD i 0:Nat))
theorem Rd.lim{w:World}{ao:Option Addr}{n cap:Nat}{ws:List Nat}(h:Rd w ao n cap ws):n<=9223372036854775807/\cap<=9223372036854775807:=by
 have h1:=h.room
 have h2:=h.big
 unfold maxLen at h2
 omega
theorem Rd.nil(w:World):Rd w none 0 0 []:=⟨rfl,al0z _,iT,acP,fun _=>⟨rfl,rfl⟩,fun a h=>qA⟩
theorem Rd.addr{w:World}{ao:Option Addr}{n cap:Nat}{ws:List Nat}(h:Rd w ao n cap ws)(hn:0<n):
 ∃g off,ao=some ⟨g,off,none⟩:=by
 cases ao with
 |none=>have:=h.at_ rfl;omega
 |some a=>
  obtain⟨b,o,s⟩:=a
  have:=(h.cells _ rfl).1
  simp only at this
  subst this
  exact⟨b,o,rfl⟩
theorem Rd.cell{w:World}{g off n cap:Nat}{ws:List Nat}(h:Rd w (some ⟨g,off,none⟩) n cap ws)(i:Nat)(hi:i<n):
 w.cell? ⟨g,off+i,none⟩=some (.int .u32 (ws.getD i 0:Nat)):=by
 obtain⟨_,cur,fz,hh,hc⟩:=h.cells _ rfl
 have:=hc i hi
 simp only[World.cell?,hh,this]
 rfl
theorem Rd.lt{w:World}{ao:Option Addr}{n cap:Nat}{ws:List Nat}(h:Rd w ao n cap ws):∀a,ao=some a->a.block<w.heap.size:=by
 intro a ha
 obtain⟨_,cur,fz,hh,_⟩:=h.cells a ha
 by_cases hc:a.block<w.heap.size
 ·exact hc
 rw[Array.getElem?_eq_none ah] at hh;cases hh
theorem Rd.of_block{w w':World}{ao:Option Addr}{n cap:Nat}{ws:List Nat}(h:Rd w ao n cap ws)
 (hk:∀a,ao=some a->w'.heap[a.block]?=w.heap[a.block]?):Rd w' ao n cap ws:=
 ⟨h.len,h.room,h.big,h.ok,h.at_,fun a ha=>by
   obtain⟨h1,cur,fz,hh,hc⟩:=h.cells a ha
   exact⟨h1,cur,fz,by rw[hk a ha];exact hh,hc⟩⟩
theorem Rd.below{w w':World}{ao:Option Addr}{n cap:Nat}{ws:List Nat}(h:Rd w ao n cap ws){B:Nat}(hb:Below B w w')
 (hB:w.heap.size<=B):Rd w' ao n cap ws:=
 h.of_block fun a ha=>hb.block _ (by have:=h.lt a ha;omega)
theorem Rd.take{w:World}{ao:Option Addr}{n cap:Nat}{ws:List Nat}(h:Rd w ao n cap ws)(k:Nat)(hk:k<=n):Rd w ao k cap (ws.take k):=
 ⟨by rw[fL,h.len];omega,by have:=h.room;omega,h.big,Fz h.ok k,fun ha=>by have:=h.at_ ha;omega,
  fun a ha=>by
   obtain⟨h1,cur,fz,hh,hc⟩:=h.cells a ha
   refine⟨h1,cur,fz,hh,fun i hi=>?_⟩
   rw[hc i ah]
   have:(ws.take k).getD i 0=ws.getD i 0:=by
    rw[bi,wR,if_pos hi,<-bi]
   rw[this]⟩
theorem Rd.owned{w:World}{base:Nat}{v:Value}{n:Nat}{ws:List Nat}(h:w.ownsRow base 172 1 v n (W32 ws))(ok:wok ws):
 ∃ao cap,v=.slice ao n cap/\Rd w ao n cap ws/\(∀a,ao=some a->base<=a.block/\a.off=0/\w.frozen? a=false):=by
 obtain⟨hl,h2⟩:=h
 have hl':ws.length=n:=by simpa[W32] using hl
 rcases h2 with⟨rfl,rfl⟩|⟨g,cap,cur,rfl,hg,hh,hnc,hcm,hcs,htake⟩
 ·obtain rfl:ws=[]:=List.length_eq_zero_iff.1 hl'
  exact⟨none,0,rfl,Rd.nil w,fun a ha=>by cases ha⟩
 ·refine⟨some ⟨g,0,none⟩,cap,rfl,⟨hl',hnc,hcm,ok,(fun ha=>by cases ha),fun a ha=>?_⟩,fun a ha=>?_⟩
  ·obtain rfl:=nP ha
   refine⟨rfl,cur,(0,0),hh,fun i hi=>?_⟩
   have h3:(W32 ws)[i]?=some (.int .u32 (ws.getD i 0:Nat)):=by
    simp only[W32,rq]
    rw[jO ah,qE _ _ ah];rfl
   rw[<-htake,wR,if_pos ah] at h3
   simpa using h3
  obtain rfl:=nP ha
  exact⟨hg,rfl,by simp[World.frozen?,hh]⟩
def Nm(w:World)(v:Value)(n:Nat):Prop:=∃ao len cap ws,v=.slice ao len cap/\Rd w ao len cap ws/\oM ws/\wv ws=n
theorem Nm.below{w w':World}{v:Value}{n:Nat}(h:Nm w v n){B:Nat}(hb:Below B w w')(hB:w.heap.size<=B):Nm w' v n:=by
 obtain⟨ao,len,cap,ws,rfl,hr,ht,hn⟩:=h
 exact⟨ao,len,cap,ws,rfl,hr.below hb hB,ht,hn⟩
theorem Nm.nil(w:World):Nm w (.slice none 0 0) 0:=⟨none,0,0,[],rfl,Rd.nil w,acQ,rfl⟩
theorem vH:(Tryz.prog.info? 172).map (fun i=>(i.zero,i.size,i.bytes))=some (some (.int .u32 0),1,4):=au
def acT(ao:Option Addr)(n cap:Nat)(ws:List Nat)(e:Ending):Prop:=∃k,k<=n/\e=.returned (.slice ao k cap)/\wv (ws.take k)=wv ws/\oM (ws.take k)
theorem acU(w:World)(ao:Option Addr)(n cap:Nat)(ws:List Nat)(h:Rd w ao n cap ws):
 Calls Tryz.prog 151 #[.slice ao n cap] w fun e w'=>acT ao n cap ws e/\w=w':=by
 have hlim:=h.lim.1
 have hlim2:=h.lim.2
 have hroom:=h.room
 have hlen:=hid h.len
 go_enter Tryz.func151,Tryz.ntmps151
 go_wp2
 go_loop [3] (fun v=> ∃k:Nat,k<=n/\v=.int .i64 k/\∀i,k<=i->i<ws.length->ws.getD i 0=0) (fun v=>(intOf v).toNat)
 case atStart=>exact⟨n,al0z _,rfl,fun i h1 h2=>by have:=hlen.out;omega⟩
 case round=>
  obtain⟨k,hk,rfl,hz⟩:=hrel
  by_cases h0:0<k
  ·obtain⟨j,rfl⟩:∃j,k=j+1:=⟨k-1,ah⟩
   obtain⟨g,off,rfl⟩:=h.addr ah
   have hc:=h.cell j ah
   obtain⟨x,hx⟩:∃x,x=ws.getD j 0:=⟨_,rfl⟩
   rw[<-hx] at hc
   have HZ:=hid hz
   have HX:=hid hx
   have H:=hid h
   clear hz hx h h0
   by_cases hx0:x=0
   ·subst hx0
    go_wp2
    go_round
    case rel=>
     refine⟨j,ah,rfl,fun i h1 h2=>?_⟩
     by_cases hij:i=j
     ·subst hij;exact HX.out.symm
     exact HZ.out i ah h2
    case measure=>simp[intOf]<;>omega
   go_wp2
   go_ret
   refine⟨⟨j+1,hk,rfl,OY _ _ (by have:=hlen.out;omega) HZ.out,OZ _ _ (by have:=hlen.out;omega) ?_⟩,rfl⟩
   intro i hi
   obtain rfl:j=i:=ah
   rw[<-HX.out];exact hx0
  obtain rfl:k=0:=ah
  have HZ:=hid hz
  have H:=hid h
  clear hz h h0
  cases ao with
  |none=>
   have h1:=H.out.at_ rfl
   obtain⟨rfl,rfl⟩:=h1
   go_wp2
   go_ret
   exact⟨⟨0,al0z _,rfl,OY _ _ ah HZ.out,OZ _ _ ah (fun i hi=>ah)⟩,rfl⟩
  |some a=>
   go_wp2
   go_ret
   exact⟨⟨0,hk,rfl,OY _ _ ah HZ.out,OZ _ _ ah (fun i hi=>ah)⟩,rfl⟩
theorem acV(w:World)(ao:Option Addr)(n cap:Nat)(ws:List Nat)(h:Rd w ao n cap ws)(hn:n<=64):
 Calls Tryz.prog 204 #[.slice ao n cap] w fun e w'=> ∃v,e=.returned v/\w'.ownsRow w.heap.size 172 1 v n (W32 ws)/\w.grownBy w' none:=by
 obtain⟨i0,hi,hz0,hz1,hz2⟩:=info_parts vH
 cases ao with
 |none=>
  have h1:=h.at_ rfl
  obtain⟨rfl,rfl⟩:=h1
  obtain rfl:ws=[]:=List.length_eq_zero_iff.1 h.len
  have H:=hid h
  clear h
  go_enter Tryz.func204,Tryz.ntmps204
  go_wp2_with(at_builtin;refine wpList_append_own_none rfl _ _ 78 rfl w.heap.size 172 i0 1 Tryz.underlying78 hi _ 0 [] rfl (World.ownsRow_nil _ _ _ _) rfl ?_)
  go_ret
  exact⟨_,rfl,World.ownsRow_nil _ _ _ _,⟨rfl,rfl,rfl,al0z _,fun _ _ _=>rfl⟩⟩
 |some a=>
  have hsp:=(h.cells a rfl).1
  obtain⟨g,off,s⟩:=a
  simp only at hsp
  subst hsp
  have H:=hid h
  clear h
  go_enter Tryz.func204,Tryz.ntmps204
  go_wp2_with(at_builtin;refine wpList_append_own _ rfl _ _ 78 rfl w.heap.size 172 i0 (.int .u32 0) 1 4 Tryz.underlying78 hi hz0 hz1 hz2 rfl aB _ 0 [] rfl (World.ownsRow_nil _ _ _ _) ⟨g,off,none⟩ n cap (W32 ws) rfl ?c0 ?c1 ?c2 ?c3 ?c4 ?c5 ?_)
  case c0=>have:=H.out.len;simp[W32,this]
  case c1=>
   intro j u hj
   have hl:=H.out.len
   have hlt:j<n:=by
    by_cases hc:j<n
    ·exact hc
    rw[List.getElem?_eq_none (by simp[W32];omega)] at hj;cases hj
   have:=H.out.cell j hlt
   simp only[W32,rq,jO (show j<ws.length from ah),Option.map_some,Option.some.injEq] at hj
   subst hj
   rw[qE _ _ ah] at this
   rw[<-this]
   unfold Addr.add
   split
   ·rename_i h0;subst h0;rfl
   rfl
  case c2=>intro u hu;simp only[W32,List.mem_map] at hu;obtain⟨x,_,rfl⟩:=hu;rfl
  case c3=>unfold maxLen;omega
  case c4=>omega
  case c5=>exact al0z _
  ·intro v' w1 hown hg _
   go_wp2
   go_ret
   refine⟨v',rfl,by simpa using hown,hg⟩
def mX(w:World)(n:Nat)(e:Ending)(w':World):Prop:=(∃v,e=.returned v/\Nm w' v n)/\Below w.heap.size w w'
theorem vI(w:World)(base:Nat)(v:Value)(n:Nat)(ws:List Nat)(h:w.ownsRow base 172 1 v n (W32 ws))(ok:wok ws):
 Calls Tryz.prog 151 #[v] w fun e w'=>(∃v',e=.returned v'/\Nm w v' (wv ws))/\w=w':=by
 obtain⟨ao,cap,rfl,hr,_⟩:=Rd.owned h ok
 refine(acU w ao n cap ws hr).mono ?_
 rintro e w' ⟨⟨k,hk,rfl,h1,h2⟩,rfl⟩
 exact⟨⟨_,rfl,ao,k,cap,_,rfl,hr.take k hk,h2,h1⟩,rfl⟩
theorem xI(n:Nat):(madeCells (Value.int .u32 0).cells (n*1)).toList=W32 (List.replicate n 0):=by
 rw[Nat.mul_one]
 show(madeCells #[Value.int .u32 0] n).toList=_
 rw[toList_madeCells_one]
 simp[W32]
theorem vK(rs:List Nat)(k x:Nat):(W32 rs).set k (.int .u32 (x:Nat))=W32 (rs.set k x):=by
 simp[W32,List.map_set]
structure AddInv(w wr:World)(an:Nat)(ua ub:List Nat)(k c:Nat)(rs:List Nat):Prop where
 len:rs.length=an+1
 ok:wok rs
 val:wv (rs.take k)+4294967296^k*c=wv (ua.take k)+wv (ub.take k)
 own:wr.ownsRow w.heap.size 172 1 (.slice (some ⟨w.heap.size,0,none⟩) (an+1) (an+1)) (an+1) (W32 rs)
 bel:Below w.heap.size w wr
theorem AddInv.step{w wr:World}{an:Nat}{ua ub:List Nat}{k c:Nat}{rs:List Nat}(h:AddInv w wr an ua ub k c rs)(hk:k<an)
 {x c' xa xb:Nat} (hx:x<4294967296) (hxa:ua.getD k 0=xa) (hxb:ub.getD k 0=xb) (hv:x+4294967296*c'=c+xa+xb):
 AddInv w (wr.setCell ⟨w.heap.size,k,none⟩ (.int .u32 (x:Nat))) an ua ub (k+1) c' (rs.set k x):=by
 have hl:=h.len
 refine⟨NV,vG h.ok k hx,?_,?_,h.bel.setCell (al0z _) _⟩
 ·rw[FC _ _ _ ah,xH,fL,Nat.min_eq_left ah,vF,vF,hxa,hxb,Nat.pow_succ]
  have h1:=h.val
  have h2:4294967296^k*(x+4294967296*c')=4294967296^k*(c+xa+xb):=by rw[hv]
  simp only[Nat.mul_add] at h2
  rw[Nat.mul_assoc]
  omega
 ·have:=(h.own.stored k (.int .u32 (x:Nat))).1
  rwa [vK] at this
theorem AddInv.fin{w wr:World}{an:Nat}{ua ub:List Nat}{c:Nat}{rs:List Nat}(h:AddInv w wr an ua ub an c rs)(hc:c<4294967296)(h1:ua.length=an)(h2:ub.length<=an):
 (wr.setCell ⟨w.heap.size,an,none⟩ (.int .u32 (c:Nat))).ownsRow w.heap.size 172 1 (.slice (some ⟨w.heap.size,0,none⟩) (an+1) (an+1)) (an+1) (W32 (rs.set an c))
 /\wok (rs.set an c)/\wv (rs.set an c)=wv ua+wv ub/\Below w.heap.size w (wr.setCell ⟨w.heap.size,an,none⟩ (.int .u32 (c:Nat))):=by
 refine⟨?_,vG h.ok an hc,?_,h.bel.setCell (al0z _) _⟩
 ·have:=(h.own.stored an (.int .u32 (c:Nat))).1
  rwa [vK] at this
 ·have e:rs.set an c=(rs.set an c).take (an+1):=by rw[List.take_of_length_le];simp[h.len]
  have hv:=h.val
  rw[List.take_of_length_le (l:=ua) ah,List.take_of_length_le (l:=ub) ah] at hv
  rw[e,FC _ _ _ (by rw[h.len];omega),xH,fL,Nat.min_eq_left (by rw[h.len];omega)]
  exact hv
theorem acW(w:World)(ao bo:Option Addr)(an ac bn bc:Nat)(ua ub:List Nat)(ha:Rd w ao an ac ua)(hb:Rd w bo bn bc ub)(hn:an<=64)(hm:bn<=64)(hge:bn<=an):
 Calls Tryz.prog 145 #[.slice ao an ac,.slice bo bn bc] w (mX w (wv ua+wv ub)):=by
 obtain⟨i0,hi,hz0,hz1,hz2⟩:=info_parts vH
 have HA:=hid ha
 have HB:=hid hb
 clear ha hb
 go_enter Tryz.func145,Tryz.ntmps145
 go_wp2_with(first|(at_make;refine wpList_make_full _ rfl _ _ 78 rfl w.heap.size 172 i0 (.int .u32 0) 1 Tryz.underlying78 hi hz0 hz1 _ _ _ _ (an+1) rfl rfl az az uw iT (al0z _) ?_;intro w1 hown hgrow))
 rw[xI] at hown
 have inv0:AddInv w w1 an ua ub 0 0 (List.replicate (an+1) 0):=⟨az,xG _,by simp[wv],hown,(aA _ _).grown hgrow (al0z _) (fun k h=>qA)⟩
 clear hown hgrow
 go_loopw[6,7] (fun cv iv wr=> ∃(k c:Nat) (rs:List Nat),k<=an/\iv=.int .i64 k/\cv=.int .u64 c/\c<=1/\AddInv w wr an ua ub k c rs) (fun _ iv _=>an-(intOf iv).toNat)
 case atStart=>exact⟨0,0,_,ah,rfl,rfl,ah,inv0⟩
 case round=>
  clear inv0 w1
  obtain⟨k,c,rs,hk,rfl,rfl,hc1,inv⟩:=hrel
  have hsz:=inv.bel.size
  have hcr:∃v,wr.cell? ⟨w.heap.size,k,none⟩=some v:=by
   exact l73
  have hfr:=inv.own.frozenAt k
  obtain⟨v0,hcr⟩:=hcr
  have INV:=hid inv
  clear inv
  by_cases hka:k<an
  ·obtain⟨g,off,rfl⟩:=HA.out.addr ah
   have hca:=(HA.out.below INV.out.bel (al0z _)).cell k hka
   have hra:=kO HA.out.ok k
   generalize hxa:ua.getD k 0=xa at hca hra
   have HXA:=hid hxa
   clear hxa
   by_cases hkb:k<bn
   ·obtain⟨g2,off2,rfl⟩:=HB.out.addr ah
    have hcb:=(HB.out.below INV.out.bel (al0z _)).cell k hkb
    have hrb:=kO HB.out.ok k
    generalize hxb:ub.getD k 0=xb at hcb hrb
    exact l68
   have hxb:ub.getD k 0=0:=by
    exact acE
   exact l72
  obtain rfl:k=an:=ah
  have F:=INV.out.fin ah HA.out.len (by have:=HB.out.len;omega)
  exact l79
theorem acX(w:World)(ao bo:Option Addr)(an ac bn bc:Nat)(ua ub:List Nat)(ha:Rd w ao an ac ua)(hb:Rd w bo bn bc ub)(hn:an<=64)(hm:bn<=64)(hge:an<bn):
 Calls Tryz.prog 145 #[.slice ao an ac,.slice bo bn bc] w (mX w (wv ua+wv ub)):=by
 obtain⟨i0,hi,hz0,hz1,hz2⟩:=info_parts vH
 rw[Nat.add_comm (wv ua)]
 have HA:=hid ha
 have HB:=hid hb
 clear ha hb
 go_enter Tryz.func145,Tryz.ntmps145
 go_wp2_with(first|(at_make;refine wpList_make_full _ rfl _ _ 78 rfl w.heap.size 172 i0 (.int .u32 0) 1 Tryz.underlying78 hi hz0 hz1 _ _ _ _ (bn+1) rfl rfl az az uw iT (al0z _) ?_;intro w1 hown hgrow))
 rw[xI] at hown
 have inv0:AddInv w w1 bn ub ua 0 0 (List.replicate (bn+1) 0):=⟨az,xG _,by simp[wv],hown,(aA _ _).grown hgrow (al0z _) (fun k h=>qA)⟩
 clear hown hgrow
 go_loopw[6,7] (fun cv iv wr=> ∃(k c:Nat) (rs:List Nat),k<=bn/\iv=.int .i64 k/\cv=.int .u64 c/\c<=1/\AddInv w wr bn ub ua k c rs) (fun _ iv _=>bn-(intOf iv).toNat)
 case atStart=>exact⟨0,0,_,ah,rfl,rfl,ah,inv0⟩
 case round=>
  clear inv0 w1
  obtain⟨k,c,rs,hk,rfl,rfl,hc1,inv⟩:=hrel
  have hsz:=inv.bel.size
  have hcr:∃v,wr.cell? ⟨w.heap.size,k,none⟩=some v:=by
   exact l73
  have hfr:=inv.own.frozenAt k
  obtain⟨v0,hcr⟩:=hcr
  have INV:=hid inv
  clear inv
  by_cases hka:k<bn
  ·obtain⟨g,off,rfl⟩:=HB.out.addr ah
   have hca:=(HB.out.below INV.out.bel (al0z _)).cell k hka
   have hra:=kO HB.out.ok k
   generalize hxa:ub.getD k 0=xa at hca hra
   have HXA:=hid hxa
   clear hxa
   by_cases hkb:k<an
   ·obtain⟨g2,off2,rfl⟩:=HA.out.addr ah
    have hcb:=(HA.out.below INV.out.bel (al0z _)).cell k hkb
    have hrb:=kO HA.out.ok k
    generalize hxb:ua.getD k 0=xb at hcb hrb
    exact l68
   have hxb:ua.getD k 0=0:=by
    rw[bi,List.getElem?_eq_none (by have:=HA.out.len;omega)];rfl
   exact l72
  obtain rfl:k=bn:=ah
  have F:=INV.out.fin ah HB.out.len (by have:=HA.out.len;omega)
  exact l79
def Sm(n:Nat):Prop:=n<4294967296^60
theorem Nm.len{w:World}{v:Value}{n:Nat}(h:Nm w v n)(hs:Sm n):∃ao len cap ws,v=.slice ao len cap/\Rd w ao len cap ws/\oM ws/\wv ws=n/\len<=60:=by
 obtain⟨ao,len,cap,ws,rfl,hr,ht,hn⟩:=h
 exact⟨ao,len,cap,ws,rfl,hr,ht,hn,by rw[<-hr.len];exact zt ht (by rw[hn];exact hs)⟩
theorem Vq(w:World)(va vb:Value)(a b:Nat)(ha:Nm w va a)(hb:Nm w vb b)(sa:Sm a)(sb:Sm b):
 Calls Tryz.prog 145 #[va,vb] w (mX w (a+b)):=by
 obtain⟨ao,an,ac,ua,rfl,hra,hta,rfl,hla⟩:=ha.len sa
 obtain⟨bo,bn,bc,ub,rfl,hrb,htb,rfl,hlb⟩:=hb.len sb
 by_cases h:bn<=an
 ·exact acW w ao bo an ac bn bc ua ub hra hrb ah ah h
 ·exact acX w ao bo an ac bn bc ua ub hra hrb ah ah ah
def fU(a b:Nat):Int:=if a<b then-1 else if b<a then 1 else 0
theorem Ce{a b:Nat}(h:a<b):fU a b= -1:=by unfold fU;rw[if_pos h]
theorem Vr{a b:Nat}(h:b<a):fU a b=1:=by unfold fU;rw[if_neg ah,if_pos h]
theorem acY(a:Nat):fU a a=0:=by unfold fU;rw[if_neg ah,if_neg ah]
theorem acZ(w:World)(ao bo:Option Addr)(an ac bn bc:Nat)(ua ub:List Nat)(ha:Rd w ao an ac ua)(hb:Rd w bo bn bc ub)(hta:oM ua)(htb:oM ub)(hn:an<=64)(hm:bn<=64):
 Calls Tryz.prog 152 #[.slice ao an ac,.slice bo bn bc] w fun e w'=>e=.returned (.int .i64 (fU (wv ua) (wv ub)))/\∃n,w'=w.drewN n:=by
 have HA:=hid ha
 have HB:=hid hb
 have HTA:=hid hta
 have HTB:=hid htb
 clear ha hb hta htb
 rcases Nat.lt_trichotomy an bn with hlt|heq|hgt
 ·have hv:fU (wv ua) (wv ub)= -1:=Ce (Pg HA.out.ok HTB.out (by rw[HA.out.len,HB.out.len];exact hlt))
  exact l94
 ·obtain rfl:=heq
  go_enter Tryz.func152,Tryz.ntmps152
  go_wp2
  go_loopw[5] (fun iv wr=> ∃k:Nat,k<=an/\iv=.int .i64 ((k:Int)-1)/\(∀i,k<=i->i<ua.length->ua.getD i 0=ub.getD i 0)/\∃n,wr=w.drewN n) (fun iv _=>(intOf iv+1).toNat)
  case atStart=>exact⟨an,ah,rfl,fun i h1 h2=>by have:=HA.out.len;omega,0,rfl⟩
  case round=>
   obtain⟨k,hk,rfl,hz,n,rfl⟩:=hrel
   have HZ:=hid hz
   clear hz
   by_cases h0:0<k
   ·obtain⟨j,rfl⟩:∃j,k=j+1:=⟨k-1,ah⟩
    rw[show(((j+1:Nat):Int)-1)=(j:Int) from ah]
    obtain⟨g,off,rfl⟩:=HA.out.addr ah
    obtain⟨g2,off2,rfl⟩:=HB.out.addr ah
    have hca:=HA.out.cell j ah
    have hcb:=HB.out.cell j ah
    generalize hxa:ua.getD j 0=xa at hca
    generalize hxb:ub.getD j 0=xb at hcb
    have HXA:=hid hxa
    have HXB:=hid hxb
    clear hxa hxb
    rcases Nat.lt_trichotomy xa xb with hlt|heq|hgt
    ·have hv:fU (wv ua) (wv ub)= -1:=Ce (Vp HA.out.ok (k:=j) Bo UX (fun i h1 h2=>HZ.out i ah h2) (by rw[HXA.out,HXB.out];exact hlt))
     exact l87
    ·obtain rfl:=heq
     go_wp2
     go_quiet (fail)
     go_wp2
     go_roundw
     case rel=>
      refine⟨j,ah,rfl,fun i h1 h2=>?_,_,rfl⟩
      by_cases hij:i=j
      ·rw[hij,HXA.out,HXB.out]
      exact HZ.out i ah h2
     case measure=>simp[intOf]<;>omega
    have hv:fU (wv ua) (wv ub)=1:=Vr (Vp HB.out.ok (k:=j) (by rw[HB.out.len];omega) UX (fun i h1 h2=>(HZ.out i ah (by rw[HA.out.len];rw[HB.out.len] at h2;exact h2)).symm) (by rw[HXA.out,HXB.out];exact hgt))
    exact l87
   obtain rfl:k=0:=ah
   have hv:fU (wv ua) (wv ub)=0:=by
    rw[acS UX (fun i h1=>HZ.out i ah h1),acY]
   have HV:=hid hv
   clear hv
   go_wp2
   go_ret
   refine⟨by rw[HV.out];rfl,?_⟩;(try simp only[World.drewN_drewN]);exact⟨_,rfl⟩
 ·have hv:fU (wv ua) (wv ub)=1:=Vr (Pg HB.out.ok HTA.out (by rw[HA.out.len,HB.out.len];exact hgt))
  exact l94
theorem zu(w:World)(va vb:Value)(a b:Nat)(ha:Nm w va a)(hb:Nm w vb b)(sa:Sm a)(sb:Sm b):
 Calls Tryz.prog 152 #[va,vb] w fun e w'=>e=.returned (.int .i64 (fU a b))/\∃n,w'=w.drewN n:=by
 obtain⟨ao,an,ac,ua,rfl,hra,hta,rfl,hla⟩:=ha.len sa
 obtain⟨bo,bn,bc,ub,rfl,hrb,htb,rfl,hlb⟩:=hb.len sb
 exact acZ w ao bo an ac bn bc ua ub hra hrb hta htb ah ah
theorem FH(w:World)(x:Int)(h0:0<=x)(h1:x<=18446744073709551615):
 Calls Tryz.prog 146 #[.int .u64 x] w (mX w x.toNat):=by
 obtain⟨n,rfl⟩:=dP h0
 have hO:=World.ownsRow_lit (base:=w.heap.size) (e:=172) (size:=1) w #[.int .u32 (((n%4294967296:Nat)):Int),.int .u32 ((n/4294967296:Nat):Int)] 2 (al0z _) iT rfl
 have hok:wok [n%4294967296,n/4294967296]:=by
  intro y hy
  simp only[zf,zg,or_false] at hy
  omega
 have hv:wv [n%4294967296,n/4294967296]=n:=by simp only[wv];omega
 have H:=hid (And.intro hO (And.intro hok hv))
 clear hO hok hv
 go_enter Tryz.func146,Tryz.ntmps146
 go_wp2_with fail
 rw[show((n:Int)%4294967296)=((n%4294967296:Nat):Int) from ah,show((n:Int)/4294967296)=((n/4294967296:Nat):Int) from ah]
 refine(vI _ w.heap.size _ 2 [n%4294967296,n/4294967296] H.out.1 H.out.2.1).mono ?_
 rintro e w' ⟨⟨v',rfl,hnm⟩,rfl⟩
 rw[H.out.2.2] at hnm
 go_wp2
 go_ret
 exact⟨⟨v',rfl,hnm⟩,(aA _ _).alloc (al0z _) _⟩
theorem Vs(w:World)(v:Value)(n:Nat)(h:Nm w v n)(hn:n<18446744073709551616):
 Calls Tryz.prog 205 #[v] w fun e w'=>e=.returned (.int .u64 (n:Nat))/\w=w':=by
 obtain⟨ao,len,cap,ws,rfl,hr,ht,rfl⟩:=h
 have hl:ws.length<=2:=zt ht (n:=2) vp
 have hlen:=hr.len
 match ws,hlen,hr,ht,hn,hl with
 |[],hlen,hr,ht,hn,hl=>
  obtain rfl:len=0:=Bh
  clear hr ht hn hl hlen
  go_enter Tryz.func205,Tryz.ntmps205
  go_wp2
  go_ret
  exact⟨rfl,rfl⟩
 |[a],hlen,hr,ht,hn,hl=>
  obtain rfl:len=1:=Bh
  obtain⟨g,off,rfl⟩:=hr.addr ah
  have hc:=hr.cell 0 ah
  simp at hc
  have ha:=(uz.1 hr.ok).1
  clear hr ht hn hl hlen
  go_enter Tryz.func205,Tryz.ntmps205
  go_wp2
  go_ret
  exact⟨by simp[wv],rfl⟩
 |[a,b],hlen,hr,ht,hn,hl=>
  obtain rfl:len=2:=Bh
  obtain⟨g,off,rfl⟩:=hr.addr ah
  have hc:=hr.cell 0 ah
  have hc1:=hr.cell 1 ah
  simp at hc hc1
  have ha:=(uz.1 hr.ok).1
  have hb:=(uz.1 (uz.1 hr.ok).2).1
  clear hr ht hn hl hlen
  go_enter Tryz.func205,Tryz.ntmps205
  go_wp2
  go_ret
  refine⟨?_,rfl⟩
  have e:bits BinOp.or IntKind.u64 (a:Int) ((b:Int)*4294967296)=((a+b*4294967296:Nat):Int):=by
   rw[show((b:Int)*4294967296)=((b*4294967296:Nat):Int) from ah,u64_or_nat _ _ ah ah,Nat.or_comm,
    nat_join 32 _ _ ah ah,Nat.add_comm]
  show Ending.returned (.int .u64 (bits BinOp.or IntKind.u64 (a:Int) ((b:Int)*4294967296)))=_
  rw[e]
  simp only[wv]
  rw[show a+b*4294967296=a+4294967296*(b+4294967296*0) from ah]
def fH(n:Nat):Nat:=if n=0 then 0 else Nat.log2 n+1
theorem ac1(x:Nat)(h:x≠0):fH x=fH (x/2)+1:=by
 unfold fH
 rw[if_neg h]
 rw[Nat.log2_def]
 by_cases h2:2<=x
 ·rw[if_pos h2,if_neg ah]
 rw[if_neg h2,if_pos ah]
theorem Cf(n:Nat):n<2^fH n:=by
 unfold fH
 split
 ·subst n;decide
 exact Nat.lt_log2_self
theorem xJ{n k:Nat}(h:n<2^k):fH n<=k:=by
 unfold fH
 split
 ·omega
 rename_i h0
 have:=(Nat.log2_lt h0).2 h
 omega
theorem ac2{n:Nat}(h:n≠0):2^(fH n-1)<=n:=by
 unfold fH
 rw[if_neg h]
 exact Nat.log2_self_le h
theorem FK{n k:Nat}(h1:2^k<=n)(h2:n<2^(k+1)):fH n=k+1:=by
 have h0:n≠0:=by have:=Nat.two_pow_pos k;omega
 have h3:=xJ h2
 by_cases hc:fH n<=k
 ·have h4:=Cf n
  have:=Nat.pow_le_pow_right (show 0<2 from ah) hc
  omega
 omega
theorem ac3{l:List Nat}{n:Nat}(hok:wok l)(ht:oM l)(hl:l.length=n+1):fH (wv l)=n*32+fH (l.getD n 0):=by
 have hx:=ht n hl
 have h1:l=l.take n++[l.getD n 0]:=by
  rw[<-OV l n ah,List.take_of_length_le ah]
 have h2:wv l=wv (l.take n)+4294967296^n*l.getD n 0:=by
  conv=>lhs;rw[h1]
  rw[xH,fL,Nat.min_eq_left ah]
 have h3:=uA (Fz hok n)
 rw[fL,Nat.min_eq_left ah] at h3
 have hp:(4294967296:Nat)^n=2^(n*32):=by rw[show 4294967296=2^32 from rfl,<-Nat.pow_mul,Nat.mul_comm]
 generalize l.getD n 0=x at*
 obtain⟨k,hk⟩:∃k,fH x=k+1:=⟨fH x-1,by unfold fH;rw[if_neg hx];omega⟩
 have h4:=ac2 hx
 have h5:=Cf x
 rw[hk] at h4 h5
 simp only[Nat.add_sub_cancel] at h4
 rw[hk,show n*32+(k+1)=(n*32+k)+1 from ah]
 refine FK ?_ ?_
 ·rw[h2,Nat.pow_add,<-hp]
  have:=Nat.mul_le_mul_left (4294967296^n) h4
  omega
 rw[h2,show n*32+k+1=n*32+(k+1) from ah,Nat.pow_add,<-hp]
 have:=Nat.mul_le_mul_left (4294967296^n) (show x+1<=2^(k+1) from h5)
 rw[Nat.mul_add] at this
 omega
theorem Pi(w:World)(v:Value)(n:Nat)(h:Nm w v n)(hs:Sm n):
 Calls Tryz.prog 154 #[v] w fun e w'=>e=.returned (.int .i64 (fH n:Nat))/\w=w':=by
 obtain⟨ao,len,cap,ws,rfl,hr,ht,rfl,hl⟩:=h.len hs
 cases len with
 |zero=>
  obtain rfl:ws=[]:=List.length_eq_zero_iff.1 hr.len
  clear hr ht hs h
  go_enter Tryz.func154,Tryz.ntmps154
  go_wp2
  go_ret
  exact⟨rfl,rfl⟩
 |succ m=>
  have HB:=hid (ac3 hr.ok ht hr.len)
  obtain⟨g,off,rfl⟩:=hr.addr ah
  have hc:=hr.cell m ah
  have hx:=kO hr.ok m
  generalize hy:ws.getD m 0=y at hc hx
  rw[hy] at HB
  have hy0:fH y<=32:=xJ hx
  clear hr ht hs hy h
  go_enter Tryz.func154,Tryz.ntmps154
  go_wp2
  go_loop [3,4] (fun nv tv=> ∃k x:Nat,nv=.int .i64 k/\tv=.int .u32 x/\x<4294967296/\k+fH x=fH y) (fun _ tv=>(intOf tv).toNat)
  case atStart=>exact⟨0,y,rfl,rfl,hx,ah⟩
  case round=>
   obtain⟨k,x,rfl,rfl,hxl,hkx⟩:=hrel
   have HK:=hid hkx
   have hk32:k<=32:=ah
   clear hkx
   by_cases hx0:x=0
   ·subst hx0
    go_wp2
    go_ret
    refine⟨?_,rfl⟩
    have h1:=HK.out
    have h2:fH 0=0:=rfl
    rw[HB.out,<-h1,h2]
    simp
   have hne:((x:Int) !=0)=true:=by rw[bne_iff_ne];omega
   go_wp2
   go_round
   case rel=>
    refine⟨k+1,x/2,az,az,ah,?_⟩
    have h1:=HK.out
    rw[ac1 x hx0] at h1
    omega
   case measure=>simp[intOf]<;>omega
structure LeftInv(w wr:World)(q s m:Nat)(ua:List Nat)(k:Nat)(rs:List Nat):Prop where
 len:rs.length=m
 ok:wok rs
 val:wv rs=4294967296^q*(2^s*wv (ua.take k))
 top:∀j,k+q<j->rs.getD j 0=0
 carry:rs.getD (k+q) 0<2^s
 own:wr.ownsRow w.heap.size 172 1 (.slice (some ⟨w.heap.size,0,none⟩) m m) m (W32 rs)
 bel:Below w.heap.size w wr
theorem Ci(l:List Nat)(i j x:Nat)(h:i<l.length):(l.set i x).getD j 0=if i=j then x else l.getD j 0:=by
 rw[bi,List.getElem?_set]
 by_cases hij:i=j
 ·subst hij;simp[h]
 rw[if_neg hij,if_neg hij,bi]
theorem Pj(m j:Nat):(List.replicate m 0).getD j 0=0:=by
 rw[bi,List.getElem?_replicate];split<;>rfl
theorem LeftInv.step{w wr:World}{q s m:Nat}{ua:List Nat}{k:Nat}{rs:List Nat}(h:LeftInv w wr q s m ua k rs)(hm:k+q+1<m)(hs:s<32)
 {xa c:Nat} (hx:xa<4294967296) (hxa:ua.getD k 0=xa) (hc:rs.getD (k+q) 0=c):
 LeftInv w ((wr.setCell ⟨w.heap.size,k+q,none⟩ (.int .u32 ((c+xa*2^s%4294967296:Nat):Int))).setCell ⟨w.heap.size,k+q+1,none⟩ (.int .u32 ((xa*2^s/4294967296:Nat):Int))) q s m ua (k+1)
  ((rs.set (k+q) (c+xa*2^s%4294967296)).set (k+q+1) (xa*2^s/4294967296)):=by
 have hl:=h.len
 have hcs:=h.carry
 rw[hc] at hcs
 obtain⟨t,ht⟩:∃t,32=s+t:=⟨32-s,ah⟩
 have hP:(4294967296:Nat)=2^s*2^t:=by rw[<-Nat.pow_add,<-ht]
 have hmod:xa*2^s%4294967296=2^s*(xa%2^t):=by
  rw[hP,Nat.mul_comm xa,Nat.mul_mod_mul_left]
 have hdiv:xa*2^s/4294967296<2^s:=by
  rw[Nat.div_lt_iff_lt_mul aB,Nat.mul_comm]
  exact Nat.mul_lt_mul_of_pos_left hx (Nat.two_pow_pos s)
 have hc1:c+xa*2^s%4294967296<4294967296:=by
  rw[hmod]
  have h1:xa%2^t<2^t:=Nat.mod_lt _ (Nat.two_pow_pos t)
  have h2:=Nat.mul_le_mul_left (2^s) (show xa%2^t+1<=2^t from h1)
  rw[Nat.mul_add,<-hP] at h2
  omega
 have hd1:xa*2^s/4294967296<4294967296:=by
  have:2^s<=2^32:=Nat.pow_le_pow_right aB ah
  omega
 refine⟨vu,vG (vG h.ok _ hc1) _ hd1,?_,?_,?_,?_,(h.bel.setCell (al0z _) _).setCell (al0z _) _⟩
 ·have e1:=Ph (l:=rs) (k:=k+q) ah (c+xa*2^s%4294967296)
  have e2:=Ph (l:=rs.set (k+q) (c+xa*2^s%4294967296)) (k:=k+q+1) aJ (xa*2^s/4294967296)
  rw[Ci _ _ _ _ ah,if_neg ah,h.top _ ah] at e2
  rw[hc] at e1
  have e3:=h.val
  rw[vF,hxa]
  have e4:4294967296^(k+q+1)*(xa*2^s/4294967296)+4294967296^(k+q)*(xa*2^s%4294967296)=4294967296^(k+q)*(xa*2^s):=by
   rw[Nat.pow_succ,Nat.mul_assoc,<-Nat.mul_add,Nat.div_add_mod]
  have e5:4294967296^q*(2^s*(wv (ua.take k)+4294967296^k*xa))=4294967296^q*(2^s*wv (ua.take k))+4294967296^(k+q)*(xa*2^s):=by
   rw[Nat.mul_add,Nat.mul_add,Nat.pow_add,Nat.mul_comm xa]
   congr 1
   rw[Nat.mul_left_comm (2^s),<-Nat.mul_assoc,Nat.mul_comm (4294967296^q)]
  rw[e5,<-e4,<-e3]
  rw[Nat.mul_add] at e1
  omega
 ·intro j hj
  rw[Ci _ _ _ _ aJ,if_neg ah,Ci _ _ _ _ ah,if_neg ah]
  exact h.top j ah
 ·rw[Ci _ _ _ _ aJ,if_pos ah]
  exact hdiv
 ·have h1:=(h.own.stored (k+q) (.int .u32 ((c+xa*2^s%4294967296:Nat):Int))).1
  rw[vK] at h1
  have h2:=(h1.stored (k+q+1) (.int .u32 ((xa*2^s/4294967296:Nat):Int))).1
  rwa [vK] at h2
theorem ac4{xa c s:Nat}(hx:xa<4294967296)(hs:s<32)(hc:c<2^s):
 bits BinOp.or IntKind.u32 (c:Int) (IntKind.u64.wrap ((xa:Int)*2^s)%4294967296)=((c+xa*2^s%4294967296:Nat):Int)/\
 bits BinOp.or IntKind.u32 0 (IntKind.u64.wrap ((xa:Int)*2^s)/4294967296%4294967296)=((xa*2^s/4294967296:Nat):Int):=by
 have h1:xa*2^s<18446744073709551616:=by
  have h2:2^s<=2^32:=Nat.pow_le_pow_right aB ah
  have h3:xa*2^s<=xa*2^32:=Nat.mul_le_mul_left _ h2
  omega
 have e0:IntKind.u64.wrap ((xa:Int)*2^s)=((xa*2^s:Nat):Int):=by
  rw[show((xa:Int)*2^s)=((xa*2^s:Nat):Int) from az]
  have:IntKind.u64.wrap ((xa*2^s:Nat):Int)=((xa*2^s:Nat):Int)%18446744073709551616:=by
   simp[IntKind.wrap,IntKind.signed,IntKind.bits]
  rw[this];omega
 have hc2:c<4294967296:=by
  have h2:2^s<=2^32:=Nat.pow_le_pow_right aB ah
  omega
 rw[e0]
 constructor
 ·rw[show(((xa*2^s:Nat):Int)%4294967296)=((xa*2^s%4294967296:Nat):Int) from ah,u32_or_nat _ _ hc2 ah,Nat.or_comm,
   nat_join s _ _ ?_ hc,Nat.add_comm]
  rw[Nat.mod_mod_of_dvd]
  ·exact Nat.mul_mod_left _ _
  exact⟨2^(32-s),by rw[<-Nat.pow_add,Nat.add_sub_cancel' ah]⟩
 ·rw[show(((xa*2^s:Nat):Int)/4294967296%4294967296)=((xa*2^s/4294967296:Nat):Int) from ah]
  rw[show(0:Int)=((0:Nat):Int) from rfl,u32_or_nat _ _ ah ah]
  simp
theorem ac5(w:World)(va:Value)(a n:Nat)(ha:Nm w va a)(sa:Sm a)(hn:n<=1000):
 Calls Tryz.prog 79 #[va,.int .u64 (n:Nat)] w (mX w (a*2^n)):=by
 obtain⟨i0,hi,hz0,hz1,hz2⟩:=info_parts vH
 obtain⟨ao,an,ac,ua,rfl,hra,hta,rfl,hla⟩:=ha.len sa
 cases an with
 |zero=>
  obtain rfl:ua=[]:=List.length_eq_zero_iff.1 hra.len
  clear hra hta ha sa
  go_enter Tryz.func79,Tryz.ntmps79
  go_wp2
  go_ret
  exact⟨⟨_,rfl,by simpa[wv] using Nm.nil w⟩,aA _ _⟩
 |succ an=>
 have HA:=hid hra
 clear hra hta ha sa
 obtain⟨g,off,rfl⟩:=HA.out.addr ah
 obtain⟨q,s,hs,hq,HN⟩:∃q s,s<32/\q<=40/\Hid (n=32*q+s):=⟨n/32,n%32,ah,ah,hid ah⟩
 have eq:(n:Int)/32=(q:Int):=jo
 have es:(n:Int)%32=(s:Int):=jo
 go_enter Tryz.func79,Tryz.ntmps79
 go_wp2_with(first
  |(at_make;refine wpList_make_full _ rfl _ _ 78 rfl w.heap.size 172 i0 (.int .u32 0) 1 Tryz.underlying78 hi hz0 hz1 _ _ _ _ (an+1+q+1) rfl rfl ah ah uw iT (al0z _) ?_;intro w1 hown hgrow)
  )
 rw[xI] at hown
 have inv0:LeftInv w w1 q s (an+1+q+1) ua 0 (List.replicate (an+1+q+1) 0):=⟨az,xG _,by simp[wv,Vk],fun j _=>Pj _ _,by rw[Pj];exact Nat.two_pow_pos s,hown,(aA _ _).grown hgrow (al0z _) (fun k h=>qA)⟩
 clear hown hgrow
 go_loopw[8,9] (fun iv _ wr=> ∃(k:Nat) (rs:List Nat),k<=an+1/\iv=.int .i64 k/\LeftInv w wr q s (an+1+q+1) ua k rs) (fun iv _ _=>an+1-(intOf iv).toNat)
 case atStart=>exact⟨0,_,ah,rfl,inv0⟩
 case round=>
  clear inv0 w1
  obtain⟨k,rs,hk,rfl,inv⟩:=hrel
  have hsz:=inv.bel.size
  by_cases hka:k<an+1
  ·have hca:=(HA.out.below inv.bel (al0z _)).cell k hka
   have hra:=kO HA.out.ok k
   generalize hxa:ua.getD k 0=xa at hca hra
   have HXA:=hid hxa
   clear hxa
   obtain⟨c,hc⟩:∃c,rs.getD (k+q) 0=c:=⟨_,rfl⟩
   have hcr:wr.cell? ⟨w.heap.size,k+q,none⟩=some (.int .u32 (c:Nat)):=by
    rw[inv.own.cellAt (k+q) ah,<-hc,qE _ _ (by rw[inv.len];omega)]
    simp[W32,inv.len,show k+q<an+1+q+1 from ah]
   have hcr2:wr.cell? ⟨w.heap.size,k+q+1,none⟩=some (.int .u32 0):=by
    have h0:=inv.top (k+q+1) ah
    rw[qE _ _ (by rw[inv.len];omega)] at h0
    rw[inv.own.cellAt (k+q+1) ah]
    simp[W32,inv.len,show k+q+1<an+1+q+1 from ah,h0]
   have hfr:=inv.own.frozenAt (k+q)
   have hfr2:=inv.own.frozenAt (k+q+1)
   have hcs:=inv.carry
   rw[hc] at hcs
   have HC:=hid (And.intro hc hcs)
   have INV:=hid inv
   clear inv hc hcs
   go_wp2
   go_roundw
   case rel=>
    obtain⟨e1,e2⟩:=ac4 hra hs HC.out.2
    rw[e1,e2]
    exact⟨k+1,_,ah,az,INV.out.step ah hs hra HXA.out HC.out.1⟩
   case measure=>simp[intOf]<;>omega
  obtain rfl:k=an+1:=ah
  have INV:=hid inv
  clear inv
  go_wp2_with(go_at_call 151;refine(vI _ w.heap.size _ (an+1+q+1) rs INV.out.own INV.out.ok).mono ?_;rintro e w' ⟨⟨v',rfl,hnm⟩,rfl⟩)
  go_ret
  refine⟨⟨v',rfl,?_⟩,INV.out.bel⟩
  have hv:=INV.out.val
  rw[List.take_of_length_le Bo] at hv
  rw[HN.out,Nat.pow_add,Nat.pow_mul,Nat.mul_comm,Nat.mul_assoc,show(2:Nat)^32=4294967296 from rfl,<-hv]
  exact hnm
structure RightInv(w wr:World)(m M:Nat)(k:Nat)(rs:List Nat):Prop where
 len:rs.length=m
 ok:wok rs
 val:wv (rs.take k)=M%4294967296^k
 own:wr.ownsRow w.heap.size 172 1 (.slice (some ⟨w.heap.size,0,none⟩) m m) m (W32 rs)
 bel:Below w.heap.size w wr
theorem RightInv.step{w wr:World}{m M k:Nat}{rs:List Nat}(h:RightInv w wr m M k rs)(hk:k<m){x:Nat}(hx:x=M/4294967296^k%4294967296):
 RightInv w (wr.setCell ⟨w.heap.size,k,none⟩ (.int .u32 (x:Nat))) m M (k+1) (rs.set k x):=by
 have hl:=h.len
 have hlt:x<4294967296:=by rw[hx];exact Nat.mod_lt _ aB
 refine⟨NV,vG h.ok k hlt,?_,?_,h.bel.setCell (al0z _) _⟩
 ·rw[FC _ _ _ ah,xH,fL,Nat.min_eq_left ah,h.val,hx,Nat.pow_succ,Nat.mod_mul]
 ·have:=(h.own.stored k (.int .u32 (x:Nat))).1
  rwa [vK] at this
theorem Vt(l:List Nat)(hok:wok l)(q:Nat)(h:q<=l.length):wv (l.drop q)=wv l/4294967296^q:=by
 have e:wv l=wv (l.take q)+4294967296^q*wv (l.drop q):=by
  conv=>lhs;rw[<-qh q l]
  rw[Cb,fL,Nat.min_eq_left h]
 have hlt:=uA (Fz hok q)
 rw[fL,Nat.min_eq_left h] at hlt
 rw[e,Nat.add_mul_div_left _ _ (Vm q),Nat.div_eq_of_lt hlt,Nat.zero_add]
theorem ac6(l:List Nat)(hok:wok l)(q s k:Nat)(hs:s<32)(hk:q+k<l.length):
 wv l/2^(32*q+s)/4294967296^k%4294967296=(l.getD (q+k) 0+4294967296*l.getD (q+k+1) 0)/2^s%4294967296:=by
 obtain⟨t,ht⟩:∃t,32=s+t:=⟨32-s,ah⟩
 have hP:(4294967296:Nat)=2^s*2^t:=by rw[<-Nat.pow_add,<-ht]
 rw[Nat.pow_add,Nat.pow_mul,show(2:Nat)^32=4294967296 from rfl,<-Nat.div_div_eq_div_mul,Nat.div_div_eq_div_mul,Nat.mul_comm (2^s),<-Nat.div_div_eq_div_mul,Nat.div_div_eq_div_mul (wv l),<-Nat.pow_add,<-Vt l hok _ ah]
 rw[Cc l (q+k) hk,wv]
 by_cases h2:q+k+1<l.length
 ·rw[Cc l (q+k+1) h2,wv]
  generalize l.getD (q+k) 0=a
  generalize l.getD (q+k+1) 0=b
  generalize wv (l.drop (q+k+1+1))=R
  have e:a+4294967296*(b+4294967296*R)=(a+4294967296*b)+2^s*(4294967296*(2^t*R)):=by
   rw[Nat.mul_add,<-Nat.add_assoc]
   congr 1
   conv=>lhs;rw[show 4294967296*(4294967296*R)=4294967296*(R*4294967296) from by rw[Nat.mul_comm R]]
   rw[<-Nat.mul_assoc (2^s),Nat.mul_comm (2^s) 4294967296,Nat.mul_assoc 4294967296,<-Nat.mul_assoc (2^s),<-hP,Nat.mul_comm R]
  rw[e,Nat.add_mul_div_left _ _ (Nat.two_pow_pos s),Nat.add_mul_mod_self_left]
 ·rw[List.drop_of_length_le ah]
  have:l.getD (q+k+1) 0=0:=abI
  rw[this]
  rfl
theorem ac7{a b s:Nat}(ha:a<4294967296)(hb:b<4294967296)(hs:s<32):
 bits BinOp.or IntKind.u64 (a:Int) ((b:Int)*4294967296)/2^s%4294967296=(((a+4294967296*b)/2^s%4294967296:Nat):Int):=by
 have e:bits BinOp.or IntKind.u64 (a:Int) ((b:Int)*4294967296)=((a+4294967296*b:Nat):Int):=by
  exact abM
 rw[e]
 simp
theorem Vu(w:World)(va:Value)(a n:Nat)(ha:Nm w va a)(sa:Sm a)(hn:n<=10000):
 Calls Tryz.prog 147 #[va,.int .u64 (n:Nat)] w (mX w (a/2^n)):=by
 obtain⟨i0,hi,hz0,hz1,hz2⟩:=info_parts vH
 obtain⟨ao,an,ac,ua,rfl,hra,hta,rfl,hla⟩:=ha.len sa
 obtain⟨q,s,hs,hq,HN⟩:∃q s,s<32/\q<=400/\Hid (n=32*q+s):=⟨n/32,n%32,ah,ah,hid ah⟩
 have eq:(n:Int)/32=(q:Int):=jo
 have es:(n:Int)%32=(s:Int):=jo
 have HA:=hid hra
 clear hra hta ha sa
 by_cases hqa:an<=q
 ·have h0:wv ua/2^n=0:=by
   rw[HN.out,Nat.pow_add,Nat.pow_mul,show(2:Nat)^32=4294967296 from rfl,<-Nat.div_div_eq_div_mul]
   have h1:=uA HA.out.ok
   rw[HA.out.len] at h1
   have h2:(4294967296:Nat)^an<=4294967296^q:=Nat.pow_le_pow_right aB hqa
   rw[Nat.div_eq_of_lt (a:=wv ua) ah,Nat.zero_div]
  have H0:=hid h0
  clear h0
  go_enter Tryz.func147,Tryz.ntmps147
  go_wp2
  go_ret
  exact⟨⟨_,rfl,by rw[H0.out];exact Nm.nil w⟩,aA _ _⟩
 ·obtain⟨g,off,rfl⟩:=HA.out.addr ah
  obtain⟨m,hm⟩:∃m,an=q+m+1:=⟨an-q-1,ah⟩
  obtain rfl:=hm
  go_enter Tryz.func147,Tryz.ntmps147
  go_wp2_with(first
   |(at_make;refine wpList_make_full _ rfl _ _ 78 rfl w.heap.size 172 i0 (.int .u32 0) 1 Tryz.underlying78 hi hz0 hz1 _ _ _ _ (m+1) rfl rfl ah ah uw iT (al0z _) ?_;intro w1 hown hgrow)
   )
  rw[xI] at hown
  have inv0:RightInv w w1 (m+1) (wv ua/2^n) 0 (List.replicate (m+1) 0):=⟨az,xG _,by simp[wv,Nat.mod_one],hown,(aA _ _).grown hgrow (al0z _) (fun k h=>qA)⟩
  clear hown hgrow
  go_loopw[8,9] (fun iv _ wr=> ∃(k:Nat) (rs:List Nat),k<=m+1/\iv=.int .i64 k/\RightInv w wr (m+1) (wv ua/2^n) k rs) (fun iv _ _=>m+1-(intOf iv).toNat)
  case atStart=>exact⟨0,_,ah,rfl,inv0⟩
  case round=>
   clear inv0 w1
   obtain⟨k,rs,hk,rfl,inv⟩:=hrel
   have hsz:=inv.bel.size
   by_cases hka:k<m+1
   ·have hcr:∃v,wr.cell? ⟨w.heap.size,k,none⟩=some v:=by
     exact l73
    have hfr:=inv.own.frozenAt k
    obtain⟨v0,hcr⟩:=hcr
    have INV:=hid inv
    clear inv
    have hca:=(HA.out.below INV.out.bel (al0z _)).cell (k+q) ah
    have hra:=kO HA.out.ok (k+q)
    have HD:=hid (ac6 ua HA.out.ok q s k hs Bo)
    rw[Nat.add_comm q k] at HD
    generalize hxa:ua.getD (k+q) 0=xa at hca hra
    have HXA:=hid hxa
    by_cases hlast:k=m
    ·have h0:ua.getD (k+q+1) 0=0:=by rw[bi,List.getElem?_eq_none Bo];rfl
     rw[h0,hxa,<-HN.out,Nat.mul_zero,Nat.add_zero] at HD
     clear hxa h0
     subst hlast
     go_wp2
     go_roundw
     case rel=>
      refine⟨k+1,rs.set k (xa/2^s%4294967296),ah,az,?_⟩
      have:=INV.out.step ah HD.out.symm
      simpa using this
     case measure=>simp[intOf]<;>omega
    have hcb:=(HA.out.below INV.out.bel (al0z _)).cell (k+q+1) ah
    have hrb:=kO HA.out.ok (k+q+1)
    generalize hxb:ua.getD (k+q+1) 0=xb at hcb hrb
    rw[hxb,hxa,<-HN.out] at HD
    clear hxa hxb
    go_wp2
    go_roundw
    case rel=>
     refine⟨k+1,rs.set k ((xa+4294967296*xb)/2^s%4294967296),ah,az,?_⟩
     rw[ac7 hra hrb hs]
     exact INV.out.step ah HD.out.symm
    case measure=>simp[intOf]<;>omega
   obtain rfl:k=m+1:=ah
   have INV:=hid inv
   clear inv
   go_wp2_with(go_at_call 151;refine(vI _ w.heap.size _ (m+1) rs INV.out.own INV.out.ok).mono ?_;rintro e w' ⟨⟨v',rfl,hnm⟩,rfl⟩)
   go_ret
   refine⟨⟨v',rfl,?_⟩,INV.out.bel⟩
   have hv:=INV.out.val
   have hl:=INV.out.len
   rw[List.take_of_length_le ah] at hv
   rw[hv,Nat.mod_eq_of_lt] at hnm
   ·exact hnm
   have h1:=uA HA.out.ok
   rw[HA.out.len] at h1
   rw[HN.out,Nat.pow_add,Nat.pow_mul,show(2:Nat)^32=4294967296 from rfl,<-Nat.div_div_eq_div_mul]
   refine Nat.lt_of_le_of_lt (Nat.div_le_self _ _) ?_
   rw[Nat.div_lt_iff_lt_mul (Vm q),<-Nat.pow_add]
   rw[show m+1+q=q+m+1 from ah]
   exact h1
theorem FN(z:Int):IntKind.u64.wrap z=z%18446744073709551616:=by
 simp[IntKind.wrap,IntKind.signed,IntKind.bits]
theorem adf(xa xb c:Nat)(hc:c<=1)(ha:xa<4294967296)(hb:xb<4294967296):
 ∃x c':Nat,IntKind.u64.wrap (IntKind.u64.wrap ((xa:Int)-c)-xb)%4294967296=(x:Int)/\IntKind.u64.wrap (IntKind.u64.wrap ((xa:Int)-c)-xb)/9223372036854775808=(c':Int)/\
  c'<=1/\x<4294967296/\x+xb+c=xa+4294967296*c':=by
 have e:IntKind.u64.wrap (IntKind.u64.wrap ((xa:Int)-c)-xb)=((xa:Int)-c-xb)%18446744073709551616:=by
  rw[FN,FN,Int.emod_sub_emod]
 rw[e]
 by_cases h:xb+c<=xa
 ·exact⟨xa-c-xb,0,ah,ah,ah,ah,ah⟩
 ·exact⟨xa+4294967296-c-xb,1,ah,ah,ah,ah,ah⟩
theorem adg(xa c:Nat)(hc:c<=1)(ha:xa<4294967296):
 ∃x c':Nat,IntKind.u64.wrap ((xa:Int)-c)%4294967296=(x:Int)/\IntKind.u64.wrap ((xa:Int)-c)/9223372036854775808=(c':Int)/\
  c'<=1/\x<4294967296/\x+0+c=xa+4294967296*c':=by
 rw[FN]
 by_cases h:c<=xa
 ·exact⟨xa-c,0,ah,ah,ah,ah,ah⟩
 ·exact⟨xa+4294967296-c,1,ah,ah,ah,ah,ah⟩
structure SubInv(w wr:World)(an:Nat)(ua ub:List Nat)(k c:Nat)(rs:List Nat):Prop where
 len:rs.length=an
 ok:wok rs
 val:wv (rs.take k)+wv (ub.take k)=wv (ua.take k)+4294967296^k*c
 own:wr.ownsRow w.heap.size 172 1 (.slice (some ⟨w.heap.size,0,none⟩) an an) an (W32 rs)
 bel:Below w.heap.size w wr
theorem SubInv.step{w wr:World}{an:Nat}{ua ub:List Nat}{k c:Nat}{rs:List Nat}(h:SubInv w wr an ua ub k c rs)(hk:k<an)
 {x c' xa xb:Nat} (hx:x<4294967296) (hxa:ua.getD k 0=xa) (hxb:ub.getD k 0=xb) (hv:x+xb+c=xa+4294967296*c'):
 SubInv w (wr.setCell ⟨w.heap.size,k,none⟩ (.int .u32 (x:Nat))) an ua ub (k+1) c' (rs.set k x):=by
 have hl:=h.len
 refine⟨NV,vG h.ok k hx,?_,?_,h.bel.setCell (al0z _) _⟩
 ·rw[FC _ _ _ ah,xH,fL,Nat.min_eq_left ah,vF,vF,hxa,hxb,Nat.pow_succ]
  have h1:=h.val
  have h2:4294967296^k*(x+xb+c)=4294967296^k*(xa+4294967296*c'):=by rw[hv]
  simp only[Nat.mul_add] at h2
  rw[Nat.mul_assoc]
  omega
 ·have:=(h.own.stored k (.int .u32 (x:Nat))).1
  rwa [vK] at this
theorem SubInv.fin{w wr:World}{an:Nat}{ua ub:List Nat}{c:Nat}{rs:List Nat}(h:SubInv w wr an ua ub an c rs)(h1:ua.length=an)(h2:ub.length<=an)(hle:wv ub<=wv ua):
 wv rs=wv ua-wv ub:=by
 have hv:=h.val
 have hl:=h.len
 rw[List.take_of_length_le (l:=ua) ah,List.take_of_length_le (l:=ub) ah,List.take_of_length_le (l:=rs) ah] at hv
 have h3:=uA h.ok
 rw[hl] at h3
 have:c=0:=by
  by_cases hc:c=0
  ·exact hc
  exfalso
  have:=Nat.mul_le_mul_left (4294967296^an) (show 1<=c from ah)
  omega
 subst this
 omega
theorem adh(w:World)(ao bo:Option Addr)(an ac bn bc:Nat)(ua ub:List Nat)(ha:Rd w ao an ac ua)(hb:Rd w bo bn bc ub)(hn:an<=64)(hge:bn<=an)(hle:wv ub<=wv ua):
 Calls Tryz.prog 148 #[.slice ao an ac,.slice bo bn bc] w (mX w (wv ua-wv ub)):=by
 obtain⟨i0,hi,hz0,hz1,hz2⟩:=info_parts vH
 have HA:=hid ha
 have HB:=hid hb
 have HL:=hid hle
 clear ha hb hle
 go_enter Tryz.func148,Tryz.ntmps148
 go_wp2_with(first
  |(at_make;refine wpList_make_full _ rfl _ _ 78 rfl w.heap.size 172 i0 (.int .u32 0) 1 Tryz.underlying78 hi hz0 hz1 _ _ _ _ an rfl rfl az az uw iT (al0z _) ?_;intro w1 hown hgrow)
  )
 rw[xI] at hown
 have inv0:SubInv w w1 an ua ub 0 0 (List.replicate an 0):=⟨az,xG _,by simp[wv],hown,(aA _ _).grown hgrow (al0z _) (fun k h=>qA)⟩
 clear hown hgrow
 go_loopw[6,7,8] (fun cv iv _ wr=> ∃(k c:Nat) (rs:List Nat),k<=an/\iv=.int .i64 k/\cv=.int .u64 c/\c<=1/\SubInv w wr an ua ub k c rs) (fun _ iv _ _=>an-(intOf iv).toNat)
 case atStart=>exact⟨0,0,_,ah,rfl,rfl,ah,inv0⟩
 case round=>
  clear inv0 w1
  obtain⟨k,c,rs,hk,rfl,rfl,hc1,inv⟩:=hrel
  have hsz:=inv.bel.size
  by_cases hka:k<an
  ·have hcr:∃v,wr.cell? ⟨w.heap.size,k,none⟩=some v:=by
    exact l73
   have hfr:=inv.own.frozenAt k
   obtain⟨v0,hcr⟩:=hcr
   have INV:=hid inv
   clear inv
   obtain⟨g,off,rfl⟩:=HA.out.addr ah
   have hca:=(HA.out.below INV.out.bel (al0z _)).cell k hka
   have hra:=kO HA.out.ok k
   generalize hxa:ua.getD k 0=xa at hca hra
   have HXA:=hid hxa
   clear hxa
   by_cases hkb:k<bn
   ·obtain⟨g2,off2,rfl⟩:=HB.out.addr ah
    have hcb:=(HB.out.below INV.out.bel (al0z _)).cell k hkb
    have hrb:=kO HB.out.ok k
    generalize hxb:ub.getD k 0=xb at hcb hrb
    have HXB:=hid hxb
    clear hxb
    go_wp2
    go_roundw
    case rel=>
     obtain⟨x,c',e1,e2,h1,h2,h3⟩:=adf xa xb c hc1 hra hrb
     exact acy
    case measure=>simp[intOf]<;>omega
   have hxb:ub.getD k 0=0:=by
    exact acE
   have HXB:=hid hxb
   clear hxb
   go_wp2
   go_roundw
   case rel=>
    obtain⟨x,c',e1,e2,h1,h2,h3⟩:=adg xa c hc1 hra
    exact acy
   case measure=>simp[intOf]<;>omega
  obtain rfl:k=an:=ah
  have INV:=hid inv
  clear inv
  go_wp2_with(go_at_call 151;refine(vI _ w.heap.size _ k rs INV.out.own INV.out.ok).mono ?_;rintro e w' ⟨⟨v',rfl,hnm⟩,rfl⟩)
  go_ret
  exact⟨⟨v',rfl,by rw[<-INV.out.fin HA.out.len (by have:=HB.out.len;omega) HL.out];exact hnm⟩,INV.out.bel⟩
theorem Pm(w:World)(va vb:Value)(a b:Nat)(ha:Nm w va a)(hb:Nm w vb b)(sa:Sm a)(hle:b<=a):
 Calls Tryz.prog 148 #[va,vb] w (mX w (a-b)):=by
 obtain⟨ao,an,ac,ua,rfl,hra,hta,rfl,hla⟩:=ha.len sa
 have sb:Sm b:=by unfold Sm at*;omega
 obtain⟨bo,bn,bc,ub,rfl,hrb,htb,rfl,hlb⟩:=hb.len sb
 refine adh w ao bo an ac bn bc ua ub hra hrb ah ?_ hle
 by_cases h:bn<=an
 ·exact h
 ·have:=Pg hra.ok htb (by rw[hra.len,hrb.len];omega)
  omega
end Go.Proofs.YthoiikkjjaldnaaGreatDoor
