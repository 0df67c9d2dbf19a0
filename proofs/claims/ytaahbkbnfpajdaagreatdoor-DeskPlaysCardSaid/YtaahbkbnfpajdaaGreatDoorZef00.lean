/- Lemmas. -/
import Derived.Test.YtaahbkbnfpajdaaGreatDoorZbase
namespace Go.Proofs.YtaahbkbnfpajdaaGreatDoor
set_option linter.all false
set_option maxRecDepth 100000
set_option maxHeartbeats 8000000
open Go.RowKit
variable{xs:Lz}{k base c g B b n:Nat}{e:TypeId}{row:Option Nat}{w w':Wd}{v:Value}{A:Oz}{l ws:List Nat}{z:Int}
section
open Go.ChangeShapes
def au(xs:Lz):List Value:=xs.map (Value.int .i64)
def agi(xs:Lz):Array Value:=(au xs).toArray
theorem bf(xs:Lz):(au xs).length=xs.length:=qP
theorem dX(xs:Lz):(agi xs).size=xs.length:=by simp[agi,au]
theorem wO(xs:Lz)(k:Nat)(h:k<xs.length):(au xs)[k]?=some (.int .i64 (xs.getD k 0)):=by
 simp[au,h]
theorem Wi(xs:Lz)(k:Nat)(h:k<xs.length):(agi xs)[k]?=some (.int .i64 (xs.getD k 0)):=by
 simp[agi,au,h]
theorem ajm(xs:Lz)(k:Nat)(v:Int):(agi xs).setIfInBounds k (.int .i64 v)=agi (xs.set k v):=by
 simp[agi,au,ET]
theorem o9(xs:Lz):∀u∈au xs,u.oneCell'=true:=ints_oneCell .i64 xs
theorem GV(xs ys:Lz):au xs++au ys=au (xs++ys):=qP
def W64(xs:Lz):Prop:=∀x∈xs,-9223372036854775808<=x/\x<=9223372036854775807
theorem W64.at_(h:W64 xs)(k:Nat): -9223372036854775808<=xs.getD k 0/\xs.getD k 0<=9223372036854775807:=by
 rw[bK];cases hk:xs[k]? with
 |none=>simp
 |some x=>simpa using h x (vN hk)
theorem dV(a:Addr)(n:Nat):(a.add n).block=a.block:=by unfold Addr.add;split<;>rfl
theorem ajn(a:Addr)(i j:Nat):(a.add i).add j=a.add (i+j):=by
 unfold Addr.add;by_cases hi:i=0<;>by_cases b:j=0<;>simp[hi,b,xI]
theorem lN(g i:Nat):(⟨g,0,none⟩:Addr).add i=⟨g,i,none⟩:=by
 unfold Addr.add;split<;>simp_all
def Reads(w:Wd)(B size:Nat)(A:Oz)(n:Nat)(xs:List Value):Prop:=
 xs.length=n*size/\(0<n->∃a,A=some a/\a.block<B/\∀j u,xs[j]?=some u->w.cell? (a.add j)=some u)
section
variable {w w':Wd} {B B' size n:Nat} {A:Oz} {xs:List Value}
theorem Reads.none_:Reads w B size A 0 []:=⟨ay,fun h=>absurd h ah⟩
theorem Reads.keep(h:Reads w B size A n xs)(d:∀p:Addr,p.block<B->w'.cell? p=w.cell? p):Reads w' B size A n xs:=
 ⟨h.1,fun f=>by
   obtain⟨b,e,a,c⟩:=h.2 f;exact⟨b,e,a,fun j u g=>(d _ (by rw[dV];exact a)).trans (c j u g)⟩⟩
theorem Reads.more(h:Reads w B size A n xs)(d:B<=B'):Reads w B' size A n xs:=
 ⟨h.1,fun c=>by
   obtain⟨a,e,f,b⟩:=h.2 c;exact⟨a,e,ah,b⟩⟩
theorem Reads.below(h:Reads w B size A n xs)(a:Below B w w'):Reads w' B size A n xs:=h.keep fun _ b=>a.cell b
theorem Reads.cut(h:Reads w B size A n xs){k cap:Nat}(f:k<=n)(e:n<=cap):
 Reads w B size (if cap=k then A else A.map (·.add (k*size))) (n-k) (xs.drop (k*size)):=by
 refine⟨by rw[kJ,h.1,Nat.sub_mul],fun g=>?_⟩;obtain⟨b,rfl,c,a⟩:=h.2 ah;rw[if_neg ah];refine⟨b.add (k*size),rfl,by rw[dV];exact c,fun j u d=>?_⟩;rw[ajn];exact a _ u (by rw[<-d,yV])
theorem Reads.take(h:Reads w B size A n xs)(f:k<=n):Reads w B size A k (xs.take (k*size)):=by
 have d:=h.1;refine⟨?_,fun g=>?_⟩
 ·rw[dR,d];exact jT (xJ _ f)
 obtain⟨c,rfl,e,a⟩:=h.2 ah;refine⟨c,rfl,e,fun j u b=>a j u ?_⟩;rw[xW] at b;split at b
 ·exact b
 cases b
theorem Reads.of_own(h:w.ownsRow base e size (.slice A n c) n xs):Reads w w.heap.size size A n xs:=by
 refine⟨h.1,fun d=>?_⟩;obtain⟨g,cap,f,_,a⟩:=h.form d;have b:A=some ⟨g,0,none⟩:=by injection f
 subst b;exact⟨_,rfl,a,h.cells (g:=g) rfl⟩
end
def Rs(w:Wd)(B:Nat)(A:Oz)(xs:Lz):Prop:=Reads w B 1 A xs.length (au xs)
section
variable {w w':Wd} {B B':Nat} {A:Oz} {xs:Lz}
theorem Rs.at_(h:Rs w B A xs)(d:k<xs.length):∃a,A=some a/\a.block<B/\w.cell? (a.add k)=some (.int .i64 (xs.getD k 0)):=by
 obtain⟨a,e,b,c⟩:=h.2 ah;exact⟨a,e,b,c k _ (wO xs k d)⟩
theorem Rs.ad(h:Rs w B A xs)(b:0<xs.length):∃a,A=some a/\a.block<B/\∀k,k<xs.length->w.cell? (a.add k)=some (.int .i64 (xs.getD k 0)):=by
 obtain⟨a,e,c,d⟩:=h.2 b;exact⟨a,e,c,fun k b=>d k _ (wO xs k b)⟩
theorem Rs.below(h:Rs w B A xs)(a:Below B w w'):Rs w' B A xs:=Reads.below h a
theorem Rs.below'(h:Rs w B A xs)(a:B<=B')(b:Below B' w w'):Rs w' B A xs:=Reads.below h (b.mono a)
theorem Rs.more(h:Rs w B A xs)(a:B<=B'):Rs w B' A xs:=Reads.more h a
theorem Rs.nil:Rs w B A []:=Reads.none_
theorem Rs.drop(h:Rs w B A xs){cap:Nat}(c:k<=xs.length)(b:xs.length<=cap):Rs w B (if cap=k then A else A.map (·.add k)) (xs.drop k):=by
 have a:=Reads.cut h c b;simp only[ou] at a;unfold Rs;rw[kJ];have e:au (xs.drop k)=(au xs).drop k:=by simp[au,JV]
 rw[e];exact a
theorem Rs.take(h:Rs w B A xs)(b:k<=xs.length):Rs w B A (xs.take k):=by
 have a:=Reads.take h b;simp only[ou] at a;unfold Rs;rw[dR,jT b];have e:au (xs.take k)=(au xs).take k:=by simp[au,EU]
 rw[e];exact a
end
def Own(w:Wd)(base:Nat)(A:Oz)(c:Nat)(xs:Lz):Prop:=w.ownsRow base 3 1 (.slice A xs.length c) xs.length (au xs)
section
variable {w w':Wd} {base base':Nat} {A:Oz} {c:Nat} {xs:Lz}
theorem Own.reads(h:Own w base A c xs):Rs w w.heap.size A xs:=Reads.of_own h
theorem Own.nil:Own w base none 0 []:=Bz w base _ _
theorem Own.lt(h:Own w base A c xs):∀a,A=some a->base<=a.block/\a.block<w.heap.size:=fun a b=>by
 subst b;exact EW h a.block rfl
theorem Own.cap(h:Own w base A c xs):xs.length<=c/\c<=9223372036854775807:=by
 exact aiE
theorem Own.below(h:Own w base A c xs)(a:Bw w w'):Own w' base A c xs:=
 BC h (row:=none) ⟨a.os,a.tape,a.output,a.size,fun k b _=>a.block k b⟩ aaX
theorem Own.kept(h:Own w base A c xs)(G:w.grownBy w' row)(b:∀a,A=some a->some a.block≠row):Own w' base A c xs:=
 BC h G (by
  cases A with
  |none=>exact .inl rfl
  |some a=>exact .inr (b a rfl))
theorem Own.more(h:Own w base A c xs)(a:base'<=base):Own w base' A c xs:=by
 exact aiM
theorem Own.alloc(h:Own w base A c xs)(o:Obj):Own (w.alloc o) base A c xs:=World.ownsRow.alloc h o
theorem Own.drew(h:Own w base A c xs):Own w.drew base A c xs:=h
theorem Own.drewN(h:Own w base A c xs)(n:Nat):Own (w.drewN n) base A c xs:=h
theorem Own.form(h:Own w base A c xs)(a:0<xs.length):∃g cap d,A=some ⟨g,0,none⟩/\base<=g/\g<w.heap.size/\w.heap[g]?=some (.cells d 3 (0,0))/\c=cap/\xs.length<=cap/\cap<=maxLen/\d.size=cap/\d.toList.take xs.length=au xs:=by
 rcases h.2 with⟨_,h0⟩|⟨g,cap,d,hv,hb,G,h1,h2,h3,h4⟩
 ·omega
 injection hv with hA _ hc;exact⟨g,cap,d,hA,hb,(Array.getElem?_eq_some_iff.1 G).1,G,hc,h1,h2,by simpa using h3,by simpa using h4⟩
theorem Own.set_(h:Own w base (some ⟨g,0,none⟩) c xs)(k:Nat)(b:k<xs.length)(x:Int):Own (w.setCell ⟨g,k,none⟩ (.int .i64 x)) base (some ⟨g,0,none⟩) c (xs.set k x):=by
 have a:=World.ownsRow.stored (g:=g) (cap:=c) h k (.int .i64 x);unfold Own;rw[fP];have e:au (xs.set k x)=(au xs).set k (.int .i64 x):=by simp[au,ET]
 rw[e];exact a.1
theorem Own.cell(h:Own w base (some ⟨g,0,none⟩) c xs)(k:Nat)(b:k<xs.length):w.cell? ⟨g,k,none⟩=some (.int .i64 (xs.getD k 0)):=by
 have a:=World.ownsRow.cellAt (g:=g) (cap:=c) h k ah;rw[a];exact wO xs k b
theorem Own.frozen(h:Own w base (some ⟨g,0,none⟩) c xs)(k:Nat):w.frozen? ⟨g,k,none⟩=false:=World.ownsRow.frozenAt h k
end
def Blk(w:Wd)(g:Nat)(t:TypeId)(a:Array Value):Prop:=w.heap[g]?=some (.cells a t (0,0))
section
variable {w w':Wd} {g:Nat} {t:TypeId} {cs:Array Value}
theorem Blk.lt(h:Blk w g t cs):g<w.heap.size:=by
 rcases yX g w.heap.size with b|a
 ·exact b
 unfold Blk at h;rw[yY a] at h;cases h
theorem Blk.cell(h:Blk w g t cs)(i:Nat):w.cell? ⟨g,i,none⟩=cs[i]?:=cell_of_row w g i cs t (0,0) h
theorem Blk.frozen(h:Blk w g t cs)(i:Nat):w.frozen? ⟨g,i,none⟩=false:=by
 unfold Blk at h;simp[World.frozen?,h]
theorem Blk.new(w:Wd)(t:TypeId)(cs:Array Value):Blk (w.alloc (.cells cs t)) w.heap.size t cs:=ZI w _
theorem Blk.drew(h:Blk w g t cs):Blk w.drew g t cs:=h
theorem Blk.alloc(h:Blk w g t cs)(o:Obj):Blk (w.alloc o) g t cs:=(QT w o g h.lt).trans h
theorem Blk.set_(h:Blk w g t cs)(i:Nat)(u:Value):Blk (w.setCell ⟨g,i,none⟩ u) g t (cs.setIfInBounds i u):=by
 unfold Blk at h|-;simp[World.setCell,Array.getElem?_modify,h]
theorem Blk.far(h:Blk w g t cs){p:Addr}(a:g≠p.block)(u:Value):Blk (w.setCell p u) g t cs:=(lV w p u g a).trans h
theorem Blk.below(h:Blk w g t cs)(a:Below B w w')(G:g<B):Blk w' g t cs:=(a.block g G).trans h
theorem Blk.below'(h:Blk w g t cs)(a:Bw w w'):Blk w' g t cs:=(a.block g h.lt).trans h
theorem Blk.grown(h:Blk w g t cs)(a:w.grownBy w' row)(G:some g≠row):Blk w' g t cs:=(a.block g h.lt G).trans h
theorem Blk.ne_{C:Nat}{b:Array Value}(h:Blk w g t cs)(a:Blk w C e b)(d:t≠e):g≠C:=by
 rintro rfl;unfold Blk at h a;rw[h] at a;injection a with a;injection a with _ F;exact d F
end
def IB(w:Wd)(g:Nat)(t:TypeId)(xs:Lz):Prop:=Blk w g t (agi xs)
section
variable {w w':Wd} {g:Nat} {t:TypeId} {xs:Lz}
theorem IB.cell(h:IB w g t xs)(i:Nat)(hi:i<xs.length):w.cell? ⟨g,i,none⟩=some (.int .i64 (xs.getD i 0)):=(Blk.cell h i).trans (Wi xs i hi)
theorem IB.set_(h:IB w g t xs)(i:Nat)(x:Int):IB (w.setCell ⟨g,i,none⟩ (.int .i64 x)) g t (xs.set i x):=by
 have a:=Blk.set_ h i (.int .i64 x);rw[ajm] at a;exact a
theorem IB.new(w:Wd)(t:TypeId)(xs:Lz):IB (w.alloc (.cells (agi xs) t)) w.heap.size t xs:=Blk.new w t _
end
theorem gQ(xs:Lz)(k:Nat)(v:Int)(h:k<xs.length):(xs.set k v).getD k 0=v:=by simp[h]
theorem gV(xs:Lz){j:Nat}(v:Int)(h:k≠j):(xs.set k v).getD j 0=xs.getD j 0:=by
 simp[h]
theorem dM{ys:Lz}(d:xs.length=ys.length)(h:∀k,k<xs.length->xs.getD k 0=ys.getD k 0):xs=ys:=by
 apply List.ext_getElem d;intro k a b;have:=h k a;simpa[bK,a,b] using this
section
variable {P:Program} {w:Wd} {r:Reach} {b:Nat} {t:TypeId} {v:Value}
theorem abL{n:Int}(h:IntKind.i64.has n): -9223372036854775808<=n/\n<=9223372036854775807:=by
 have a:=h.1;have d:=h.2;simp[IntKind.min,IntKind.max,IntKind.signed,IntKind.bits] at a d;omega
def mV:TypeDesc->Bool
 |.struct _=>true
 |.array _ _=>true
 |_=>false
end
section
variable {H:Type} {enc:TypeId×Value->H} {P:Program} {w:Wd}
theorem aro{P:Program}{r:Reach}{t:TypeId}(F:P.underlying t=some (.slice e))(h:Value.okWide P w r b t v):∃A n c,v=.slice A n c:=by
 unfold Value.okWide at h;simp only[F] at h;unfold Cell.okWide at h;simp only[F] at h;unfold Cell.ok at h;simp only[F] at h;split at h<;>simp_all
theorem ajo{W d:Wd}(i:laidOutB P=true)(f:Bw W d):∀{ts:List TypeId} {vs:List Value} {ds:List (DataW H)} {ps:List MemPlace},(∀t∈ts,P.readableRec t=true/\t<P.types.size)->
 DataW.TrodAll enc P W 0 (fun _=>true) true ts vs ds ps->(∀x∈ps,x.block<W.heap.size)->DataW.TrodAll enc P d 0 (fun b=>decide (b<W.heap.size)) true ts vs ds ps
 |[],[],[],_,_,h,_=>h
 |t::_,_::_,_::_,_,hT,⟨p,q,h1,h2,e⟩,Z=>
  ⟨p,q,Below.trod i (hT t (List.mem_cons.2 (iW rfl))).1 (hT t (List.mem_cons.2 (iW rfl))).2 h1 f (fun x a=>Z x (by rw[e];exact List.mem_append_left _ a)),
    ajo i f (fun t F=>hT t (List.mem_cons.2 (Or.inr F))) h2 (fun x a=>Z x (by rw[e];exact ZK _ a)),e⟩
end
end
theorem GY:(Tryz.prog.info? 3).map (fun i=>(i.zero,i.size,i.bytes))=some (some (.int .i64 0),1,8):=aB
section
variable {P:Program} (w:Wd)
theorem ajp(base:Nat)(t ty e:TypeId)(i:TypeInfo)(size:Nat)(F:P.underlying t=some (.slice e))(hi:P.info? e=some i)
 (v:Value) (n:Nat) (xs:List Value) (f:w.ownsRow base e size v n xs) (c:Nat):(Builtin.append_ #[t,t] ty #[v,.slice none 0 c]).run P w=.ok v w:=by
 rcases f.2 with⟨rfl,rfl⟩|⟨g,cap,d,rfl,_,_,hnc,_⟩
 ·simp[Builtin.append_,QV F,sizeOf,typeInfo,hi,Builtin.lenOf,Builtin.firstCells]
 ·simp[Builtin.append_,QV F,sizeOf,typeInfo,hi,Builtin.lenOf,Builtin.firstCells,hnc,storeCells]
theorem yh(base:Nat)(t ty e:TypeId)(i:TypeInfo)(z:Value)(size b:Nat)(F:P.underlying t=some (.slice e))(hi:P.info? e=some i)(N:i.zero=some z)
 (o:i.size=size) (x:i.bytes=b) (D:z.cells.size=size) (C:0<size)
 (v:Value) (n:Nat) (xs:List Value) (f:w.ownsRow base e size v n xs)
 (B:Nat) (A:Oz) (m c:Nat) (a:List Value) (p:Reads w B size A m a) (H:∀u∈a,u.oneCell'=true)
 (s:n+m<=maxLen) (d:(n+m)*b<=140737488355328) (l:base<=w.heap.size):
 ∃J w',(Builtin.append_ #[t,t] ty #[v,.slice A m c]).run P w=.ok J w'/\w'.ownsRow base e size J (n+m) (xs++a)/\w.grownBy w' v.ownBlock/\
  (J.ownBlock=v.ownBlock\/J.ownBlock=some w.heap.size):=by
 rcases A with _|r
 ·have O:m=0:=by
   rcases QW m with k|k
   ·exact k
   obtain⟨r,h,_⟩:=p.2 k;cases h
  subst O;have y:a=[]:=QY (by simpa using p.1);subst y;exact⟨v,w,ajp w base t ty e i size F hi v n xs f c,by simpa using f,World.grownBy.refl w _,.inl rfl⟩
 ·have g:∀j u,a[j]?=some u->w.cell? (r.add j)=some u:=by
   intro j u E;rcases QW m with k|k
   ·subst k
    have y:a=[]:=QY (by simpa using p.1);subst y;simp at E
   obtain⟨G,h,_,M⟩:=p.2 k;injection h with h;subst h;exact M j u E
  obtain⟨J,w',q,I,K,_,L⟩:=run_append_own_at (P:=P) w base t ty e i z size b F hi N o x D C v n xs f r m c a p.1 g H s d l;exact⟨J,w',q,I,K,L⟩
end
theorem Own.head(h:Own w base A c xs)(e:0<xs.length):∃g,A=some ⟨g,0,none⟩/\base<=g/\g<w.heap.size:=by
 obtain⟨g,_,_,d,a,b,_⟩:=h.form e;exact⟨g,d,a,b⟩
theorem oH(w:Wd)(v:Value)(t:TypeId):(w.alloc (.cells #[v] t)).cell? ⟨w.heap.size,0,none⟩=some v:=by
 rw[Blk.cell (Blk.new w t #[v]) 0];rfl
theorem Wj{vs:List Value}{ys:Lz}(h:w.ownsRow base 3 1 v n vs)(a:vs=au ys):∃A c,v=.slice A ys.length c/\Own w base A c ys:=by
 subst a;have b:ys.length=n:=by have:=h.1;simpa[au] using this
 subst b;rcases h.2 with⟨a,hn⟩|⟨g,cap,d,a,rest⟩
 ·subst a
  refine⟨none,0,by rw[hn],?_⟩;unfold Own;rw[hn] at h|-;exact h
 subst a;exact⟨_,_,rfl,h⟩
theorem Nl{k:Array Oper}{rest:List Oper}{o:Oper}{a:Act}{w:Wd}{Q:Exit->Act->Wd->Prop}(m:o.guard=none)(s x:Operand)
 (F:o.op=.call {callee:=.builtin .append,args:= #[s,x],argTypes:= #[26,26]})
 (base:Nat) (A:Oz) (c:Nat) (xs:Lz) (Z:a.eval s=.slice A xs.length c) (f:Own w base A c xs)
 (B:Nat) (A2:Oz) (c2:Nat) (ys:Lz) (H:a.eval x=.slice A2 ys.length c2) (G:Rs w B A2 ys) (I:xs.length+ys.length<=17592186044416) (e:base<=w.heap.size)
 (h:∀i c' w',Own w' base i c' (xs++ys)->w.grownBy w' (A.map (·.block))->(i=A\/∃g,i=some ⟨g,0,none⟩/\w.heap.size<=g)->wpList Tryz.prog k Q rest (a.put o.dst (.slice i (xs.length+ys.length) c')) w'):wpList Tryz.prog k Q (o::rest) a w:=by
 obtain⟨L,hi,n,p,D⟩:=mJ GY;refine JW m fun K u=>?_;obtain⟨J,w',j,t,h3,h4⟩:=yh (P:=Tryz.prog) w base 26 o.type 3 L (.int .i64 0) 1 8 qH hi n p D rfl ah _ _ _ f B A2 ys.length c2 (au ys) G (o9 ys) jg ah e;have C:=fun a v=>Own.lt f a v;obtain⟨i,c',rfl,q⟩:=Wj t (GV xs ys);have y:(xs++ys).length=xs.length+ys.length:=ay;unfold Oper.wp execOp;simp only[F,resolve,invoke,builtin,ng,uM,qh,ut,uu,uw,Z,H,j];refine u _ _ ?_;rw[y];refine h i c' w' q zF ?_;have E:=q.2;rcases E with⟨hv,h0⟩|⟨g,cap,d,hv,_⟩
 ·injection hv with hA _ _
  exact aiL
 ·injection hv with hA _ _
  exact ah4
theorem abM{i:Array Oper}{rest:List Oper}{o:Oper}{a:Act}{w:Wd}{Q:Exit->Act->Wd->Prop}(m:o.guard=none)(s x:Operand)
 (p:o.op=.call {callee:=.builtin .append,args:= #[s,x],argTypes:= #[26,26]})
 (base:Nat) (A:Oz) (c:Nat) (xs:Lz) (Z:a.eval s=.slice A xs.length c) (f:Own w base A c xs)
 (b:Addr) (y:Int) (q:a.eval x=.slice (some b) 1 1) (n:w.cell? b=some (.int .i64 y)) (I:xs.length+1<=17592186044416) (d:base<=w.heap.size)
 (h:∀k c' w',Own w' base k c' (xs++[y])->w.grownBy w' (A.map (·.block))->(k=A\/∃g,k=some ⟨g,0,none⟩/\w.heap.size<=g)->wpList Tryz.prog i Q rest (a.put o.dst (.slice k (xs.length+1) c')) w'):wpList Tryz.prog i Q (o::rest) a w:=
 Nl m s x p base A c xs Z f (b.block+1) (some b) 1 [y] q ⟨qP,fun _=>⟨b,rfl,ah,fun j u l=>by
  match j,l with
  |0,l=>simp[au] at l;subst l;have e:b.add 0=b:=by unfold Addr.add;simp
        rw[e];exact n⟩⟩ I d h
theorem wR{d:Array Oper}{rest:List Oper}{o:Oper}{a:Act}{w:Wd}{Q:Exit->Act->Wd->Prop}(j:o.guard=none)(s x:Operand)
 (m:o.op=.call {callee:=.builtin .append,args:= #[s,x],argTypes:= #[26,26]})
 (base:Nat) (A:Oz) (c n:Nat) (xs:Lz) (Z:a.eval s=.slice A n c) (l:xs.length=n) (f:Own w base A c xs)
 (i:Addr) (y:Int) (p:a.eval x=.slice (some i) 1 1) (k:w.cell? i=some (.int .i64 y)) (I:n+1<=17592186044416) (b:base<=w.heap.size)
 (h:∀e c' w',Own w' base e c' (xs++[y])->w.grownBy w' (A.map (·.block))->(e=A\/∃g,e=some ⟨g,0,none⟩/\w.heap.size<=g)->wpList Tryz.prog d Q rest (a.put o.dst (.slice e (n+1) c')) w'):wpList Tryz.prog d Q (o::rest) a w:=by
 subst l;exact abM j s x m base A c xs Z f i y p k I b h
theorem pg{d:Array Oper}{rest:List Oper}{o:Oper}{a:Act}{w:Wd}{Q:Exit->Act->Wd->Prop}(i:o.guard=none)(s x:Operand)
 (k:o.op=.call {callee:=.builtin .append,args:= #[s,x],argTypes:= #[26,26]})
 (base:Nat) (A:Oz) (c n:Nat) (xs:Lz) (Z:a.eval s=.slice A n c) (j:xs.length=n) (f:Own w base A c xs)
 (B:Nat) (A2:Oz) (c2 m:Nat) (ys:Lz) (p:a.eval x=.slice A2 m c2) (O:ys.length=m) (l:Rs w B A2 ys) (I:n+m<=17592186044416) (b:base<=w.heap.size)
 (h:∀e c' w',Own w' base e c' (xs++ys)->w.grownBy w' (A.map (·.block))->(e=A\/∃g,e=some ⟨g,0,none⟩/\w.heap.size<=g)->wpList Tryz.prog d Q rest (a.put o.dst (.slice e (n+m) c')) w'):wpList Tryz.prog d Q (o::rest) a w:=by
 subst j;subst O;exact Nl i s x k base A c xs Z f B A2 c2 ys p l I b h
theorem uX{a:Wd}(d:Below base a w)(f:Own w base A c xs)(e:w.grownBy w' (A.map (·.block)))(g:base<=w.heap.size):Below base a w':=
 d.grown e g (fun k b=>by
  cases A with
  |none=>cases b
  |some ad=>simp at b;subst b;exact(f.lt ad rfl).1)
theorem Blk.grownA{t:TypeId}{c:Array Value}(h:Blk w g t c)(d:w.grownBy w' (A.map (·.block)))(b:∀a,A=some a->a.block≠g):Blk w' g t c:=
 Blk.grown h d (fun e=>by
  cases A with
  |none=>cases e
  |some a=>simp at e;exact b a rfl e.symm)
theorem yj{c:Oz}(h:c=A\/∃C,c=some ⟨C,0,none⟩/\w.heap.size<=C)(d:∀b,A=some b->b.block≠g)(G:g<w.heap.size):∀b,c=some b->b.block≠g:=by
 rcases h with rfl|⟨C,rfl,e⟩
 ·exact d
 intro b a;injection a with a;subst a;show C≠g;omega
def wv:List Nat->Nat
 |[]=>0
 |a::l=>a+4294967296*wv l
def wok(l:List Nat):Prop:=∀x∈l,x<4294967296
def qQ(l:List Nat):Prop:=∀n,l.length=n+1->l.getD n 0≠0
theorem aju:wok []:=fun _ h=>qj
theorem ajv:qQ []:=fun n h=>by simp at h
theorem wV{a:Nat}:wok (a::l)↔a<4294967296/\wok l:=by
 simp[wok]
theorem sJ(l:List Nat)(i:Nat)(h:i<l.length):l.getD i 0=l[i]:=by
 rw[bK,jU h];rfl
theorem nC(h:wok l)(i:Nat):l.getD i 0<4294967296:=by
 rw[bK];by_cases hi:i<l.length
 ·rw[jU hi];exact h _ (BI hi)
 rw[iy ah];decide
theorem Np(h:wok l)(n:Nat):wok (l.take n):=fun x a=>h x (xK a)
theorem zN(n:Nat):wok (List.replicate n 0):=fun x a=>by
 have:=agZ a;omega
theorem G9(a b:List Nat):wv (a++b)=wv a+4294967296^a.length*wv b:=by
 induction a with
 |nil=>simp[wv]
 |cons x l ih=>
  simp only[List.cons_append,wv,ih,xR,uy];rw[lW,jm (4294967296^l.length) 4294967296,oU,xI]
theorem wY(h:wok l):wv l<4294967296^l.length:=by
 induction l with
 |nil=>simp[wv]
 |cons x l ih=>
  rw[wV] at h;have:=ih h.2;simp only[wv,xR,uy];have a:wv l+1<=4294967296^l.length:=this;have:=xJ 4294967296 a;omega
theorem abT(n:Nat):wv (List.replicate n 0)=0:=by
 induction n with
 |zero=>rfl
 |succ n ih=>simp[ZM,wv,ih]
theorem zO(l:List Nat)(x:Nat):wv (l++[x])=wv l+4294967296^l.length*x:=by
 rw[G9];simp[wv]
theorem Wn(l:List Nat)(k:Nat)(h:k<l.length):l.take (k+1)=l.take k++[l.getD k 0]:=by
 rw[List.take_succ_eq_append_getElem h,sJ _ _ h]
theorem abU(l:List Nat)(k:Nat)(h:k<l.length):wv (l.take (k+1))=wv (l.take k)+4294967296^k*l.getD k 0:=by
 rw[Wn l k h,zO,dR,jT ah]
theorem yl(l:List Nat)(k:Nat):wv (l.take (k+1))=wv (l.take k)+4294967296^k*l.getD k 0:=by
 by_cases h:k<l.length
 ·exact abU l k h
 rw[kU ah,kU ah,bK,iy ah];simp
theorem Nq(l:List Nat)(k x:Nat)(h:k<l.length):(l.set k x).take (k+1)=l.take k++[x]:=by
 rw[ZN,if_pos h,List.take_append,kU Ur,dR,jT ah];simp
theorem yt(h:wok l)(k:Nat){x:Nat}(c:x<4294967296):wok (l.set k x):=by
 intro y b;rcases Rk b with a|a
 ·exact h y a
 omega
theorem Ia(l:List Nat)(k:Nat)(h:k<l.length):l.drop k=l.getD k 0::l.drop (k+1):=by
 rw[ZO h,sJ _ _ h]
theorem Wp(l:List Nat)(k:Nat)(c:k<=l.length)(h:∀i,k<=i->i<l.length->l.getD i 0=0):wv (l.take k)=wv l:=by
 obtain⟨d,U⟩:=ak (l.length-k);induction d generalizing k with
 |zero=>rw[kU ah]
 |succ d ih=>
  have a:k<l.length:=ah;have:=ih (k+1) ah (fun i hi b=>h i ah b) ah;rw[abU l k a,h k (ax _) a] at this;simpa using this
theorem Wq(l:List Nat)(k:Nat)(b:k<=l.length)(h:∀j,k=j+1->l.getD j 0≠0):qQ (l.take k):=by
 intro n a;rw[dR,jT b] at a;have:=h n a;rw[bK,xW,if_pos ah,<-bK];exact this
theorem abV(n:Nat):0<4294967296^n:=Nat.pow_pos aA
theorem abW(F:qQ l)(c:l.length=n+1):4294967296^n<=wv l:=by
 have a:l=l.take n++[l.getD n 0]:=by
  rw[<-Wn l n ah,kU ah]
 have d:=F n c;rw[a,zO,dR,jT ah];have b:1<=l.getD n 0:=ah;have:=BJ (4294967296^n) b;omega
theorem Dh(F:qQ l)(h:wv l<4294967296^n):l.length<=n:=by
 by_cases a:l.length<=n
 ·exact a
 exfalso;obtain⟨m,O⟩:∃m,l.length=m+1:=⟨l.length-1,ah⟩;have b:=abW F O;have c:4294967296^n<=4294967296^m:=jK aA ah;omega
theorem abX(F:qQ l):wv l=0↔l=[]:=by
 constructor
 ·intro h
  have:=Dh F (n:=0) (by rw[h];decide);exact List.length_eq_zero_iff.1 ah
 rintro rfl;rfl
theorem Ws{a b:List Nat}(c:wok a)(d:qQ b)(h:a.length<b.length):wv a<wv b:=by
 obtain⟨m,O⟩:∃m,b.length=m+1:=⟨b.length-1,ah⟩;have e:=abW d O;have f:=wY c;have g:4294967296^a.length<=4294967296^m:=jK aA ah;omega
theorem abY{a b:List Nat}(m:wok a){k:Nat}(C:k<a.length)(e:a.length=b.length)
 (c:∀i,k<i->i<a.length->a.getD i 0=b.getD i 0) (h:a.getD k 0<b.getD k 0):wv a<wv b:=by
 have d:∀l:List Nat,k<l.length->wv l=wv (l.take k)+4294967296^k*(l.getD k 0+4294967296*wv (l.drop (k+1))):=by
  intro l e;conv=>lhs;rw[<-vX k l]
  rw[G9,dR,jT ah,Ia l k e,wv]
 have S:a.drop (k+1)=b.drop (k+1):=by
  apply y8;intro i;rw[yV,yV];by_cases hi:k+1+i<a.length
  ·have:=c (k+1+i) ah hi
   rw[sJ _ _ hi,sJ _ _ ah] at this;rw[jU hi,jU ah,this]
  rw[iy ah,iy ah]
 rw[d a C,d b ah,S];have f:=wY (Np m k);rw[dR,jT ah] at f;have g:(a.getD k 0+4294967296*wv (b.drop (k+1)))+1<=b.getD k 0+4294967296*wv (b.drop (k+1)):=ah;have j:=BJ (4294967296^k) g;rw[lW,ou] at j;omega
theorem ajw{a b:List Nat}(f:a.length=b.length)(c:∀i,i<a.length->a.getD i 0=b.getD i 0):a=b:=by
 apply List.ext_getElem f;intro i d e;have:=c i d;rwa [sJ _ _ d,sJ _ _ e] at this
theorem Wu(h:k<l.length)(x:Nat):wv (l.set k x)+4294967296^k*l.getD k 0=wv l+4294967296^k*x:=by
 have e:∀y,wv (l.take k++y::l.drop (k+1))=wv (l.take k)+4294967296^k*y+4294967296^k*(4294967296*wv (l.drop (k+1))):=by
  intro y;rw[G9,dR,jT ah,wv,lW];omega
 rw[ZN,if_pos h,e x];have a:wv l=wv (l.take k++l.getD k 0::l.drop (k+1)):=by rw[<-Ia l k h,vX]
 rw[a,e];omega
def W32(ws:List Nat):List Value:=ws.map (fun(n:Nat)=>Value.int .u32 (n:Int))
structure Rd(w:Wd)(A:Oz)(n cap:Nat)(ws:List Nat):Prop where
 len:ws.length=n
 room:n<=cap
 big:cap<=maxLen
 ok:wok ws
 at_:A=none->n=0/\cap=0
 cells:∀a,A=some a->a.spot=none/\∃d c,w.heap[a.block]?=some (.cells d 179 c)/\∀i,i<n->d[a.off+i]?=some (.int .u32 (ws.getD i 0:Nat))
theorem Rd.lim{cap:Nat}(h:Rd w A n cap ws):n<=9223372036854775807/\cap<=9223372036854775807:=by
 have b:=h.room;have a:=h.big;unfold maxLen at a;omega
theorem Rd.nil(w:Wd):Rd w none 0 0 []:=⟨rfl,ax _,jg,aju,fun _=>⟨rfl,rfl⟩,fun a h=>qj⟩
theorem Rd.addr{w:Wd}{A:Oz}{n cap:Nat}{ws:List Nat}(h:Rd w A n cap ws)(d:0<n):
 ∃g c,A=some ⟨g,c,none⟩:=by
 cases A with
 |none=>have:=h.at_ rfl;omega
 |some a=>
  obtain⟨b,o,s⟩:=a;have:=(h.cells _ rfl).1;simp only at this;subst this;exact⟨b,o,rfl⟩
theorem Rd.cell{w:Wd}{g a n cap:Nat}{ws:List Nat}(h:Rd w (some ⟨g,a,none⟩) n cap ws)(i:Nat)(hi:i<n):
 w.cell? ⟨g,a+i,none⟩=some (.int .u32 (ws.getD i 0:Nat)):=by
 obtain⟨_,d,c,T,b⟩:=h.cells _ rfl;have:=b i hi;simp only[World.cell?,T,this];rfl
theorem Rd.lt{cap:Nat}(h:Rd w A n cap ws):∀a,A=some a->a.block<w.heap.size:=by
 intro a b;obtain⟨_,d,c,T,_⟩:=h.cells a b;by_cases e:a.block<w.heap.size
 ·exact e
 rw[yY ah] at T;cases T
theorem Rd.of_block{w w':Wd}{A:Oz}{n cap:Nat}{ws:List Nat}(h:Rd w A n cap ws)
 (g:∀a,A=some a->w'.heap[a.block]?=w.heap[a.block]?):Rd w' A n cap ws:=
 ⟨h.len,h.room,h.big,h.ok,h.at_,fun a b=>by
   obtain⟨e,d,c,T,f⟩:=h.cells a b;exact⟨e,d,c,by rw[g a b];exact T,f⟩⟩
theorem Rd.below{w w':Wd}{A:Oz}{n cap:Nat}{ws:List Nat}(h:Rd w A n cap ws){B:Nat}(c:Below B w w')
 (d:w.heap.size<=B):Rd w' A n cap ws:=
 h.of_block fun a b=>c.block _ (by have:=h.lt a b;omega)
theorem Rd.take{cap:Nat}(h:Rd w A n cap ws)(k:Nat)(g:k<=n):Rd w A k cap (ws.take k):=
 ⟨by rw[dR,h.len];omega,by have:=h.room;omega,h.big,Np h.ok k,fun b=>by have:=h.at_ b;omega,
  fun a b=>by
   obtain⟨e,d,c,T,f⟩:=h.cells a b;refine⟨e,d,c,T,fun i hi=>?_⟩;rw[f i ah];have:(ws.take k).getD i 0=ws.getD i 0:=by
    rw[bK,xW,if_pos hi,<-bK]
   rw[this]⟩
theorem Rd.owned{w:Wd}{base:Nat}{v:Value}{n:Nat}{ws:List Nat}(h:w.ownsRow base 179 1 v n (W32 ws))(l:wok ws):
 ∃A cap,v=.slice A n cap/\Rd w A n cap ws/\(∀a,A=some a->base<=a.block/\a.off=0/\w.frozen? a=false):=by
 obtain⟨k,j⟩:=h;have e:ws.length=n:=by simpa[W32] using k
 rcases j with⟨rfl,rfl⟩|⟨g,cap,d,rfl,G,T,hnc,hcm,b,htake⟩
 ·obtain rfl:ws=[]:=List.length_eq_zero_iff.1 e
  exact⟨none,0,rfl,Rd.nil w,fun a c=>by cases c⟩
 ·refine⟨some ⟨g,0,none⟩,cap,rfl,⟨e,hnc,hcm,l,(fun c=>by cases c),fun a c=>?_⟩,fun a c=>?_⟩
  ·obtain rfl:=fQ c
   refine⟨rfl,d,(0,0),T,fun i hi=>?_⟩;have f:(W32 ws)[i]?=some (.int .u32 (ws.getD i 0:Nat)):=by
    simp only[W32,qg];rw[jU ah,sJ _ _ ah];rfl
   rw[<-htake,xW,if_pos ah] at f;simpa using f
  obtain rfl:=fQ c;exact⟨G,rfl,by simp[World.frozen?,T]⟩
def Nm(w:Wd)(v:Value)(n:Nat):Prop:=∃A a cap ws,v=.slice A a cap/\Rd w A a cap ws/\qQ ws/\wv ws=n
theorem Nm.below(h:Nm w v n)(c:Below B w w')(b:w.heap.size<=B):Nm w' v n:=by
 obtain⟨A,a,cap,ws,rfl,e,F,d⟩:=h;exact⟨A,a,cap,ws,rfl,e.below c b,F,d⟩
theorem Nm.nil(w:Wd):Nm w (.slice none 0 0) 0:=⟨none,0,0,[],rfl,Rd.nil w,ajv,rfl⟩
theorem yu:(Tryz.prog.info? 179).map (fun i=>(i.zero,i.size,i.bytes))=some (some (.int .u32 0),1,4):=aB
def ajx(A:Oz)(n cap:Nat)(ws:List Nat)(e:Ending):Prop:=∃k,k<=n/\e=.returned (.slice A k cap)/\wv (ws.take k)=wv ws/\qQ (ws.take k)
theorem ajy(w:Wd)(A:Oz)(n cap:Nat)(ws:List Nat)(h:Rd w A n cap ws):
 Cl 192 #[.slice A n cap] w fun e w'=>ajx A n cap ws e/\w=w':=by
 have y:=h.lim.1;have m:=h.lim.2;have p:=h.room;have I:=af h.len;go_enter Tryz.func192,Tryz.ntmps192;go_wp2;go_loop [3] (fun v=> ∃k:Nat,k<=n/\v=.int .i64 k/\∀i,k<=i->i<ws.length->ws.getD i 0=0) (fun v=>(intOf v).toNat)
 case atStart=>exact⟨n,ax _,rfl,fun i f t=>by have:=I.o;omega⟩
 case round=>
  obtain⟨k,u,rfl,d⟩:=hrel;by_cases s:0<k
  ·obtain⟨j,rfl⟩:∃j,k=j+1:=⟨k-1,ah⟩
   obtain⟨g,B,rfl⟩:=h.addr ah;have z:=h.cell j ah;obtain⟨x,q⟩:=ak (ws.getD j 0);rw[<-q] at z;have b:=af d;have r:=af q;have H:=af h;clear d q h s;by_cases c:x=0
   ·subst c
    go_wp2;go_round;case rel=>
     refine⟨j,ah,rfl,fun i f t=>?_⟩;by_cases l:i=j
     ·subst l;exact r.o.symm
     exact b.o i ah t
    case measure=>exact aW
   go_wp2;go_ret;refine⟨⟨j+1,u,rfl,Wp _ _ (by have:=I.o;omega) b.o,Wq _ _ (by have:=I.o;omega) ?_⟩,rfl⟩;intro i hi;obtain rfl:j=i:=ah;rw[<-r.o];exact c
  obtain rfl:k=0:=ah;have b:=af d;have H:=af h;clear d h s;cases A with
  |none=>
   have f:=H.o.at_ rfl;obtain⟨rfl,rfl⟩:=f;go_wp2;go_ret;exact⟨⟨0,ax _,rfl,Wp _ _ ah b.o,Wq _ _ ah (fun i hi=>ah)⟩,rfl⟩
  |some a=>
   go_wp2;go_ret;exact⟨⟨0,u,rfl,Wp _ _ ah b.o,Wq _ _ ah (fun i hi=>ah)⟩,rfl⟩
theorem ajz(w:Wd)(A:Oz)(n cap:Nat)(ws:List Nat)(h:Rd w A n cap ws)(y:n<=64):
 Cl 201 #[.slice A n cap] w fun e w'=> ∃v,e=.returned v/\w'.ownsRow w.heap.size 179 1 v n (W32 ws)/\w.grownBy w' none:=by
 obtain⟨p,hi,i,k,D⟩:=mJ yu;cases A with
 |none=>
  have q:=h.at_ rfl;obtain⟨rfl,rfl⟩:=q;obtain rfl:ws=[]:=List.length_eq_zero_iff.1 h.len;have H:=af h;clear h;go_enter Tryz.func201,Tryz.ntmps201;go_wp2_with(at_builtin;refine wpList_append_own_none rfl _ _ 142 rfl w.heap.size 179 p 1 xH hi _ 0 [] rfl (Bz _ _ _ _) rfl ?_);go_ret;exact⟨_,rfl,Bz _ _ _ _,⟨rfl,rfl,rfl,ax _,fun _ _ _=>rfl⟩⟩
 |some a=>
  have b:=(h.cells a rfl).1;obtain⟨g,l,s⟩:=a;simp only at b;subst b;have H:=af h;clear h;go_enter Tryz.func201,Tryz.ntmps201;go_wp2_with(at_builtin;refine wpList_append_own _ rfl _ _ 142 rfl w.heap.size 179 p (.int .u32 0) 1 4 xH hi i k D rfl aA _ 0 [] rfl (Bz _ _ _ _) ⟨g,l,none⟩ n cap (W32 ws) rfl ?c0 ?c1 ?c2 ?c3 ?c4 ?c5 ?_);case c0=>have:=H.o.len;simp[W32,this]
  case c1=>
   intro j u c;have t:=H.o.len;have d:j<n:=by
    by_cases r:j<n
    ·exact r
    rw[iy (by simp[W32];omega)] at c;cases c
   have:=H.o.cell j d;simp only[W32,qg,jU (show j<ws.length from ah),uz,Fe] at c;subst c;rw[sJ _ _ ah] at this;rw[<-this];unfold Addr.add;split
   ·rename_i h0;subst h0;rfl
   rfl
  case c2=>intro u m;simp only[W32,List.mem_map] at m;obtain⟨x,_,rfl⟩:=m;rfl
  case c3=>unfold maxLen;omega
  case c4=>omega
  case c5=>exact ax _
  ·intro J z f G _
   go_wp2;go_ret;refine⟨J,rfl,by simpa using f,G⟩
def oI(w:Wd)(n:Nat)(e:Ending)(w':Wd):Prop:=(∃v,e=.returned v/\Nm w' v n)/\Bw w w'
theorem yw(w:Wd)(base:Nat)(v:Value)(n:Nat)(ws:List Nat)(h:w.ownsRow base 179 1 v n (W32 ws))(f:wok ws):
 Cl 192 #[v] w fun e w'=>(∃J,e=.returned J/\Nm w J (wv ws))/\w=w':=by
 obtain⟨A,cap,rfl,a,_⟩:=Rd.owned h f;refine(ajy w A n cap ws a).mono ?_;rintro e w' ⟨⟨k,d,rfl,b,c⟩,rfl⟩;exact⟨⟨_,rfl,A,k,cap,_,rfl,a.take k d,c,b⟩,rfl⟩
theorem zQ(n:Nat):(madeCells (Value.int .u32 0).cells (n*1)).toList=W32 (List.replicate n 0):=by
 rw[ou];show(madeCells #[Value.int .u32 0] n).toList=_;rw[ZP];simp[W32]
theorem yx(rs:List Nat)(k x:Nat):(W32 rs).set k (.int .u32 (x:Nat))=W32 (rs.set k x):=by
 simp[W32,ET]
structure AddInv(w wr:Wd)(an:Nat)(ua ub:List Nat)(k c:Nat)(rs:List Nat):Prop where
 len:rs.length=an+1
 ok:wok rs
 val:wv (rs.take k)+4294967296^k*c=wv (ua.take k)+wv (ub.take k)
 own:wr.ownsRow w.heap.size 179 1 (.slice (some ⟨w.heap.size,0,none⟩) (an+1) (an+1)) (an+1) (W32 rs)
 bel:Bw w wr
theorem AddInv.step{w wr:Wd}{a:Nat}{e f:List Nat}{k c:Nat}{rs:List Nat}(h:AddInv w wr a e f k c rs)(m:k<a)
 {x c' xa xb:Nat} (j:x<4294967296) (b:e.getD k 0=xa) (d:f.getD k 0=xb) (i:x+4294967296*c'=c+xa+xb):
 AddInv w (wr.setCell ⟨w.heap.size,k,none⟩ (.int .u32 (x:Nat))) a e f (k+1) c' (rs.set k x):=by
 have n:=h.len;refine⟨Vd,yt h.ok k j,?_,?_,h.bel.setCell (ax _) _⟩
 ·rw[Nq _ _ _ ah,zO,dR,jT ah,yl,yl,b,d,uy]
  have l:=h.val;have g:4294967296^k*(x+4294967296*c')=4294967296^k*(c+xa+xb):=by rw[i]
  simp only[lW] at g;rw[oU];omega
 ·have:=(h.own.stored k (.int .u32 (x:Nat))).1
  rwa [yx] at this
theorem AddInv.fin{w wr:Wd}{a:Nat}{b d:List Nat}{c:Nat}{rs:List Nat}(h:AddInv w wr a b d a c rs)(g:c<4294967296)(i:b.length=a)(j:d.length<=a):
 (wr.setCell ⟨w.heap.size,a,none⟩ (.int .u32 (c:Nat))).ownsRow w.heap.size 179 1 (.slice (some ⟨w.heap.size,0,none⟩) (a+1) (a+1)) (a+1) (W32 (rs.set a c))
 /\wok (rs.set a c)/\wv (rs.set a c)=wv b+wv d/\Bw w (wr.setCell ⟨w.heap.size,a,none⟩ (.int .u32 (c:Nat))):=by
 refine⟨?_,yt h.ok a g,?_,h.bel.setCell (ax _) _⟩
 ·have:=(h.own.stored a (.int .u32 (c:Nat))).1
  rwa [yx] at this
 ·have e:rs.set a c=(rs.set a c).take (a+1):=by rw[kU];simp[h.len]
  have f:=h.val;rw[kU (l:=b) ah,kU (l:=d) ah] at f;rw[e,Nq _ _ _ (by rw[h.len];omega),zO,dR,jT (by rw[h.len];omega)];exact f
theorem ajA(w:Wd)(A M:Oz)(a K bn L:Nat)(n j:List Nat)(N:Rd w A a K n)(P:Rd w M bn L j)(hn:a<=64)(O:bn<=64)(V:bn<=a):
 Cl 162 #[.slice A a K,.slice M bn L] w (oI w (wv n+wv j)):=by
 obtain⟨X,hi,E,G,D⟩:=mJ yu;have q:=af N;have H:=af P;clear N P;go_enter Tryz.func162,Tryz.ntmps162;go_wp2_with(first|(at_make;refine xM _ rfl _ _ 142 rfl w.heap.size 179 X (.int .u32 0) 1 xH hi E G _ _ _ _ (a+1) rfl rfl ay ay wJ jg (ax _) ?_;intro R f b));rw[zQ] at f;have i:AddInv w R a n j 0 0 (List.replicate (a+1) 0):=⟨ay,zN _,by simp[wv],f,(aP _ _).grown b (ax _) (fun k h=>qj)⟩;clear f b;go_loopw[6,7] (fun S I wr=> ∃(k c:Nat) (rs:List Nat),k<=a/\I=.int .i64 k/\S=.int .u64 c/\c<=1/\AddInv w wr a n j k c rs) (fun _ I _=>a-(intOf I).toNat)
 case atStart=>exact⟨0,0,_,ah,rfl,rfl,ah,i⟩
 case round=>
  clear i R;obtain⟨k,c,rs,hk,rfl,rfl,T,p⟩:=hrel;have W:=p.bel.size;have l:∃v,wr.cell? ⟨w.heap.size,k,none⟩=some v:=by
   exact VT
  have U:=p.own.frozenAt k;obtain⟨v0,l⟩:=l;have t:=af p;clear p;by_cases C:k<a
  ·obtain⟨g,Y,rfl⟩:=q.o.addr ah
   have r:=(q.o.below t.o.bel (ax _)).cell k C;have z:=nC q.o.ok k;generalize hxa:n.getD k 0=xa at r z;have y:=af hxa;clear hxa;by_cases x:k<bn
   ·obtain⟨Z,Q,rfl⟩:=H.o.addr ah
    have s:=(H.o.below t.o.bel (ax _)).cell k x;have B:=nC H.o.ok k;generalize d:j.getD k 0=xb at s B;exact aib
   have d:j.getD k 0=0:=by
    exact ajh
   exact aid
  obtain rfl:k=a:=ah;have F:=t.o.fin ah q.o.len (by have:=H.o.len;omega);exact aii
theorem ajB(w:Wd)(A M:Oz)(l K bn L:Nat)(i q:List Nat)(N:Rd w A l K i)(P:Rd w M bn L q)(hn:l<=64)(O:bn<=64)(V:l<bn):
 Cl 162 #[.slice A l K,.slice M bn L] w (oI w (wv i+wv q)):=by
 obtain⟨X,hi,E,G,D⟩:=mJ yu;rw[qI (wv i)];have j:=af N;have H:=af P;clear N P;go_enter Tryz.func162,Tryz.ntmps162;go_wp2_with(first|(at_make;refine xM _ rfl _ _ 142 rfl w.heap.size 179 X (.int .u32 0) 1 xH hi E G _ _ _ _ (bn+1) rfl rfl ay ay wJ jg (ax _) ?_;intro R f a));rw[zQ] at f;have b:AddInv w R bn q i 0 0 (List.replicate (bn+1) 0):=⟨ay,zN _,by simp[wv],f,(aP _ _).grown a (ax _) (fun k h=>qj)⟩;clear f a;go_loopw[6,7] (fun S I wr=> ∃(k c:Nat) (rs:List Nat),k<=bn/\I=.int .i64 k/\S=.int .u64 c/\c<=1/\AddInv w wr bn q i k c rs) (fun _ I _=>bn-(intOf I).toNat)
 case atStart=>exact⟨0,0,_,ah,rfl,rfl,ah,b⟩
 case round=>
  clear b R;obtain⟨k,c,rs,hk,rfl,rfl,T,p⟩:=hrel;have W:=p.bel.size;have n:∃v,wr.cell? ⟨w.heap.size,k,none⟩=some v:=by
   exact VT
  have U:=p.own.frozenAt k;obtain⟨v0,n⟩:=n;have t:=af p;clear p;by_cases C:k<bn
  ·obtain⟨g,Y,rfl⟩:=H.o.addr ah
   have r:=(H.o.below t.o.bel (ax _)).cell k C;have z:=nC H.o.ok k;generalize hxa:q.getD k 0=xa at r z;have y:=af hxa;clear hxa;by_cases x:k<l
   ·obtain⟨Z,Q,rfl⟩:=j.o.addr ah
    have s:=(j.o.below t.o.bel (ax _)).cell k x;have B:=nC j.o.ok k;generalize d:i.getD k 0=xb at s B;exact aib
   have d:i.getD k 0=0:=by
    rw[bK,iy (by have:=j.o.len;omega)];rfl
   exact aid
  obtain rfl:k=bn:=ah;have F:=t.o.fin ah H.o.len (by have:=j.o.len;omega);exact aii
def Sm(n:Nat):Prop:=n<4294967296^60
theorem Nm.len(h:Nm w v n)(Z:Sm n):∃A a cap ws,v=.slice A a cap/\Rd w A a cap ws/\qQ ws/\wv ws=n/\a<=60:=by
 obtain⟨A,a,cap,ws,rfl,c,F,b⟩:=h;exact⟨A,a,cap,ws,rfl,c,F,b,by rw[<-c.len];exact Dh F (by rw[b];exact Z)⟩
theorem Wv(w:Wd)(l m:Value)(a b:Nat)(n:Nm w l a)(o:Nm w m b)(N:Sm a)(t:Sm b):
 Cl 162 #[l,m] w (oI w (a+b)):=by
 obtain⟨A,e,f,j,rfl,c,r,rfl,p⟩:=n.len N;obtain⟨i,bn,g,k,rfl,d,s,rfl,q⟩:=o.len t;by_cases h:bn<=e
 ·exact ajA w A i e f bn g j k c d ah ah h
 ·exact ajB w A i e f bn g j k c d ah ah ah
def gX(a b:Nat):Int:=if a<b then-1 else if b<a then 1 else 0
theorem Ib{a:Nat}(h:a<b):gX a b= -1:=by unfold gX;rw[if_pos h]
theorem abZ{a:Nat}(h:b<a):gX a b=1:=by unfold gX;rw[if_neg ah,if_pos h]
theorem ajC(a:Nat):gX a a=0:=by unfold gX;rw[if_neg ah,if_neg ah]
theorem ajD(w:Wd)(A F:Oz)(an D bn E:Nat)(b c:List Nat)(G:Rd w A an D b)(I:Rd w F bn E c)(r:qQ b)(s:qQ c)(Q:an<=64)(O:bn<=64):
 Cl 191 #[.slice A an D,.slice F bn E] w fun e w'=>e=.returned (.int .i64 (gX (wv b) (wv c)))/\∃n,w'=w.drewN n:=by
 have HA:=af G;have H:=af I;have u:=af r;have v:=af s;clear G I r s;rcases Nat.lt_trichotomy an bn with p|h|l
 ·have hv:gX (wv b) (wv c)= -1:=Ib (Ws HA.o.ok v.o (by rw[HA.o.len,H.o.len];exact p))
  exact aiq
 ·obtain rfl:=h
  go_enter Tryz.func191,Tryz.ntmps191;go_wp2;go_loopw[5] (fun C wr=> ∃k:Nat,k<=an/\C=.int .i64 ((k:Int)-1)/\(∀i,k<=i->i<b.length->b.getD i 0=c.getD i 0)/\∃n,wr=w.drewN n) (fun C _=>(intOf C+1).toNat)
  case atStart=>exact⟨an,ah,rfl,fun i q f=>by have:=HA.o.len;omega,0,rfl⟩
  case round=>
   obtain⟨k,P,rfl,J,n,rfl⟩:=hrel;have t:=af J;clear J;by_cases N:0<k
   ·obtain⟨j,rfl⟩:∃j,k=j+1:=⟨k-1,ah⟩
    rw[show(((j+1:Nat):Int)-1)=(j:Int) from ah];obtain⟨g,L,rfl⟩:=HA.o.addr ah;obtain⟨M,K,rfl⟩:=H.o.addr ah;have x:=HA.o.cell j ah;have z:=H.o.cell j ah;generalize hxa:b.getD j 0=xa at x;generalize d:c.getD j 0=xb at z;have y:=af hxa;have m:=af d;clear hxa d;rcases Nat.lt_trichotomy xa xb with p|h|l
    ·have hv:gX (wv b) (wv c)= -1:=Ib (abY HA.o.ok (k:=j) Gf aa8 (fun i q f=>t.o i ah f) (by rw[y.o,m.o];exact p))
     exact aim
    ·obtain rfl:=h
     go_wp2;go_quiet (fail);go_wp2;go_roundw;case rel=>
      refine⟨j,ah,rfl,fun i q f=>?_,_,rfl⟩;by_cases B:i=j
      ·rw[B,y.o,m.o]
      exact t.o i ah f
     case measure=>exact aW
    have hv:gX (wv b) (wv c)=1:=abZ (abY H.o.ok (k:=j) (by rw[H.o.len];omega) aa8 (fun i q f=>(t.o i ah (by rw[HA.o.len];rw[H.o.len] at f;exact f)).symm) (by rw[y.o,m.o];exact l));exact aim
   obtain rfl:k=0:=ah;have hv:gX (wv b) (wv c)=0:=by
    rw[ajw aa8 (fun i q=>t.o i ah q),ajC]
   have HV:=af hv;clear hv;go_wp2;go_ret;refine⟨by rw[HV.o];rfl,?_⟩;(try simp only[Kt]);exact⟨_,rfl⟩
 ·have hv:gX (wv b) (wv c)=1:=abZ (Ws H.o.ok u.o (by rw[HA.o.len,H.o.len];exact l))
  exact aiq
theorem Dl(w:Wd)(h i:Value)(a b:Nat)(o:Nm w h a)(p:Nm w i b)(N:Sm a)(s:Sm b):
 Cl 191 #[h,i] w fun e w'=>e=.returned (.int .i64 (gX a b))/\∃n,w'=w.drewN n:=by
 obtain⟨A,k,j,t,rfl,c,f,rfl,q⟩:=o.len N;obtain⟨m,bn,l,u,rfl,d,g,rfl,r⟩:=p.len s;exact ajD w A m k j bn l t u c d f g ah ah
theorem Ic(w:Wd)(x:Int)(d:0<=x)(g:x<=18446744073709551615):
 Cl 181 #[.int .u64 x] w (oI w x.toNat):=by
 obtain⟨n,rfl⟩:=gI d;have b:=y9 (base:=w.heap.size) (e:=179) (size:=1) w #[.int .u32 (((n%4294967296:Nat)):Int),.int .u32 ((n/4294967296:Nat):Int)] 2 (ax _) jg rfl;have a:wok [n%4294967296,n/4294967296]:=by
  intro y f;simp only[zt,zu,yZ] at f;omega
 have c:wv [n%4294967296,n/4294967296]=n:=by simp only[wv];omega
 have H:=af (lX b (lX a c));clear b a c;go_enter Tryz.func181,Tryz.ntmps181;go_wp2_with fail;rw[show((n:Int)%4294967296)=((n%4294967296:Nat):Int) from ah,show((n:Int)/4294967296)=((n/4294967296:Nat):Int) from ah];refine(yw _ w.heap.size _ 2 [n%4294967296,n/4294967296] H.o.1 H.o.2.1).mono ?_;rintro e w' ⟨⟨J,rfl,u⟩,rfl⟩;rw[H.o.2.2] at u;go_wp2;go_ret;exact⟨⟨J,rfl,u⟩,baqq _ _⟩
theorem ab1(w:Wd)(v:Value)(n:Nat)(h:Nm w v n)(hn:n<18446744073709551616):
 Cl 202 #[v] w fun e w'=>e=.returned (.int .u64 (n:Nat))/\w=w':=by
 obtain⟨A,f,cap,ws,rfl,c,F,rfl⟩:=h;have d:ws.length<=2:=Dh F (n:=2) wH;have I:=c.len;match ws,I,c,F,hn,d with
 |[],I,c,F,hn,d=>
  obtain rfl:f=0:=FV;clear c F hn d I;go_enter Tryz.func202,ZQ;go_wp2;go_ret;exact⟨rfl,rfl⟩
 |[a],I,c,F,hn,d=>
  obtain rfl:f=1:=FV;obtain⟨g,k,rfl⟩:=c.addr ah;have i:=c.cell 0 ah;simp at i;have l:=(wV.1 c.ok).1;clear c F hn d I;go_enter Tryz.func202,ZQ;go_wp2;go_ret;exact⟨by simp[wv],rfl⟩
 |[a,b],I,c,F,hn,d=>
  obtain rfl:f=2:=FV;obtain⟨g,k,rfl⟩:=c.addr ah;have i:=c.cell 0 ah;have j:=c.cell 1 ah;simp at i j;have l:=(wV.1 c.ok).1;have m:=(wV.1 (wV.1 c.ok).2).1;clear c F hn d I;go_enter Tryz.func202,ZQ;go_wp2;go_ret;refine⟨?_,rfl⟩;have e:bits BinOp.or IntKind.u64 (a:Int) ((b:Int)*4294967296)=((a+b*4294967296:Nat):Int):=by
   rw[show((b:Int)*4294967296)=((b*4294967296:Nat):Int) from ah,u64_or_nat _ _ ah ah,Rl,
    nat_join 32 _ _ ah ah,qI]
  show Ending.returned (.int .u64 (bits BinOp.or IntKind.u64 (a:Int) ((b:Int)*4294967296)))=_;rw[e];simp only[wv];rw[show a+b*4294967296=a+4294967296*(b+4294967296*0) from ah]
def gG(n:Nat):Nat:=if n=0 then 0 else Nat.log2 n+1
theorem ajE(x:Nat)(h:x≠0):gG x=gG (x/2)+1:=by
 unfold gG;rw[if_neg h];rw[Nat.log2_def];by_cases a:2<=x
 ·rw[if_pos a,if_neg ah]
 rw[if_neg a,if_pos ah]
theorem Ie(n:Nat):n<2^gG n:=by
 unfold gG;split
 ·subst n;decide
 exact Nat.lt_log2_self
theorem zS(h:n<2^k):gG n<=k:=by
 unfold gG;split
 ·omega
 rename_i h0;have:=(Nat.log2_lt h0).2 h;omega
theorem ajF(h:n≠0):2^(gG n-1)<=n:=by
 unfold gG;rw[if_neg h];exact Nat.log2_self_le h
theorem Nr(d:2^k<=n)(a:n<2^(k+1)):gG n=k+1:=by
 have c:n≠0:=by have:=vS k;omega
 have e:=zS a;by_cases b:gG n<=k
 ·have f:=Ie n
  have:=jK (show 0<2 from ah) b;omega
 omega
theorem ajG(b:wok l)(F:qQ l)(j:l.length=n+1):gG (wv l)=n*32+gG (l.getD n 0):=by
 have g:=F n j;have h:l=l.take n++[l.getD n 0]:=by
  rw[<-Wn l n ah,kU ah]
 have c:wv l=wv (l.take n)+4294967296^n*l.getD n 0:=by
  conv=>lhs;rw[h]
  rw[zO,dR,jT ah]
 have i:=wY (Np b n);rw[dR,jT ah] at i;have f:(4294967296:Nat)^n=2^(n*32):=by rw[show 4294967296=2^32 from rfl,<-BK,jm]
 generalize l.getD n 0=x at*
 obtain⟨k,e⟩:∃k,gG x=k+1:=⟨gG x-1,by unfold gG;rw[if_neg g];omega⟩;have a:=ajF g;have d:=Ie x;rw[e] at a d;simp only[Rn] at a;rw[e,show n*32+(k+1)=(n*32+k)+1 from ah];refine Nr ?_ ?_
 ·rw[c,lD,<-f]
  have:=BJ (4294967296^n) a;omega
 rw[c,show n*32+k+1=n*32+(k+1) from ah,lD,<-f];have:=BJ (4294967296^n) (show x+1<=2^(k+1) from d);rw[lW] at this;omega
theorem Wx(w:Wd)(v:Value)(n:Nat)(h:Nm w v n)(Z:Sm n):
 Cl 161 #[v] w fun e w'=>e=.returned (.int .i64 (gG n:Nat))/\w=w':=by
 obtain⟨A,i,cap,ws,rfl,a,F,rfl,C⟩:=h.len Z;cases i with
 |zero=>
  obtain rfl:ws=[]:=List.length_eq_zero_iff.1 a.len;clear a F Z h;go_enter Tryz.func161,Tryz.ntmps161;go_wp2;go_ret;exact⟨rfl,rfl⟩
 |succ m=>
  have H:=af (ajG a.ok F a.len);obtain⟨g,B,rfl⟩:=a.addr ah;have r:=a.cell m ah;have f:=nC a.ok m;generalize hy:ws.getD m 0=y at r f;rw[hy] at H;have u:gG y<=32:=zS f;clear a F Z hy h;go_enter Tryz.func161,Tryz.ntmps161;go_wp2;go_loop [3,4] (fun z j=> ∃k x:Nat,z=.int .i64 k/\j=.int .u32 x/\x<4294967296/\k+gG x=gG y) (fun _ j=>(intOf j).toNat)
  case atStart=>exact⟨0,y,rfl,rfl,f,ah⟩
  case round=>
   obtain⟨k,x,rfl,rfl,t,b⟩:=hrel;have l:=af b;have p:k<=32:=ah;clear b;by_cases c:x=0
   ·subst c
    go_wp2;go_ret;refine⟨?_,rfl⟩;have d:=l.o;have q:gG 0=0:=rfl;rw[H.o,<-d,q];simp
   have s:((x:Int) !=0)=true:=(by rw[qJ];omega);go_wp2;go_round;case rel=>
    refine⟨k+1,x/2,ay,ay,ah,?_⟩;have d:=l.o;rw[ajE x c] at d;omega
   case measure=>exact aW
structure LeftInv(w wr:Wd)(q s m:Nat)(ua:List Nat)(k:Nat)(rs:List Nat):Prop where
 len:rs.length=m
 ok:wok rs
 val:wv rs=4294967296^q*(2^s*wv (ua.take k))
 top:∀j,k+q<j->rs.getD j 0=0
 carry:rs.getD (k+q) 0<2^s
 own:wr.ownsRow w.heap.size 179 1 (.slice (some ⟨w.heap.size,0,none⟩) m m) m (W32 rs)
 bel:Bw w wr
theorem Ig(l:List Nat)(i j x:Nat)(h:i<l.length):(l.set i x).getD j 0=if i=j then x else l.getD j 0:=by
 rw[bK,Ku];by_cases a:i=j
 ·subst a;simp[h]
 rw[if_neg a,if_neg a,bK]
theorem Wy(m j:Nat):(List.replicate m 0).getD j 0=0:=by
 rw[bK,BO];split<;>rfl
theorem LeftInv.step{w wr:Wd}{q s m:Nat}{e:List Nat}{k:Nat}{rs:List Nat}(h:LeftInv w wr q s m e k rs)(O:k+q+1<m)(Z:s<32)
 {xa c:Nat} (z:xa<4294967296) (o:e.getD k 0=xa) (u:rs.getD (k+q) 0=c):
 LeftInv w ((wr.setCell ⟨w.heap.size,k+q,none⟩ (.int .u32 ((c+xa*2^s%4294967296:Nat):Int))).setCell ⟨w.heap.size,k+q+1,none⟩ (.int .u32 ((xa*2^s/4294967296:Nat):Int))) q s m e (k+1)
  ((rs.set (k+q) (c+xa*2^s%4294967296)).set (k+q+1) (xa*2^s/4294967296)):=by
 have hl:=h.len;have b:=h.carry;rw[u] at b;obtain⟨t,F⟩:∃t,32=s+t:=⟨32-s,ah⟩;have r:(4294967296:Nat)=2^s*2^t:=by rw[<-lD,<-F]
 have d:xa*2^s%4294967296=2^s*(xa%2^t):=by
  rw[r,jm xa,Nat.mul_mod_mul_left]
 have a:xa*2^s/4294967296<2^s:=by
  rw[Rt aA,jm];exact Nat.mul_lt_mul_of_pos_left z (vS s)
 have i:c+xa*2^s%4294967296<4294967296:=by
  rw[d];have f:xa%2^t<2^t:=oV _ (vS t);have g:=BJ (2^s) (show xa%2^t+1<=2^t from f);rw[lW,<-r] at g;omega
 have n:xa*2^s/4294967296<4294967296:=by
  have:2^s<=2^32:=jK aA ah;omega
 refine⟨xZ,yt (yt h.ok _ i) _ n,?_,?_,?_,?_,(h.bel.setCell (ax _) _).setCell (ax _) _⟩
 ·have p:=Wu (l:=rs) (k:=k+q) ah (c+xa*2^s%4294967296)
  have S:=Wu (l:=rs.set (k+q) (c+xa*2^s%4294967296)) (k:=k+q+1) aC (xa*2^s/4294967296);rw[Ig _ _ _ _ ah,if_neg ah,h.top _ ah] at S;rw[u] at p;have v:=h.val;rw[yl,o];have x:4294967296^(k+q+1)*(xa*2^s/4294967296)+4294967296^(k+q)*(xa*2^s%4294967296)=4294967296^(k+q)*(xa*2^s):=by
   rw[uy,oU,<-lW,Ru]
  have y:4294967296^q*(2^s*(wv (e.take k)+4294967296^k*xa))=4294967296^q*(2^s*wv (e.take k))+4294967296^(k+q)*(xa*2^s):=by
   rw[lW,lW,lD,jm xa];congr 1;rw[Nat.mul_left_comm (2^s),<-oU,jm (4294967296^q)]
  rw[y,<-x,<-v];rw[lW] at p;omega
 ·intro j A
  rw[Ig _ _ _ _ aC,if_neg ah,Ig _ _ _ _ ah,if_neg ah];exact h.top j ah
 ·rw[Ig _ _ _ _ aC,if_pos ah]
  exact a
 ·have f:=(h.own.stored (k+q) (.int .u32 ((c+xa*2^s%4294967296:Nat):Int))).1
  rw[yx] at f;have g:=(f.stored (k+q+1) (.int .u32 ((xa*2^s/4294967296:Nat):Int))).1;rwa [yx] at g
theorem ajH{xa c s:Nat}(h:xa<4294967296)(Z:s<32)(e:c<2^s):
 bits BinOp.or IntKind.u32 (c:Int) (IntKind.u64.wrap ((xa:Int)*2^s)%4294967296)=((c+xa*2^s%4294967296:Nat):Int)/\
 bits BinOp.or IntKind.u32 0 (IntKind.u64.wrap ((xa:Int)*2^s)/4294967296%4294967296)=((xa*2^s/4294967296:Nat):Int):=by
 have f:xa*2^s<18446744073709551616:=by
  have b:2^s<=2^32:=jK aA ah;have g:xa*2^s<=xa*2^32:=BJ _ b;omega
 have d:IntKind.u64.wrap ((xa:Int)*2^s)=((xa*2^s:Nat):Int):=by
  rw[show((xa:Int)*2^s)=((xa*2^s:Nat):Int) from ay];have:IntKind.u64.wrap ((xa*2^s:Nat):Int)=((xa*2^s:Nat):Int)%18446744073709551616:=by
   simp[IntKind.wrap,IntKind.signed,IntKind.bits]
  rw[this];omega
 have a:c<4294967296:=by
  have b:2^s<=2^32:=jK aA ah;omega
 rw[d];constructor
 ·rw[show(((xa*2^s:Nat):Int)%4294967296)=((xa*2^s%4294967296:Nat):Int) from ah,u32_or_nat _ _ a ah,Rl,
   nat_join s _ _ ?_ e,qI]
  rw[Nat.mod_mod_of_dvd]
  ·exact Nat.mul_mod_left _ _
  exact⟨2^(32-s),by rw[<-lD,Nat.add_sub_cancel' ah]⟩
 ·rw[show(((xa*2^s:Nat):Int)/4294967296%4294967296)=((xa*2^s/4294967296:Nat):Int) from ah]
  rw[show(0:Int)=((0:Nat):Int) from rfl,u32_or_nat _ _ ah ah];simp
theorem ab2(w:Wd)(O:Value)(a n:Nat)(z:Nm w O a)(N:Sm a)(hn:n<=1000):
 Cl 165 #[O,.int .u64 (n:Nat)] w (oI w (a*2^n)):=by
 obtain⟨W,hi,E,F,D⟩:=mJ yu;obtain⟨A,i,Y,x,rfl,d,r,rfl,U⟩:=z.len N;cases i with
 |zero=>
  obtain rfl:x=[]:=List.length_eq_zero_iff.1 d.len;clear d r z N;go_enter Tryz.func165,Tryz.ntmps165;go_wp2;go_ret;exact⟨⟨_,rfl,by simpa[wv] using Nm.nil w⟩,aP _ _⟩
 |succ i=>
 have HA:=af d;clear d r z N;obtain⟨g,X,rfl⟩:=HA.o.addr ah;obtain⟨q,s,Z,hq,HN⟩:∃q s,s<32/\q<=40/\Hy (n=32*q+s):=⟨n/32,n%32,ah,ah,af ah⟩;have eq:(n:Int)/32=(q:Int):=kK;have es:(n:Int)%32=(s:Int):=kK;go_enter Tryz.func165,Tryz.ntmps165;go_wp2_with(first
  |(at_make;refine xM _ rfl _ _ 142 rfl w.heap.size 179 W (.int .u32 0) 1 xH hi E F _ _ _ _ (i+1+q+1) rfl rfl ah ah wJ jg (ax _) ?_;intro P f l)
  )
 rw[zQ] at f;have m:LeftInv w P q s (i+1+q+1) x 0 (List.replicate (i+1+q+1) 0):=⟨ay,zN _,by simp[wv,abT],fun j _=>Wy _ _,by rw[Wy];exact vS s,f,(aP _ _).grown l (ax _) (fun k h=>qj)⟩;clear f l;go_loopw[8,9] (fun G _ wr=> ∃(k:Nat) (rs:List Nat),k<=i+1/\G=.int .i64 k/\LeftInv w wr q s (i+1+q+1) x k rs) (fun G _ _=>i+1-(intOf G).toNat)
 case atStart=>exact⟨0,_,ah,rfl,m⟩
 case round=>
  clear m P;obtain⟨k,rs,hk,rfl,p⟩:=hrel;have V:=p.bel.size;by_cases C:k<i+1
  ·have B:=(HA.o.below p.bel (ax _)).cell k C
   have d:=nC HA.o.ok k;generalize hxa:x.getD k 0=xa at B d;have y:=af hxa;clear hxa;obtain⟨c,v⟩:∃c,rs.getD (k+q) 0=c:=⟨_,rfl⟩;have R:wr.cell? ⟨w.heap.size,k+q,none⟩=some (.int .u32 (c:Nat)):=by
    rw[p.own.cellAt (k+q) ah,<-v,sJ _ _ (by rw[p.len];omega)];simp[W32,p.len,show k+q<i+1+q+1 from ah]
   have I:wr.cell? ⟨w.heap.size,k+q+1,none⟩=some (.int .u32 0):=by
    have H:=p.top (k+q+1) ah;rw[sJ _ _ (by rw[p.len];omega)] at H;rw[p.own.cellAt (k+q+1) ah];simp[W32,p.len,show k+q+1<i+1+q+1 from ah,H]
   have T:=p.own.frozenAt (k+q);have K:=p.own.frozenAt (k+q+1);have b:=p.carry;rw[v] at b;have L:=af (lX v b);have t:=af p;clear p v b;go_wp2;go_roundw;case rel=>
    obtain⟨Q,S⟩:=ajH d Z L.o.2;rw[Q,S];exact⟨k+1,_,ah,ay,t.o.step ah Z d y.o L.o.1⟩
   case measure=>exact aW
  obtain rfl:k=i+1:=ah;have t:=af p;clear p;go_wp2_with(go_at_call 192;refine(yw _ w.heap.size _ (i+1+q+1) rs t.o.own t.o.ok).mono ?_;rintro e w' ⟨⟨J,rfl,u⟩,rfl⟩);go_ret;refine⟨⟨J,rfl,?_⟩,t.o.bel⟩;have M:=t.o.val;rw[kU Gf] at M;rw[HN.o,lD,BK,jm,oU,show(2:Nat)^32=4294967296 from rfl,<-M];exact u
structure RightInv(w wr:Wd)(m M:Nat)(k:Nat)(rs:List Nat):Prop where
 len:rs.length=m
 ok:wok rs
 val:wv (rs.take k)=M%4294967296^k
 own:wr.ownsRow w.heap.size 179 1 (.slice (some ⟨w.heap.size,0,none⟩) m m) m (W32 rs)
 bel:Bw w wr
theorem RightInv.step{w wr:Wd}{m M k:Nat}{rs:List Nat}(h:RightInv w wr m M k rs)(c:k<m){x:Nat}(b:x=M/4294967296^k%4294967296):
 RightInv w (wr.setCell ⟨w.heap.size,k,none⟩ (.int .u32 (x:Nat))) m M (k+1) (rs.set k x):=by
 have d:=h.len;have a:x<4294967296:=by rw[b];exact oV _ aA
 refine⟨Vd,yt h.ok k a,?_,?_,h.bel.setCell (ax _) _⟩
 ·rw[Nq _ _ _ ah,zO,dR,jT ah,h.val,b,uy,Nat.mod_mul]
 ·have:=(h.own.stored k (.int .u32 (x:Nat))).1
  rwa [yx] at this
theorem ab3(l:List Nat)(b:wok l)(q:Nat)(h:q<=l.length):wv (l.drop q)=wv l/4294967296^q:=by
 have e:wv l=wv (l.take q)+4294967296^q*wv (l.drop q):=by
  conv=>lhs;rw[<-vX q l]
  rw[G9,dR,jT h]
 have a:=wY (Np b q);rw[dR,jT h] at a;rw[e,Nat.add_mul_div_left _ _ (abV q),zf a,qK]
theorem ajI(l:List Nat)(c:wok l)(q s k:Nat)(Z:s<32)(g:q+k<l.length):
 wv l/2^(32*q+s)/4294967296^k%4294967296=(l.getD (q+k) 0+4294967296*l.getD (q+k+1) 0)/2^s%4294967296:=by
 obtain⟨t,F⟩:∃t,32=s+t:=⟨32-s,ah⟩;have f:(4294967296:Nat)=2^s*2^t:=by rw[<-lD,<-F]
 rw[lD,BK,show(2:Nat)^32=4294967296 from rfl,<-xN,xN,jm (2^s),<-xN,xN (wv l),<-lD,<-ab3 l c _ ah];rw[Ia l (q+k) g,wv];by_cases d:q+k+1<l.length
 ·rw[Ia l (q+k+1) d,wv]
  generalize l.getD (q+k) 0=a;generalize l.getD (q+k+1) 0=b;generalize wv (l.drop (q+k+1+1))=R;have e:a+4294967296*(b+4294967296*R)=(a+4294967296*b)+2^s*(4294967296*(2^t*R)):=by
   rw[lW,<-xI];congr 1;conv=>lhs;rw[show 4294967296*(4294967296*R)=4294967296*(R*4294967296) from by rw[jm R]]
   rw[<-oU (2^s),jm (2^s) 4294967296,oU 4294967296,<-oU (2^s),<-f,jm R]
  rw[e,Nat.add_mul_div_left _ _ (vS s),Nat.add_mul_mod_self_left]
 ·rw[BU ah]
  have:l.getD (q+k+1) 0=0:=ahw;rw[this];rfl
theorem ajJ{a b s:Nat}(c:a<4294967296)(d:b<4294967296)(Z:s<32):
 bits BinOp.or IntKind.u64 (a:Int) ((b:Int)*4294967296)/2^s%4294967296=(((a+4294967296*b)/2^s%4294967296:Nat):Int):=by
 have e:bits BinOp.or IntKind.u64 (a:Int) ((b:Int)*4294967296)=((a+4294967296*b:Nat):Int):=by
  exact aiv
 rw[e];simp
theorem ab4(w:Wd)(S:Value)(a n:Nat)(Q:Nm w S a)(N:Sm a)(hn:n<=10000):
 Cl 163 #[S,.int .u64 (n:Nat)] w (oI w (a/2^n)):=by
 obtain⟨Y,hi,L,M,D⟩:=mJ yu;obtain⟨A,E,ac,j,rfl,c,K,rfl,W⟩:=Q.len N;obtain⟨q,s,Z,hq,HN⟩:∃q s,s<32/\q<=400/\Hy (n=32*q+s):=⟨n/32,n%32,ah,ah,af ah⟩;have eq:(n:Int)/32=(q:Int):=kK;have es:(n:Int)%32=(s:Int):=kK;have HA:=af c;clear c K Q N;by_cases I:E<=q
 ·have x:wv j/2^n=0:=by
   rw[HN.o,lD,BK,show(2:Nat)^32=4294967296 from rfl,<-xN];have F:=wY HA.o.ok;rw[HA.o.len] at F;have h2:(4294967296:Nat)^E<=4294967296^q:=jK aA I;rw[zf (a:=wv j) ah,Nat.zero_div]
  have U:=af x;clear x;go_enter Tryz.func163,Tryz.ntmps163;go_wp2;go_ret;exact⟨⟨_,rfl,by rw[U.o];exact Nm.nil w⟩,aP _ _⟩
 ·obtain⟨g,off,rfl⟩:=HA.o.addr ah
  obtain⟨m,O⟩:∃m,E=q+m+1:=⟨E-q-1,ah⟩;obtain rfl:=O;go_enter Tryz.func163,Tryz.ntmps163;go_wp2_with(first
   |(at_make;refine xM _ rfl _ _ 142 rfl w.heap.size 179 Y (.int .u32 0) 1 xH hi L M _ _ _ _ (m+1) rfl rfl ah ah wJ jg (ax _) ?_;intro T f b)
   )
  rw[zQ] at f;have i:RightInv w T (m+1) (wv j/2^n) 0 (List.replicate (m+1) 0):=⟨ay,zN _,by simp[wv,Nat.mod_one],f,(aP _ _).grown b (ax _) (fun k h=>qj)⟩;clear f b;go_loopw[8,9] (fun P _ wr=> ∃(k:Nat) (rs:List Nat),k<=m+1/\P=.int .i64 k/\RightInv w wr (m+1) (wv j/2^n) k rs) (fun P _ _=>m+1-(intOf P).toNat)
  case atStart=>exact⟨0,_,ah,rfl,i⟩
  case round=>
   clear i T;obtain⟨k,rs,hk,rfl,p⟩:=hrel;have X:=p.bel.size;by_cases C:k<m+1
   ·have z:∃v,wr.cell? ⟨w.heap.size,k,none⟩=some v:=by
     exact VT
    have V:=p.own.frozenAt k;obtain⟨v0,z⟩:=z;have t:=af p;clear p;have G:=(HA.o.below t.o.bel (ax _)).cell (k+q) ah;have c:=nC HA.o.ok (k+q);have r:=af (ajI j HA.o.ok q s k Z Gf);rw[qI q k] at r;generalize hxa:j.getD (k+q) 0=xa at G c;have y:=af hxa;by_cases l:k=m
    ·have x:j.getD (k+q+1) 0=0:=by rw[bK,iy Gf];rfl
     rw[x,hxa,<-HN.o,Nat.mul_zero,Kv] at r;clear hxa x;subst l;go_wp2;go_roundw;case rel=>
      refine⟨k+1,rs.set k (xa/2^s%4294967296),ah,ay,?_⟩;have:=t.o.step ah r.o.symm;simpa using this
     case measure=>exact aW
    have H:=(HA.o.below t.o.bel (ax _)).cell (k+q+1) ah;have B:=nC HA.o.ok (k+q+1);generalize d:j.getD (k+q+1) 0=xb at H B;rw[d,hxa,<-HN.o] at r;clear hxa d;go_wp2;go_roundw;case rel=>
     refine⟨k+1,rs.set k ((xa+4294967296*xb)/2^s%4294967296),ah,ay,?_⟩;rw[ajJ c B Z];exact t.o.step ah r.o.symm
    case measure=>exact aW
   obtain rfl:k=m+1:=ah;have t:=af p;clear p;go_wp2_with(go_at_call 192;refine(yw _ w.heap.size _ (m+1) rs t.o.own t.o.ok).mono ?_;rintro e w' ⟨⟨J,rfl,u⟩,rfl⟩);go_ret;refine⟨⟨J,rfl,?_⟩,t.o.bel⟩;have R:=t.o.val;have hl:=t.o.len;rw[kU ah] at R;rw[R,zg] at u
   ·exact u
   have F:=wY HA.o.ok;rw[HA.o.len] at F;rw[HN.o,lD,BK,show(2:Nat)^32=4294967296 from rfl,<-xN];refine Kw (Ky _ _) ?_;rw[Rt (abV q),<-lD];rw[show m+1+q=q+m+1 from ah];exact F
structure MulInv(w wr:Wd)(m:Nat)(V:Nat)(t:Nat)(rs:List Nat):Prop where
 len:rs.length=m
 ok:wok rs
 val:wv rs=V
 top:∀j,t<=j->rs.getD j 0=0
 own:wr.ownsRow w.heap.size 179 1 (.slice (some ⟨w.heap.size,0,none⟩) m m) m (W32 rs)
 bel:Bw w wr
theorem MulInv.drewN{wr:Wd}{m V t:Nat}{rs:List Nat}(h:MulInv w wr m V t rs)(n:Nat):MulInv w (wr.drewN n) m V t rs:=
 ⟨h.len,h.ok,h.val,h.top,h.own,h.bel.trans ⟨rfl,rfl,rfl,ax _,fun _ _=>rfl⟩⟩
theorem MulInv.step{w wr:Wd}{m V t:Nat}{rs:List Nat}(h:MulInv w wr m V t rs){p x r b:Nat}(n:p<m)(f:x<4294967296)(e:rs.getD p 0=r)
 (g:b+4294967296^p*r=V+4294967296^p*x) (a:Nat) (F:t<=a) (d:p<a):
 MulInv w (wr.setCell ⟨w.heap.size,p,none⟩ (.int .u32 (x:Nat))) m b a (rs.set p x):=by
 have hl:=h.len;refine⟨xZ,yt h.ok _ f,?_,fun j i=>?_,?_,h.bel.setCell (ax _) _⟩
 ·have c:=Wu (l:=rs) (k:=p) ah x
  rw[e,h.val] at c;omega
 ·rw[Ig _ _ _ _ ah,if_neg ah]
  exact h.top j ah
 ·have:=(h.own.stored p (.int .u32 (x:Nat))).1
  rwa [yx] at this
theorem ajK{c xa xb r:Nat}(f:c<4294967296)(d:xa<4294967296)(e:xb<4294967296)(g:r<4294967296):
 c+(xa*xb+r)<18446744073709551616/\(c+(xa*xb+r))/4294967296<4294967296:=by
 have b:xa*xb<=4294967295*4294967295:=zh ah ah;have a:c+(xa*xb+r)<18446744073709551616:=ah;exact⟨a,ah⟩
theorem ajL{c xa xb r:Nat}(h:c+(xa*xb+r)<18446744073709551616):
 IntKind.u64.wrap ((c:Int)+IntKind.u64.wrap (IntKind.u64.wrap ((xa:Int)*xb)+r))=((c+(xa*xb+r):Nat):Int):=by
 have e:∀z,IntKind.u64.wrap z=z%18446744073709551616:=ahj;rw[e,e,e,show((xa:Int)*xb)=((xa*xb:Nat):Int) from ay];generalize xa*xb=p at*
 omega
theorem ajM{B P V c xa xb r S:Nat}(a:V+P*c=S)(b:P*r<=V):
 (V-P*r+P*((c+(xa*xb+r))%B))+(P*B)*((c+(xa*xb+r))/B)=S+P*(xa*xb):=by
 rw[oU P,xI,<-lW,Nat.mod_add_div];rw[lW,lW];omega
theorem ajN(l:List Nat)(p:Nat):4294967296^p*l.getD p 0<=wv l:=by
 by_cases h:p<l.length
 ·have e:wv l=wv (l.take (p+1))+4294967296^(p+1)*wv (l.drop (p+1)):=by
   conv=>lhs;rw[<-vX (p+1) l]
   rw[G9,dR,jT ah]
  rw[e,yl];omega
 exact VZ
theorem ajO(w:Wd)(va vb:Value)(a b:Nat)(ha:Nm w va a)(hb:Nm w vb b)(N:Sm a)(sb:Sm b):
 Cl 172 #[va,vb] w (oI w (a*b)):=by
 obtain⟨i0,hi,hz0,hz1,D⟩:=mJ yu;obtain⟨A,n,ac,I,rfl,v,hta,rfl,hla⟩:=ha.len N;obtain⟨bo,bn,bc,F,rfl,x,htb,rfl,hlb⟩:=hb.len sb;have HA:=af v;have H:=af x;clear v x hta htb ha hb N sb;by_cases M:n=0
 ·subst M
  have K:wv I*wv F=0:=by
   have:I=[]:=List.length_eq_zero_iff.1 HA.o.len;rw[this];simp[wv]
  rw[K];clear K;exact ai9
 by_cases O:bn=0
 ·subst O
  have K:wv I*wv F=0:=by
   have:F=[]:=List.length_eq_zero_iff.1 H.o.len;rw[this];simp[wv]
  rw[K];clear K;have P:((n:Int)==0)=false:=FK;exact ai9
 obtain⟨g,off,rfl⟩:=HA.o.addr ah;obtain⟨g2,off2,rfl⟩:=H.o.addr ah;have P:((n:Int)==0)=false:=FK;have Q:((bn:Int)==0)=false:=FK;clear M O;go_enter Tryz.func172,Tryz.ntmps172;go_wp2_with(first
  |(at_make;refine xM _ rfl _ _ 142 rfl w.heap.size 179 i0 (.int .u32 0) 1 xH hi hz0 hz1 _ _ _ _ (n+bn) rfl rfl ay ay wJ jg (ax _) ?_;intro w1 f s)
  )
 rw[zQ] at f;have G:MulInv w w1 (n+bn) 0 bn (List.replicate (n+bn) 0):=⟨ay,zN _,abT _,fun j _=>Wy _ _,f,(aP _ _).grown s (ax _) (fun k h=>qj)⟩;clear f s P Q;go_loopw[6,7,8] (fun iv _ _ wr=> ∃(i:Nat) (rs:List Nat),i<=n/\iv=.int .i64 i/\MulInv w wr (n+bn) (wv (I.take i)*wv F) (i+bn) rs) (fun iv _ _ _=>n-(intOf iv).toNat)
 case atStart=>exact⟨0,_,ah,rfl,by simpa[wv] using G⟩
 case round=>
  clear G w1;obtain⟨i,rs,hi',rfl,p⟩:=hrel;have Z:=p.bel.size;by_cases C:i<n
  ·have v:=nC HA.o.ok i
   have z:=(HA.o.below p.bel (ax _)).cell i C;generalize hxa:I.getD i 0=xa at z v;have y:=af hxa;clear hxa z;have t:=af p;clear p;obtain⟨wo,rfl⟩:=ak (wr:Wd);go_wp2;go_loopw[7,8] (fun cv jv wr=> ∃(j c V:Nat) (rs:List Nat),j<=bn/\jv=.int .i64 j/\cv=.int .u64 c/\c<4294967296/\MulInv w wr (n+bn) V (i+bn) rs/\V+4294967296^(i+j)*c=wv (I.take i)*wv F+4294967296^i*(xa*wv (F.take j))) (fun _ jv _=>bn-(intOf jv).toNat)
   case atStart=>exact⟨0,0,_,_,ah,rfl,rfl,ah,t.o,by simp[wv]⟩
   case round=>
    clear t;obtain⟨j,c,V,rs,hj,rfl,rfl,hc,p,hV⟩:=hrel;have Z:=p.bel.size;have E:∃r:Nat,r<4294967296/\wr.cell? ⟨w.heap.size,i+j,none⟩=some (.int .u32 (r:Nat))/\rs.getD (i+j) 0=r:=by
     refine⟨rs.getD (i+j) 0,nC p.ok _,?_,rfl⟩;rw[p.own.cellAt (i+j) ah,sJ _ _ (by rw[p.len];omega)];simp[W32,p.len,show i+j<n+bn from ah]
    have hfr:=p.own.frozenAt (i+j);have t:=af p;have HV:=af hV;clear p hV;by_cases X:j<bn
    ·have z:=(HA.o.below t.o.bel (ax _)).cell i C
     rw[y.o] at z;have x:=nC H.o.ok j;have W:=(H.o.below t.o.bel (ax _)).cell j X;generalize d:F.getD j 0=xb at W x;have m:=af d;clear d;obtain⟨r,hr,E,q⟩:=E;have R:=af q;clear q;go_wp2;go_quiet (fail);go_wp2;go_roundw;case rel=>
      have L:=ajK hc v x hr;rw[ajL L.1];have T:=ajN rs (i+j);rw[R.o,t.o.val] at T;have U:=ajM (B:=4294967296) (xa:=xa) (xb:=xb) HV.o T;refine⟨j+1,(c+(xa*xb+r))/4294967296,V-4294967296^(i+j)*r+4294967296^(i+j)*((c+(xa*xb+r))%4294967296),rs.set (i+j) ((c+(xa*xb+r))%4294967296),ah,ay,ay,L.2,?_,?_⟩
      ·rw[show(((c+(xa*xb+r):Nat):Int)%4294967296)=(((c+(xa*xb+r))%4294967296:Nat):Int) from ah]
       exact(t.o.drewN _).step ah ah R.o ah _ (ax _) ah
      rw[<-xI i j 1,uy,U,yl,m.o,lW xa,lW (4294967296^i),lD,<-xI];congr 1;rw[oU,Nat.mul_left_comm xa]
     case measure=>exact aW
    obtain rfl:j=bn:=ah;obtain⟨r,hr,E,q⟩:=E;have Y:r=0:=(by rw[<-q];exact t.o.top _ ah);subst Y;have R:=af q;clear q;have e1:(c:Int)%4294967296=(c:Int):=ah;go_wp2;go_roundw;case rel=>
     refine⟨i+1,rs.set (i+j) c,ah,ay,?_⟩;have U:=HV.o;rw[kU (l:=F) (by rw[H.o.len];omega)] at U;have S:wv (I.take (i+1))*wv F=V+4294967296^(i+j)*c:=by
      rw[U,yl,y.o,Nat.add_mul,oU]
     rw[S,show i+1+j=i+j+1 from ah];exact t.o.step ah hc R.o ah _ ah ah
    case measure=>exact aW
  obtain rfl:i=n:=ah;have t:=af p;clear p;go_wp2_with(go_at_call 192;refine(yw _ w.heap.size _ (i+bn) rs t.o.own t.o.ok).mono ?_;rintro e w' ⟨⟨J,rfl,u⟩,rfl⟩);go_ret;refine⟨⟨J,rfl,?_⟩,t.o.bel⟩;rw[t.o.val,kU Gf] at u;exact u
theorem Ns(z:Int):IntKind.u64.wrap z=z%18446744073709551616:=by
 simp[IntKind.wrap,IntKind.signed,IntKind.bits]
theorem ajP(xa xb c:Nat)(d:c<=1)(a:xa<4294967296)(b:xb<4294967296):
 ∃x c':Nat,IntKind.u64.wrap (IntKind.u64.wrap ((xa:Int)-c)-xb)%4294967296=(x:Int)/\IntKind.u64.wrap (IntKind.u64.wrap ((xa:Int)-c)-xb)/9223372036854775808=(c':Int)/\
  c'<=1/\x<4294967296/\x+xb+c=xa+4294967296*c':=by
 have e:IntKind.u64.wrap (IntKind.u64.wrap ((xa:Int)-c)-xb)=((xa:Int)-c-xb)%18446744073709551616:=by
  rw[Ns,Ns,Int.emod_sub_emod]
 rw[e];by_cases h:xb+c<=xa
 ·exact⟨xa-c-xb,0,ah,ah,ah,ah,ah⟩
 ·exact⟨xa+4294967296-c-xb,1,ah,ah,ah,ah,ah⟩
theorem ajQ(xa c:Nat)(b:c<=1)(a:xa<4294967296):
 ∃x c':Nat,IntKind.u64.wrap ((xa:Int)-c)%4294967296=(x:Int)/\IntKind.u64.wrap ((xa:Int)-c)/9223372036854775808=(c':Int)/\
  c'<=1/\x<4294967296/\x+0+c=xa+4294967296*c':=by
 rw[Ns];by_cases h:c<=xa
 ·exact⟨xa-c,0,ah,ah,ah,ah,ah⟩
 ·exact⟨xa+4294967296-c,1,ah,ah,ah,ah,ah⟩
structure SubInv(w wr:Wd)(an:Nat)(ua ub:List Nat)(k c:Nat)(rs:List Nat):Prop where
 len:rs.length=an
 ok:wok rs
 val:wv (rs.take k)+wv (ub.take k)=wv (ua.take k)+4294967296^k*c
 own:wr.ownsRow w.heap.size 179 1 (.slice (some ⟨w.heap.size,0,none⟩) an an) an (W32 rs)
 bel:Bw w wr
theorem SubInv.step{w wr:Wd}{a:Nat}{e f:List Nat}{k c:Nat}{rs:List Nat}(h:SubInv w wr a e f k c rs)(m:k<a)
 {x c' xa xb:Nat} (j:x<4294967296) (b:e.getD k 0=xa) (d:f.getD k 0=xb) (i:x+xb+c=xa+4294967296*c'):
 SubInv w (wr.setCell ⟨w.heap.size,k,none⟩ (.int .u32 (x:Nat))) a e f (k+1) c' (rs.set k x):=by
 have n:=h.len;refine⟨Vd,yt h.ok k j,?_,?_,h.bel.setCell (ax _) _⟩
 ·rw[Nq _ _ _ ah,zO,dR,jT ah,yl,yl,b,d,uy]
  have l:=h.val;have g:4294967296^k*(x+xb+c)=4294967296^k*(xa+4294967296*c'):=by rw[i]
  simp only[lW] at g;rw[oU];omega
 ·have:=(h.own.stored k (.int .u32 (x:Nat))).1
  rwa [yx] at this
theorem SubInv.fin{w wr:Wd}{a:Nat}{b d:List Nat}{c:Nat}{rs:List Nat}(h:SubInv w wr a b d a c rs)(j:b.length=a)(k:d.length<=a)(T:wv d<=wv b):
 wv rs=wv b-wv d:=by
 have i:=h.val;have g:=h.len;rw[kU (l:=b) ah,kU (l:=d) ah,kU (l:=rs) ah] at i;have e:=wY h.ok;rw[g] at e;have:c=0:=by
  by_cases f:c=0
  ·exact f
  exfalso;have:=BJ (4294967296^a) (show 1<=c from ah);omega
 subst this;omega
theorem ajR(w:Wd)(A N:Oz)(a L bn M:Nat)(n l:List Nat)(O:Rd w A a L n)(P:Rd w N bn M l)(hn:a<=64)(X:bn<=a)(T:wv l<=wv n):
 Cl 164 #[.slice A a L,.slice N bn M] w (oI w (wv n-wv l)):=by
 obtain⟨Z,hi,G,I,D⟩:=mJ yu;have z:=af O;have H:=af P;have U:=af T;clear O P T;go_enter Tryz.func164,Tryz.ntmps164;go_wp2_with(first
  |(at_make;refine xM _ rfl _ _ 142 rfl w.heap.size 179 Z (.int .u32 0) 1 xH hi G I _ _ _ _ a rfl rfl ay ay wJ jg (ax _) ?_;intro R f b)
  )
 rw[zQ] at f;have i:SubInv w R a n l 0 0 (List.replicate a 0):=⟨ay,zN _,by simp[wv],f,(aP _ _).grown b (ax _) (fun k h=>qj)⟩;clear f b;go_loopw[6,7,8] (fun V K _ wr=> ∃(k c:Nat) (rs:List Nat),k<=a/\K=.int .i64 k/\V=.int .u64 c/\c<=1/\SubInv w wr a n l k c rs) (fun _ K _ _=>a-(intOf K).toNat)
 case atStart=>exact⟨0,0,_,ah,rfl,rfl,ah,i⟩
 case round=>
  clear i R;obtain⟨k,c,rs,hk,rfl,rfl,q,p⟩:=hrel;have Y:=p.bel.size;by_cases C:k<a
  ·have r:∃v,wr.cell? ⟨w.heap.size,k,none⟩=some v:=by
    exact VT
   have W:=p.own.frozenAt k;obtain⟨v0,r⟩:=r;have t:=af p;clear p;obtain⟨g,off,rfl⟩:=z.o.addr ah;have B:=(z.o.below t.o.bel (ax _)).cell k C;have j:=nC z.o.ok k;generalize hxa:n.getD k 0=xa at B j;have y:=af hxa;clear hxa;by_cases F:k<bn
   ·obtain⟨g2,Q,rfl⟩:=H.o.addr ah
    have E:=(H.o.below t.o.bel (ax _)).cell k F;have s:=nC H.o.ok k;generalize d:l.getD k 0=xb at E s;have m:=af d;clear d;go_wp2;go_roundw;case rel=>
     obtain⟨x,c',e1,S,h1,h2,h3⟩:=ajP xa xb c q j s;exact ajc
    case measure=>exact aW
   have d:l.getD k 0=0:=by
    exact ajh
   have m:=af d;clear d;go_wp2;go_roundw;case rel=>
    obtain⟨x,c',e1,S,h1,h2,h3⟩:=ajQ xa c q j;exact ajc
   case measure=>exact aW
  obtain rfl:k=a:=ah;have t:=af p;clear p;go_wp2_with(go_at_call 192;refine(yw _ w.heap.size _ k rs t.o.own t.o.ok).mono ?_;rintro e w' ⟨⟨J,rfl,u⟩,rfl⟩);go_ret;exact⟨⟨J,rfl,by rw[<-t.o.fin z.o.len (by have:=H.o.len;omega) U.o];exact u⟩,t.o.bel⟩
theorem WB(w:Wd)(g i:Value)(a b:Nat)(m:Nm w g a)(n:Nm w i b)(N:Sm a)(T:b<=a):
 Cl 164 #[g,i] w (oI w (a-b)):=by
 obtain⟨A,f,j,s,rfl,c,q,rfl,o⟩:=m.len N;have r:Sm b:=by unfold Sm at*;omega
 obtain⟨l,bn,k,t,rfl,d,e,rfl,p⟩:=n.len r;refine ajR w A l f j bn k s t c d ah ?_ T;by_cases h:bn<=f
 ·exact h
 ·have:=Ws c.ok e (by rw[c.len,d.len];omega)
  omega
def IntBlk(w:Wd)(b:Nat):Prop:=∃x y,w.heap[b]?=some (.cells #[x,y] 144 (0,0))
def IntAt(w:Wd)(b:Nat)(z:Int):Prop:=∃v,w.heap[b]?=some (.cells #[.bool (decide (z<0)),v] 144 (0,0))/\Nm w v z.natAbs
theorem IntAt.blk(h:IntAt w b z):IntBlk w b:=by
 obtain⟨v,a,_⟩:=h;exact⟨_,_,a⟩
theorem uY{o:Obj}(h:w.heap[b]?=some o):b<w.heap.size:=by
 by_cases a:b<w.heap.size
 ·exact a
 rw[yY ah] at h;cases h
theorem IntBlk.lt(h:IntBlk w b):b<w.heap.size:=by
 obtain⟨x,y,h⟩:=h;exact uY h
theorem IntAt.lt(h:IntAt w b z):b<w.heap.size:=h.blk.lt
theorem IntAt.cells(h:IntAt w b z):∃v,w.cell? ⟨b,0,none⟩=some (.bool (decide (z<0)))/\w.cell? ⟨b,1,none⟩=some v/\Nm w v z.natAbs:=by
 obtain⟨v,a,c⟩:=h;exact⟨v,by simp[World.cell?,a],by simp[World.cell?,a],c⟩
theorem Nm.kept(h:Nm w v n)(e:IntBlk w b)(G:w.grownBy w' (some b)):Nm w' v n:=by
 obtain⟨A,g,cap,ws,rfl,f,F,k⟩:=h;refine⟨A,g,cap,ws,rfl,f.of_block fun a i=>G.block _ (f.lt a i) ?_,F,k⟩;intro j;obtain⟨_,d,c,T,_⟩:=f.cells a i;obtain⟨x,y,e⟩:=e;have:=fQ j;rw[this,e] at T;simp at T
theorem IntAt.kept(h:IntAt w c z)(f:IntBlk w b)(G:w.grownBy w' (some b))(a:c≠b):IntAt w' c z:=by
 obtain⟨v,d,e⟩:=h;exact⟨v,by rw[G.block c (uY d) (by simpa using a)];exact d,e.kept f G⟩
theorem IntAt.below(h:IntAt w b z)(c:Below B w w')(e:w.heap.size<=B):IntAt w' b z:=by
 obtain⟨v,a,d⟩:=h;exact⟨v,by rw[c.block b (by have:=uY a;omega)];exact a,d.below c e⟩
theorem IntBlk.below(h:IntBlk w b)(c:Below B w w')(d:w.heap.size<=B):IntBlk w' b:=by
 obtain⟨x,y,a⟩:=h;exact⟨x,y,by rw[c.block b (by have:=uY a;omega)];exact a⟩
theorem IntBlk.kept(h:IntBlk w c)(G:w.grownBy w' (some b))(a:c≠b):IntBlk w' c:=by
 obtain⟨x,y,d⟩:=h;exact⟨x,y,by rw[G.block c (uY d) (by simpa using a)];exact d⟩
theorem lG{a b c:Wd}(h:a.grownBy b row)(k:b.grownBy c row):a.grownBy c row:=
 ⟨k.os.trans h.os,k.tape.trans h.tape,k.output.trans h.output,dL h.size k.size,fun i hi d=>(k.block i (je hi h.size) d).trans (h.block i hi d)⟩
theorem lZ{a b:Wd}(h:Below B a b)(c:a.heap.size<=B)(row:Option Nat):a.grownBy b row:=
 ⟨h.os,h.tape,h.output,h.size,fun i hi _=>h.block i ah⟩
theorem eP{a:Wd}(h:Bw a w)(G:w.grownBy w' (some b))(c:a.heap.size<=b):Bw a w':=
 h.grown G h.size (fun k d=>by cases d;exact c)
theorem Nm.drew(h:Nm w v n):Nm w.drew v n:=h.below (B:=w.heap.size) (bY _) (ax _)
theorem IntAt.drew(h:IntAt w b z):IntAt w.drew b z:=h.below (B:=w.heap.size) (bY _) (ax _)
theorem IntBlk.drew(h:IntBlk w b):IntBlk w.drew b:=h
theorem IntAt.drewN(h:IntAt w b z)(n:Nat):IntAt (w.drewN n) b z:=h.below (B:=w.heap.size) ⟨rfl,rfl,rfl,ax _,fun _ _=>rfl⟩ (ax _)
def jo(w:Wd)(b:Nat)(z:Int)(e:Ending)(w':Wd):Prop:=e=.returned (.pointer (some ⟨b,0,none⟩))/\IntAt w' b z/\w.grownBy w' (some b)
theorem zT(w:Wd)(b o:Nat)(v:Value):w.grownBy (w.setCell ⟨b,o,none⟩ v) (some b):=
 ⟨rfl,rfl,rfl,uQ,fun k _ hn=>lV w _ v k wH⟩
def sgn(a:Bool)(n:Nat):Int:=if a then-(n:Int) else n
theorem ajS(a:Bool)(n:Nat):(sgn a n).natAbs=n:=by unfold sgn;split<;>omega
theorem ajT(a:Bool)(n:Nat):decide (sgn a n<0)=(a&&decide (0<n)):=by
 unfold sgn;cases a<;>simp<;>omega
theorem yz(z:Int):sgn (decide (z<0)) z.natAbs=z:=by
 unfold sgn;by_cases h:z<0
 ·simp[h];omega
 simp[h];omega
theorem ajU(z:Int)(n:Nat):sgn (decide (z<0)) (z.natAbs*2^n)=z*2^n:=by
 have a:=yz z;unfold sgn at*
 conv=>rhs;rw[<-a]
 split<;>simp[Int.natCast_mul,xO]
theorem ajV{w:Wd}{b:Nat}{x y:Value}(h:w.heap[b]?=some (.cells #[x,y] 144 (0,0)))(c a:Value):
 ((w.setCell ⟨b,1,none⟩ a).setCell ⟨b,0,none⟩ c).heap[b]?=some (.cells #[c,a] 144 (0,0)):=by
 have d:=heap_setCell_same w b 1 #[x,y] 144 a h;have e:=heap_setCell_same (w.setCell ⟨b,1,none⟩ a) b 0 _ 144 c d;rw[e];simp
theorem ql(w:Wd)(b:Nat)(a:Bool)(v:Value)(n:Nat)(q:IntBlk w b)(m:Nm w v n):
 Cl 158 #[.pointer (some ⟨b,0,none⟩),.bool a,v] w (jo w b (sgn a n)):=by
 obtain⟨x,y,T⟩:=q;have r:w.cell? ⟨b,0,none⟩=some x:=by simp[World.cell?,T]
 have u:w.cell? ⟨b,1,none⟩=some y:=by simp[World.cell?,T]
 have z:w.frozen? ⟨b,0,none⟩=false:=by simp[World.frozen?,T]
 have B:w.frozen? ⟨b,1,none⟩=false:=by simp[World.frozen?,T]
 have s:=af T;have p:=af m;clear T;obtain⟨A,c,cap,ws,rfl,j,F,i⟩:=m;have I:=j.lim.1;have e:decide (sgn a n<0)=(a&&decide (0<c)):=by
  rw[ajT];congr 1;have k:=abX F;have l:=j.len;by_cases f:c=0
  ·subst f
   have:n=0:=(by rw[<-i,k];exact List.length_eq_zero_iff.1 l);simp[this]
  have:n≠0:=by rw[<-i];intro h;rw[k] at h;subst h;simp at l;omega
  simp;omega
 have g:=af e;clear j F i e;have d:∀t:Bool,t=(a&&decide (0<c))->jo w b (sgn a n) (.returned (.pointer (some ⟨b,0,none⟩))) ((w.setCell ⟨b,1,none⟩ (.slice A c cap)).setCell ⟨b,0,none⟩ (.bool t)):=by
  intro t F;refine⟨rfl,⟨.slice A c cap,?_,?_⟩,?_⟩
  ·rw[g.o,<-F]
   exact ajV s.o _ _
  ·rw[ajS]
   exact p.o.kept ⟨x,y,s.o⟩ (lG (zT _ _ _ _) (zT _ _ _ _))
  exact lG (zT _ _ _ _) (zT _ _ _ _)
 have D:=af d;clear d;by_cases f:0<c
 ·cases a
  ·go_enter Rw,Ry
   go_wp2;go_ret;exact D.o false ay
  go_enter Rw,Ry;go_wp2;go_ret;exact D.o true (by simp[f])
 ·cases a
  ·go_enter Rw,Ry
   go_wp2;go_ret;exact D.o false ay
  go_enter Rw,Ry;go_wp2;go_ret;exact D.o false (by simp[f])
theorem zU(w:Wd)(b c:Nat)(z:Int)(n:Nat)(a:IntBlk w b)(d:IntAt w c z)(Z:Sm z.natAbs)(q:n<=1000):
 Cl 101 #[.pointer (some ⟨b,0,none⟩),.pointer (some ⟨c,0,none⟩),.int .u64 (n:Nat)] w (jo w b (z*2^n)):=by
 obtain⟨v,m,s,i⟩:=d.cells;have H:=af a;have l:=af i;have f:=d.lt;clear a i d;go_enter Tryz.func101,Tryz.ntmps101;go_wp2_with fail;go_region_with (first
  |(go_at_call 165;refine(ab2 w.drew v z.natAbs n l.o.drew Z q).mono ?_;rintro e x ⟨⟨J,rfl,u⟩,a⟩;have t:=(Kz a (p:=⟨c,0,none⟩) f).trans m;have j:=af a;have r:=af u;clear a u)
  |(go_at_call 158;refine(ql _ b _ _ (z.natAbs*2^n) (H.o.drew.below j.o (ax _)) r.o).mono ?_;rintro e y ⟨rfl,h,g⟩;have k:=af (lX h g);clear h g))
 all_goals
  go_wp2;go_ret;refine⟨rfl,?_,?_⟩
  ·have:=k.o.1
   rw[ajU] at this;exact this
  ·exact lG (lZ (rQ (aP w.heap.size w)) (ax _) _) (lG (lZ j.o (ax _) _) k.o.2)
theorem bW(h:n<340282366920938463463374607431768211456):Sm n:=by
 have:(340282366920938463463374607431768211456:Nat)=4294967296^4:=rfl;have a:(4294967296:Nat)^4<=4294967296^60:=jK aA aA;unfold Sm;omega
theorem ajW{x:Int}(a: -9223372036854775808<=x)(b:x<0):IntKind.u64.wrap (-(IntKind.u64.wrap x))= -x:=by
 have e:∀z,IntKind.u64.wrap z=z%18446744073709551616:=ahj;rw[e,e];omega
theorem ajX(w:Wd)(b:Nat)(x:Int)(l:IntBlk w b)(p: -9223372036854775808<=x)(q:x<=9223372036854775807):
 Cl 160 #[.pointer (some ⟨b,0,none⟩),.int .i64 x] w (jo w b x):=by
 have H:=af l;clear l;have d:∀i j v,oI w x.natAbs (.returned v) i->jo i b (sgn (decide (x<0)) x.natAbs) (.returned (.pointer (some ⟨b,0,none⟩))) j->jo w b x (.returned (.pointer (some ⟨b,0,none⟩))) j:=by
  rintro i j v ⟨_,a⟩ ⟨_,c,f⟩;rw[yz] at c;exact⟨rfl,c,lG (lZ a (ax _) _) f⟩
 have D:=af d;clear d;by_cases h0:x<0
 ·have m:=ajW p h0
  have n:=af m;clear m;go_enter Tryz.func160,Tryz.ntmps160;go_wp2_with fail;rw[n.o];refine(Ic _ (-x) ah ah).mono ?_;rintro e i ⟨⟨J,rfl,u⟩,a⟩;rw[show(-x).toNat=x.natAbs from ah] at u;have g:=af a;have h:=af u;clear u a;go_wp2_with(go_at_call 158;refine(ql _ b _ _ x.natAbs (H.o.below g.o (ax _)) h.o).mono ?_;rintro e j ⟨rfl,c,f⟩);go_ret;refine D.o _ _ _ ⟨⟨_,rfl,h.o⟩,g.o⟩ ⟨rfl,?_,f⟩;have U:decide (x<0)=true:=rZ;rw[U];exact c
 ·go_enter Tryz.func160,Tryz.ntmps160
  go_wp2_with(first
   |(go_at_call 181;refine(Ic _ x ah ah).mono ?_;rintro e i ⟨⟨J,rfl,u⟩,a⟩;have g:=af a;have h:=af u;clear u a)
   |(go_at_call 158;refine(ql _ b _ _ x.toNat (H.o.below g.o (ax _)) h.o).mono ?_;rintro e j ⟨rfl,c,f⟩))
  go_ret;have k:x.toNat=x.natAbs:=ah;rw[k] at c;refine D.o _ _ _ ⟨⟨_,rfl,by rw[<-k];exact h.o⟩,g.o⟩ ⟨rfl,?_,f⟩;have U:decide (x<0)=false:=aC;rw[U];exact c
def ab5(w:Wd)(z:Int)(e:Ending)(w':Wd):Prop:=∃b,e=.returned (.pointer (some ⟨b,0,none⟩))/\w.heap.size<=b/\IntAt w' b z/\Bw w w'
theorem IntBlk.new(w:Wd)(x y:Value):IntBlk (w.alloc (.cells #[x,y] 144)) w.heap.size:=⟨x,y,ZI w _⟩
theorem nH(w:Wd)(x:Int)(a: -9223372036854775808<=x)(b:x<=9223372036854775807):
 Cl 98 #[.int .i64 x] w (ab5 w x):=by
 go_enter Tryz.func98,Tryz.ntmps98;go_wp2_with(go_at_call 160;refine(ajX _ w.heap.size x (IntBlk.new w _ _) a b).mono ?_;rintro e f ⟨rfl,d,c⟩);go_ret;exact⟨w.heap.size,rfl,ax _,d,eP (baqq _ _) c (ax _)⟩
theorem Nm.cells{w:Wd}{v:Value}{n:Nat}(h:Nm w v n)(hn:n<18446744073709551616):
 ∃A d cap,v=.slice A d cap/\((d=0/\n=0)\/(∃g c,d=1/\A=some ⟨g,c,none⟩/\n<4294967296/\w.cell? ⟨g,c,none⟩=some (.int .u32 (n:Nat)))\/
  (∃g c lo hi,d=2/\A=some ⟨g,c,none⟩/\lo<4294967296/\hi<4294967296/\n=lo+4294967296*hi/\w.cell? ⟨g,c,none⟩=some (.int .u32 (lo:Nat))/\w.cell? ⟨g,c+1,none⟩=some (.int .u32 (hi:Nat)))):=by
 obtain⟨A,d,cap,ws,rfl,e,F,rfl⟩:=h;have f:ws.length<=2:=Dh F (n:=2) wH;have I:=e.len;refine⟨A,d,cap,rfl,?_⟩;match ws,I,e,F,hn,f with
 |[],I,e,F,hn,f=>exact .inl ⟨FV,rfl⟩
 |[a],I,e,F,hn,f=>
  obtain rfl:d=1:=FV;obtain⟨g,c,rfl⟩:=e.addr ah;have j:=e.cell 0 ah;have i:=(wV.1 e.ok).1;exact .inr (.inl ⟨g,c,rfl,rfl,by simpa[wv] using i,by simpa[wv] using j⟩)
 |[a,b],I,e,F,hn,f=>
  obtain rfl:d=2:=FV;obtain⟨g,c,rfl⟩:=e.addr ah;have j:=e.cell 0 ah;have k:=e.cell 1 ah;have i:=(wV.1 e.ok).1;have l:=(wV.1 (wV.1 e.ok).2).1;exact .inr (.inr ⟨g,c,a,b,rfl,rfl,i,l,by simp[wv],by simpa using j,by simpa using k⟩)
theorem ajY{a:Nat}(c:a<4294967296)(d:b<4294967296):bits BinOp.or IntKind.u64 (a:Int) ((b:Int)*4294967296)=((a+4294967296*b:Nat):Int):=by
 exact aiv
theorem ab6(w:Wd)(c:Nat)(z:Int)(a:IntAt w c z)(d:z.natAbs<18446744073709551616):
 Cl 166 #[.pointer (some ⟨c,0,none⟩)] w fun e w'=>e=.returned (.int .u64 (z.natAbs:Nat))/\w=w':=by
 obtain⟨v,i,j,b⟩:=a.cells;obtain⟨A,f,cap,rfl,h⟩:=b.cells d;clear b a;rcases h with⟨rfl,hn⟩|⟨g,off,rfl,rfl,hn,a⟩|⟨g,off,lo,hi,rfl,rfl,hlo,hhi,hn,a,hc2⟩
 ·rw[hn]
  clear hn;go_enter Tryz.func166,ZR;go_wp2;go_ret;exact⟨rfl,rfl⟩
 ·go_enter Tryz.func166,ZR
  go_wp2;go_ret;exact⟨rfl,rfl⟩
 ·rw[hn]
  have e:=ajY hlo hhi;have E:=af e;clear hn e;go_enter Tryz.func166,ZR;go_wp2;go_ret;refine⟨?_,rfl⟩;rw[<-E.o];rfl
theorem ajZ(a: -9223372036854775808<=z)(b:z<0):wrap64 (-(wrap64 (z.natAbs:Nat)))=z:=by
 unfold wrap64;omega
theorem qm(w:Wd)(c:Nat)(z:Int)(a:IntAt w c z)(f: -9223372036854775808<=z)(h:z<=9223372036854775807):
 Cl 102 #[.pointer (some ⟨c,0,none⟩)] w fun e w'=>e=.returned (.int .i64 z)/\w=w':=by
 have L:=af a;obtain⟨v,d,_,_⟩:=a.cells;clear a;by_cases b:z<0
 ·have U:decide (z<0)=true:=by simpa using b
  rw[U] at d;clear U;have e:=ajZ f b;have E:=af e;clear e;go_enter Tryz.func102,Tryz.ntmps102;go_wp2_with(go_at_call 166;refine(ab6 _ c z L.o ah).mono ?_;rintro e g ⟨rfl,rfl⟩);go_ret;refine⟨?_,rfl⟩;show Ending.returned (.int .i64 (wrap64 (-wrap64 (z.natAbs:Nat))))=_;rw[E.o]
 ·have U:decide (z<0)=false:=by simpa using b
  rw[U] at d;clear U;go_enter Tryz.func102,Tryz.ntmps102;go_wp2_with(go_at_call 166;refine(ab6 _ c z L.o ah).mono ?_;rintro e g ⟨rfl,rfl⟩);go_ret;refine⟨?_,rfl⟩;show Ending.returned (.int .i64 (z.natAbs:Nat))=_;rw[show((z.natAbs:Nat):Int)=z from ah]
theorem aj0(w:Wd)(c:Nat)(z:Int)(i:IntAt w c z):
 Cl 136 #[.pointer (some ⟨c,0,none⟩)] w fun e w'=>e=.returned (.int .i64 z.sign)/\w=w':=by
 obtain⟨v,g,n,A,b,cap,ws,rfl,f,F,k⟩:=i.cells;have I:=f.len;have a:=abX F;rw[k] at a;have j:=f.lim.1;clear f F k i;by_cases l:b=0
 ·subst l
  have:z=0:=by have:=a.2 (List.length_eq_zero_iff.1 I);omega
  subst this;clear a;exact abE
 ·have d:z≠0:=by
   intro h;subst h;have:=a.1 rfl;subst this;simp at I;omega
  have m:((b:Int)==0)=false:=FK;clear a I;rcases Int.lt_or_gt_of_ne d with h|h
  ·have U:decide (z<0)=true:=by simpa using h
   rw[U] at g;rw[Int.sign_eq_neg_one_of_neg h];clear U;exact abE
  have U:decide (z<0)=false:=aC;rw[U] at g;rw[Int.sign_eq_one_of_pos h];clear U;exact abE
theorem WC(w:Wd)(v:Value)(n:Nat)(h:Nm w v n)(Z:Sm n):Cl 201 #[v] w (oI w n):=by
 obtain⟨A,b,cap,ws,rfl,g,F,rfl,i⟩:=h.len Z;refine(ajz w A b cap ws g ah).mono ?_;rintro e w' ⟨J,rfl,f,G⟩;obtain⟨c,a,rfl,d,_⟩:=Rd.owned f g.ok;exact⟨⟨_,rfl,c,b,a,ws,rfl,d,F,rfl⟩,(aP _ _).grown G (ax _) (fun k h=>qj)⟩
theorem aj1(w:Wd)(b c:Nat)(z:Int)(a:IntBlk w b)(d:IntAt w c z)(Z:Sm z.natAbs):
 Cl 206 #[.pointer (some ⟨b,0,none⟩),.pointer (some ⟨c,0,none⟩)] w (jo w b z):=by
 obtain⟨v,m,q,i⟩:=d.cells;have H:=af a;have l:=af i;have f:=d.lt;clear a i d;go_enter Tryz.func206,Tryz.ntmps206;go_wp2_with fail;go_region_with (first
  |(go_at_call 201;refine(WC w.drew v z.natAbs l.o.drew Z).mono ?_;rintro e s ⟨⟨J,rfl,u⟩,a⟩;have r:=(Kz a (p:=⟨c,0,none⟩) f).trans m;have j:=af a;have n:=af u;clear a u)
  |(go_at_call 158;refine(ql _ b _ _ z.natAbs (H.o.drew.below j.o (ax _)) n.o).mono ?_;rintro e t ⟨rfl,h,g⟩;have k:=af (lX h g);clear h g))
 all_goals
  go_wp2;go_ret;refine⟨rfl,?_,?_⟩
  ·have:=k.o.1
   rw[yz] at this;exact this
  ·exact lG (lZ (rQ (aP w.heap.size w)) (ax _) _) (lG (lZ j.o (ax _) _) k.o.2)
theorem ab7(z:Int):sgn (!decide (z<0)) z.natAbs= -z:=by
 unfold sgn;by_cases h:z<0
 ·simp[h];omega
 simp[h];omega
theorem aj2(w:Wd)(b c:Nat)(z:Int)(a:IntBlk w b)(d:IntAt w c z)(Z:Sm z.natAbs):
 Cl 189 #[.pointer (some ⟨b,0,none⟩),.pointer (some ⟨c,0,none⟩)] w (jo w b (-z)):=by
 obtain⟨v,g,r,j⟩:=d.cells;have H:=af a;have n:=af j;have f:=d.lt;clear a j d;obtain⟨t,F⟩:=ak (decide (z<0));rw[<-F] at g;have m:=af F;clear F;go_enter Tryz.func189,Tryz.ntmps189;go_wp2_with fail;go_region_with (first
  |(go_at_call 201;refine(WC w.drew v z.natAbs n.o.drew Z).mono ?_;rintro e x ⟨⟨J,rfl,u⟩,a⟩;have s:=(Kz a (p:=⟨c,0,none⟩) f).trans g;have k:=af a;have q:=af u;clear a u)
  |(go_at_call 158;refine(ql _ b _ _ z.natAbs (H.o.drew.below k.o (ax _)) q.o).mono ?_;rintro e y ⟨rfl,i,h⟩;have l:=af (lX i h);clear i h))
 all_goals
  go_wp2;go_ret;refine⟨rfl,?_,?_⟩
  ·have:=l.o.1
   rw[m.o,ab7] at this;exact this
  ·exact lG (lZ (rQ (aP w.heap.size w)) (ax _) _) (lG (lZ k.o (ax _) _) l.o.2)
theorem Nm.one(w:Wd):Nm (w.alloc (.cells #[.int .u32 1] 179)) (.slice (some ⟨w.heap.size,0,none⟩) 1 1) 1:=by
 have b:=y9 (base:=w.heap.size) (e:=179) (size:=1) w #[.int .u32 ((1:Nat):Int)] 1 (ax _) jg rfl;obtain⟨A,cap,d,c,_⟩:=Rd.owned (ws:=[1]) b (by intro y f;simp at f;omega);injection d with h1 h2 h3;subst h1;subst h3;exact⟨_,1,1,[1],rfl,c,by intro n a;simp at a;subst a;decide,rfl⟩
theorem aj3(h:z<0)(n:Nat):z/2^n= -(((z.natAbs-1)/2^n+1:Nat):Int):=by
 have a:(0:Int)<2^n:=rU aA;obtain⟨m,rfl⟩:∃m:Nat,z= -((m:Int)+1):=⟨z.natAbs-1,ah⟩;have d:(-((m:Int)+1)).natAbs-1=m:=ah;rw[d];have S: -((m:Int)+1)/2^n= -((m:Int)/2^n)-1:=by
  rw[show-((m:Int)+1)= -(m:Int)-1 from ah];rw[ZT a];have e:=ZU (m:Int) (2^n);have f:=Int.emod_nonneg (m:Int) (Int.ne_of_gt a);have g:=Int.emod_lt_of_pos (m:Int) a;generalize (m:Int)/2^n=q at*
  generalize (m:Int)%2^n=r at*
  generalize (2:Int)^n=p at*
  have b:(-q-1)*p= -(p*q)-p:=by rw[Int.sub_mul,xO,oC q];omega
  have c:(-q-1+1)*p= -(p*q):=by rw[Int.sub_add_cancel,xO,oC q]
  first
   |(rw[b,c];omega)
   |(constructor<;>(first|rw[b]|rw[c]|skip)<;>omega)
   |skip
 rw[S];simp;omega
def Sums(w:Wd)(z:Int)(e:Ending)(w':Wd):Prop:=∃a v n,e=.returned (.tuple #[.bool a,v])/\Nm w' v n/\sgn a n=z/\∃b k,b=w.drewN k/\Below w.heap.size b w'
theorem Sums.below{e:Ending}(h:Sums w z e w'):Bw w w':=by
 obtain⟨_,_,_,_,_,_,c,k,rfl,a⟩:=h;exact La (b:=w.drewN k) ⟨rfl,rfl,rfl,ax _,fun _ _=>rfl⟩ a
theorem Nu(w:Wd)(k:Nat):Bw w (w.drewN k):=⟨rfl,rfl,rfl,ax _,fun _ _=>rfl⟩
theorem ab8(w:Wd)(s t:Bool)(l m:Value)(a b:Nat)(y:Nm w l a)(g:Nm w m b)(N:Sm a)(z:Sm b):
 Cl 159 #[.bool s,l,.bool t,m] w (Sums w (sgn s a+sgn t b)):=by
 have n:=af y;have H:=af g;have p:=af N;have q:=af z;clear y g N z;by_cases j:s=t
 ·subst j
  have c:∀v f,oI w (a+b) (.returned v) f->Sums w (sgn s a+sgn s b) (.returned (.tuple #[.bool s,v])) f:=by
   rintro v f ⟨⟨J,hv,u⟩,d⟩;obtain rfl:J=v:=aaU;refine⟨s,J,a+b,rfl,u,?_,_,0,rfl,d⟩;unfold sgn;split<;>omega
  have D:=af c;clear c;have g:(s==s)=true:=ay;cases s;all_goals
   go_enter Tryz.func159,ZV;go_wp2_with(go_at_call 162;refine(Wv _ l m a b n.o H.o p.o q.o).mono ?_;rintro e f ⟨⟨A,rfl,u⟩,g⟩;have i:=af (lX u g);clear g u);go_ret2;exact D.o _ _ ⟨⟨_,rfl,i.o.1⟩,i.o.2⟩
 ·by_cases r:b<=a
  ·have c:∀v k f,oI (w.drewN k) (a-b) (.returned v) f->Sums w (sgn s a+sgn t b) (.returned (.tuple #[.bool s,v])) f:=by
    rintro v k f ⟨⟨J,hv,u⟩,d⟩;obtain rfl:J=v:=aaU;refine⟨s,J,a-b,rfl,u,?_,_,k,rfl,d⟩;unfold sgn;cases s<;>cases t<;>simp at* <;>omega
   have D:=af c;clear c;have B:0<=gX a b:=(by unfold gX;split;omega;split<;>omega);cases s<;>cases t<;>simp only[reduceCtorEq,not_true_eq_false,not_false_eq_true] at j;all_goals
    go_enter Tryz.func159,ZV;go_wp2_with(first
     |(go_at_call 191;refine(Dl _ l m a b n.o H.o p.o q.o).mono ?_;rintro e f ⟨rfl,k,rfl⟩)
     |(go_at_call 164;refine(WB _ l m a b (n.o.below (Nu w k) (ax _)) (H.o.below (Nu w k) (ax _)) p.o r).mono ?_;rintro e f ⟨⟨A,rfl,u⟩,g⟩;have i:=af (lX u g);clear g u))
    go_ret2;exact D.o _ k _ ⟨⟨_,rfl,i.o.1⟩,i.o.2⟩
  have c:∀v k f,oI (w.drewN k) (b-a) (.returned v) f->Sums w (sgn s a+sgn t b) (.returned (.tuple #[.bool t,v])) f:=by
   rintro v k f ⟨⟨J,hv,u⟩,d⟩;obtain rfl:J=v:=aaU;refine⟨t,J,b-a,rfl,u,?_,_,k,rfl,d⟩;unfold sgn;cases s<;>cases t<;>simp at* <;>omega
  have D:=af c;clear c;have B:gX a b<0:=by rw[Ib ah];omega
  have x:a<=b:=ah;cases s<;>cases t<;>simp only[reduceCtorEq,not_true_eq_false,not_false_eq_true] at j;all_goals
   go_enter Tryz.func159,ZV;go_wp2_with(first
    |(go_at_call 191;refine(Dl _ l m a b n.o H.o p.o q.o).mono ?_;rintro e f ⟨rfl,k,rfl⟩)
    |(go_at_call 164;refine(WB _ m l b a (H.o.below (Nu w k) (ax _)) (n.o.below (Nu w k) (ax _)) q.o x).mono ?_;rintro e f ⟨⟨A,rfl,u⟩,g⟩;have i:=af (lX u g);clear g u))
   go_ret2;exact D.o _ k _ ⟨⟨_,rfl,i.o.1⟩,i.o.2⟩

theorem aku(x y:Int):sgn (!(decide (x<0)==decide (y<0))) (x.natAbs*y.natAbs)=x*y:=by
 have a:=yz x;have b:=yz y;unfold sgn at*
 by_cases c:x<0<;>by_cases d:y<0<;>simp[c,d] at a b|- <;>
  (conv=>rhs;rw[<-a,<-b])<;>simp[xO,Int.mul_neg]
