/- Lemmas. -/
import Derived.Test.YtaahbkbnfpajdaaGreatDoorZef00
namespace Go.Proofs.YtaahbkbnfpajdaaGreatDoor
set_option linter.all false
set_option maxRecDepth 100000
set_option maxHeartbeats 8000000
open Go.RowKit
variable{k xs l h:Lz}{b:Array Oper}{B g base c n i:Nat}{a:Array Bool}{rest:List Oper}{o:Oper}{w W:Wd}{Q:Exit->Act->World->Prop}{t:TypeId}{d x y q e lag:Int}{A:Oz}{v:Value}{p:Int->Bool}{L:Act->Prop}
theorem ik(xs:Lz):(agi xs).all (·.oneCell')=true:=by
 rw[JY];intro v a;exact o9 xs v (by simpa[agi] using a)
section
variable {w:Wd} {g:Nat} {t ty:TypeId} {xs ys:Lz} {d:TypeDesc} {n:Nat}
theorem IB.setRow(h:IB w g t xs)(ys:Lz):IB (w.setRow g (agi ys)) g t ys:=QZ w g _ _ t _ h
theorem Blk.rowFar{k:Nat}{b c2:Array Value}(h:Blk w k t b)(a:k≠g):Blk (w.setRow g c2) k t b:=(oz w g k c2 a).trans h
theorem aS{a:Wd}(h:Below B a w)(G:B<=g)(b:Array Value):Below B a (w.setRow g b):=
 ⟨h.os,h.tape,h.output,by simpa using h.size,fun k c=>(oz w g k b ah).trans (h.block k c)⟩
end
theorem nz{fn:Func}{p q:Tmp}{ty:TypeId}(h:fn.results= #[.cell p ty,.tmp q])(a:Array Value)(w:Wd)(g:Nat)(t:TypeId)(xs:Lz)(d:TypeDesc)(n:Nat)
 (hp:a.getD p undef=.pointer (some ⟨g,0,none⟩)) (G:IB w g t xs) (e:Tryz.prog.underlying ty=some d) (U:mV d=true) (hi:(Tryz.prog.info? ty).map (·.size)=some n) (hl:xs.length=n):
 (results fn a).run Tryz.prog w=.ok (.tuple #[.agg (agi xs),a.getD q undef]) w:=by
 have b:a[p]?.getD undef=.pointer (some ⟨g,0,none⟩):=uV;have c:=vO (P:=Tryz.prog) w g t ty (agi xs) (0,0) d G e (by cases d<;>first|rfl|(simp[mV] at U)) Gi;simp[results,h,b,asAddr,c]
theorem sG{fn:Func}{p q r:Tmp}{ty:TypeId}(h:fn.results= #[.cell p ty,.tmp q,.tmp r])(a:Array Value)(w:Wd)(g:Nat)(t:TypeId)(xs:Lz)(d:TypeDesc)(n:Nat)
 (hp:a.getD p undef=.pointer (some ⟨g,0,none⟩)) (G:IB w g t xs) (e:Tryz.prog.underlying ty=some d) (U:mV d=true) (hi:(Tryz.prog.info? ty).map (·.size)=some n) (hl:xs.length=n):
 (results fn a).run Tryz.prog w=.ok (.tuple #[.agg (agi xs),a.getD q undef,a.getD r undef]) w:=by
 have b:a[p]?.getD undef=.pointer (some ⟨g,0,none⟩):=uV;have c:=vO (P:=Tryz.prog) w g t ty (agi xs) (0,0) d G e (by cases d<;>first|rfl|(simp[mV] at U)) Gi;simp[results,h,b,asAddr,c]
theorem abN{c:Array Oper}{rest:List Oper}{o:Oper}{a:Act}{w:Wd}{Q:Exit->Act->Wd->Prop}(e:o.guard=none)(ty:TypeId)(x y:Operand)(i:o.op=.store ty x y)
 (g:Nat) (t:TypeId) (xs ys:Lz) (n:Nat) (j:a.eval x=.pointer (some ⟨g,0,none⟩)) (l:a.eval y=.agg (agi ys)) (h:IB w g t xs)
 (hi:(Tryz.prog.info? ty).map (·.size)=some n) (f:xs.length=n) (b:ys.length=n)
 (k:wpList Tryz.prog c Q rest (a.put o.dst undef) (w.setRow g (agi ys))):wpList Tryz.prog c Q (o::rest) a w:=
 Rh e ty x y i g (agi ys) j l t (agi xs) h (by rw[hi,dX,b]) (by rw[dX,dX,f,b]) (ik ys) k
theorem aQ{a:Act}{w:World}(ty:TypeId)(x y:Operand)(xs ys:List Int)(n:Nat)(h:IB w g t xs)(hi:(Tryz.prog.info? ty).map (·.size)=some n)(f:xs.length=n)(e:ys.length=n)(k:wpList Tryz.prog b Q rest (a.put o.dst undef) (w.setRow g (agi ys)))(c:o.guard=none:=by rfl)(i:o.op=.store ty x y:=by rfl)(j:a.eval x=.pointer (some ⟨g,0,none⟩):=by rfl)(l:a.eval y=.agg (agi ys):=by rfl):wpList Tryz.prog b Q (o::rest) a w:=abN c ty x y i g t xs ys n j l h hi f e k
theorem ajq{b:Array Oper}{rest:List Oper}{o:Oper}{a:Act}{w:Wd}{Q:Exit->Act->Wd->Prop}(i:Region.wanted o (yielded b a.tmps)=true)(ty:TypeId)(x:Operand)(e:o.op=.load ty x)
 (g:Nat) (t:TypeId) (xs:Lz) (n:Nat) (d:TypeDesc) (j:a.eval x=.pointer (some ⟨g,0,none⟩)) (h:IB w g t xs) (f:Tryz.prog.underlying ty=some d) (U:mV d=true)
 (hi:(Tryz.prog.info? ty).map (·.size)=some n) (hl:xs.length=n)
 (k:wpList Tryz.prog b Q rest (a.put o.dst (.agg (agi xs))) w):wpList Tryz.prog b Q (o::rest) a w:=
 JZ i fun K c=>J9 ty x e g j t (agi xs) (0,0) d h f (by cases d<;>first|rfl|(simp[mV] at U)) Gi (c _ _ k)
theorem aK{a:Act}{w:World}(ty:TypeId)(x:Operand)(xs:List Int)(n:Nat){d:TypeDesc}(h:IB w g t xs)(f:Tryz.prog.underlying ty=some d)(hi:(Tryz.prog.info? ty).map (·.size)=some n)(c:xs.length=n)(k:wpList Tryz.prog b Q rest (a.put o.dst (.agg (agi xs))) w)(i:Region.wanted o (yielded b a.tmps)=true:=by rfl)(e:o.op=.load ty x:=by rfl)(j:a.eval x=.pointer (some ⟨g,0,none⟩):=by rfl)(U:mV d=true:=by rfl):wpList Tryz.prog b Q (o::rest) a w:=ajq i ty x e g t xs n d j h f U hi c k
theorem jW{t:TypeId}{n:Nat}(F:Tryz.prog.underlying t=some (.array n 3))(xs:Lz)(c:xs.length=n)(k:Nat)(b:k<n)(w:Wd):
 (Instr.index t (.agg (agi xs)) (.int .i64 (k:Nat))).run Tryz.prog w=.ok (.int .i64 (xs.getD k 0)) w:=by
 have Z:∀w,(sizeOf 3).run Tryz.prog w=.ok 1 w:=fun w=>aB;have a:∀w,(isAgg 3).run Tryz.prog w=.ok false w:=fun w=>aB;have G:=Wi xs k ah;simp[Instr.index,asIntOf,QV F,b,part,Z,a,G]
theorem Own.ne_(h:Own w base A c xs)(G:g<base):∀a,A=some a->a.block≠g:=fun a e=>by
 have:=(h.lt a e).1;omega
theorem Own.setRow(h:Own w base A c xs)(G:g<base)(b:Array Value):Own (w.setRow g b) base A c xs:=
 h.kept (row:=some g) ⟨rfl,rfl,rfl,wE,fun i _ hn=>oz w g i b zB⟩ (fun f e a=>by
  injection a with a;exact h.ne_ G f e a)
theorem Own.setC(h:Own w base A c xs)(G:g<base)(i:Nat)(v:Value):Own (w.setCell ⟨g,i,none⟩ v) base A c xs:=
 h.kept (row:=some g) ⟨rfl,rfl,rfl,uQ,fun j _ hn=>lV _ _ _ j wH⟩ (fun b e a=>by
  injection a with a;exact h.ne_ G b e a)
section
open Go.ChangeShapes
def dY:Lz:=[444758425,203159592,97181937,47538611,23511884,11692281,5830311,2911209,1454619,727063,363470,181719,90856,45427,22713]
def cO:Lz:=[0,3277,6554,9830,12452,14746,16384,18022]
def dh:Lz:=[6,6,5,5,4,4,3,3]
def TabA(w:Wd)(g:Nat)(b:Lz):Prop:=∃t a,w.heap[g]?=some (.cells (agi b) t a)
def TabS(w:Wd)(g:Nat)(a:Lz):Prop:=∃A c,g<w.heap.size/\w.cell? ⟨g,0,none⟩=some (.slice A a.length c)/\Rs w w.heap.size A a/\a.length<=c
section
variable {w w':Wd} {g:Nat} {zs:Lz}
theorem TabA.lt(h:TabA w g zs):g<w.heap.size:=by
 obtain⟨t,c,h⟩:=h;rcases yX g w.heap.size with b|a
 ·exact b
 rw[yY a] at h;cases h
theorem TabA.cell(h:TabA w g zs)(i:Nat)(hi:i<zs.length):w.cell? ⟨g,i,none⟩=some (.int .i64 (zs.getD i 0)):=by
 obtain⟨t,a,h⟩:=h;exact(cell_of_row w g i _ t a h).trans (Wi zs i hi)
theorem TabA.below(h:TabA w g zs)(c:Bw w w'):TabA w' g zs:=by
 obtain⟨t,a,b⟩:=h;exact⟨t,a,(c.block g (TabA.lt ⟨t,a,b⟩)).trans b⟩
theorem TabS.below(h:TabS w g zs)(a:Bw w w'):TabS w' g zs:=by
 obtain⟨A,c,b,d,e,f⟩:=h;have:=a.size;exact⟨A,c,ah,(a.cell (p:=⟨g,0,none⟩) b).trans d,(e.below a).more this,f⟩
theorem TabA.below'(h:TabA w g zs)(b:Below B w w')(a:w.heap.size<=B):TabA w' g zs:=h.below (b.mono a)
theorem TabS.below'(h:TabS w g zs)(b:Below B w w')(a:w.heap.size<=B):TabS w' g zs:=h.below (b.mono a)
theorem TabS.form(h:TabS w g zs):∃A c,w.cell? ⟨g,0,none⟩=some (.slice A zs.length c)/\zs.length<=c/\∀k,k<zs.length->∃a,A=some a/\w.cell? (a.add k)=some (.int .i64 (zs.getD k 0)):=by
 obtain⟨A,c,_,b,d,f⟩:=h;refine⟨A,c,b,f,fun k j=>?_⟩;obtain⟨a,e,_,i⟩:=d.at_ j;exact⟨a,e,i⟩
end
theorem ajr{b:Array Oper}{rest:List Oper}{o:Oper}{a:Act}{w:Wd}{Q:Exit->Act->Wd->Prop}(k:Region.wanted o (yielded b a.tmps)=true)(ty:TypeId)(x:Operand)(i:o.op=.load ty x)
 (g:Nat) (xs:Lz) (n:Nat) (d:TypeDesc) (l:a.eval x=.pointer (some ⟨g,0,none⟩)) (h:TabA w g xs) (j:Tryz.prog.underlying ty=some d) (U:mV d=true) (hi:(Tryz.prog.info? ty).map (·.size)=some n) (hl:xs.length=n)
 (f:wpList Tryz.prog b Q rest (a.put o.dst (.agg (agi xs))) w):wpList Tryz.prog b Q (o::rest) a w:=by
 obtain⟨t,c,h⟩:=h;exact JZ k fun K e=>J9 ty x i g l t (agi xs) c d h j (by cases d<;>first|rfl|(simp[mV] at U)) Gi (e _ _ f)
theorem arp{W:Wd}{d:String}{zs:Lz}{rest:List (String×DataW Unit)}{ps:List MemPlace}{g:Nat}{t:TypeId}{n:Nat}
 (G:Tryz.prog.globalNamed d=some g) (k:(Tryz.prog.globals[g]?).map (·.type)=some t) (F:Tryz.prog.underlying t=some (.array n 3)) (e:Tryz.prog.cellsOf 3=1) (f:Tryz.prog.cellsOf t=n)
 (h:DataW.LaidVars Tryz.prog W ((d,Lib.tabData .i64 zs)::rest) ps):TabA W g zs/\∃q,DataW.LaidVars Tryz.prog W rest q:=by
 obtain⟨C,r,m,l,p,q,i,j,a,U,o,_⟩:=h;obtain rfl:=fQ (G.symm.trans i);obtain rfl:=fQ (k.symm.trans j);refine⟨?_,q,o⟩;have b:=Lib.cells_of_tab F Bo e f U;simp only[World.var?,G,Option.bind_some] at a;split at a
 ·rename_i c t fr hb
  cases a;refine⟨t,fr,?_⟩;rw[hb];have:m=agi zs:=by
   unfold agi au;rw[<-b]
  rw[this]
 ·cases a
theorem arq{W:Wd}{c:String}{zs:Lz}{rest:List (String×DataW Unit)}{ps:List MemPlace}{g:Nat}{t:TypeId}
 (G:Tryz.prog.globalNamed c=some g) (m:(Tryz.prog.globals[g]?).map (·.type)=some t) (F:Tryz.prog.underlying t=some (.slice 3)) (i:Tryz.prog.cellsOf 3=1)
 (h:DataW.LaidVars Tryz.prog W ((c,.slice (zs.map fun z=>.lit (.int .i64 z)) [])::rest) ps):TabS W g zs/\∃q,DataW.LaidVars Tryz.prog W rest q:=by
 obtain⟨C,J,E,s,p,q,k,l,f,U,A,_⟩:=h;obtain rfl:=fQ (G.symm.trans k);obtain rfl:=fQ (m.symm.trans l);refine⟨?_,q,A⟩;have B:=World.var?_cell G f 0;rcases open_ints F Bo i U with⟨_,hx⟩|⟨a,len,cap,ys,h1,_,hl,O,I,hx,hcell,_⟩
 ·simp at hx
 ·simp only[Fa,DataW.slice.injEq] at hx
  obtain⟨⟨o,D⟩,_⟩:=hx;have v:ys.take len=zs:=by
   have x:(zs.map fun z=>(DataW.lit (.int .i64 z):DataW Unit))=(ys.take len).map fun z=>DataW.lit (.int .i64 z):=(by simpa[lits] using o);exact(List.map_inj_right (fun a b d=>by injection d with d;injection d)).1 x|>.symm
  have T:len<=ys.length:=by split at I<;>omega
  have r:zs.length=len:=by rw[<-v,dR];omega
  have e:W.cell? ⟨g,0,none⟩=some (.slice (some a) len cap):=by
   rw[B,Array.eq_one_of_toList h1];rfl
  refine⟨some a,cap,BG W ⟨g,0,none⟩ e,by rw[r];exact e,⟨qP,fun H=>⟨a,rfl,?_,?_⟩⟩,ah⟩
  ·have:=BG W _ (hcell 0 ah)
   rwa [dV] at this
  intro j u n;have y:j<zs.length:=by
   have:=(List.getElem?_eq_some_iff.1 n).1;simpa[au] using this
  rw[wO _ j y] at n;rw[hcell j ah,<-n,<-v];congr 2;simp only[bK,xW];rw[if_pos ah]
end
section
open Go.ChangeShapes
def bts(xs:Lz):List Value:=xs.map (Value.int .u8)
theorem sH(xs:Lz):(bts xs).length=xs.length:=by simp[bts]
theorem Wl(xs:Lz)(k:Nat)(h:k<xs.length):(bts xs)[k]?=some (.int .u8 (xs.getD k 0)):=by simp[bts,h]
theorem abO(xs:Lz):∀u∈bts xs,u.oneCell'=true:=ints_oneCell .u8 xs
theorem abP(xs ys:Lz):bts xs++bts ys=bts (xs++ys):=by simp[bts]
def Rb(w:Wd)(B:Nat)(A:Oz)(xs:Lz):Prop:=Reads w B 1 A xs.length (bts xs)
def OwnB(w:Wd)(base:Nat)(A:Oz)(c:Nat)(xs:Lz):Prop:=w.ownsRow base 5 1 (.slice A xs.length c) xs.length (bts xs)
theorem abQ:(Tryz.prog.info? 5).map (fun i=>(i.zero,i.size,i.bytes))=some (some (.int .u8 0),1,1):=aB
section
variable {w w':Wd} {B B':Nat} {A:Oz} {xs:Lz}
theorem Rb.below(h:Rb w B A xs)(a:Below B w w'):Rb w' B A xs:=Reads.below h a
theorem Rb.more(h:Rb w B A xs)(a:B<=B'):Rb w B' A xs:=Reads.more h a
theorem Rb.at_{k:Nat}(h:Rb w B A xs)(d:k<xs.length):∃a,A=some a/\a.block<B/\w.cell? (a.add k)=some (.int .u8 (xs.getD k 0)):=by
 obtain⟨a,e,b,c⟩:=h.2 ah;exact⟨a,e,b,c k _ (Wl xs k d)⟩
theorem OwnB.nil:OwnB w base none 0 []:=Bz w base _ _
theorem OwnB.reads(h:OwnB w base A c xs):Rb w w.heap.size A xs:=Reads.of_own h
theorem OwnB.below(h:OwnB w base A c xs)(a:Bw w w'):OwnB w' base A c xs:=
 BC h (row:=none) ⟨a.os,a.tape,a.output,a.size,fun k b _=>a.block k b⟩ aaX
theorem OwnB.cap(h:OwnB w base A c xs):xs.length<=c/\c<=9223372036854775807:=by
 exact aiE
theorem OwnB.lt(h:OwnB w base A c xs):∀a,A=some a->base<=a.block/\a.block<w.heap.size:=fun a b=>by
 subst b;exact EW h a.block rfl
theorem OwnB.ne_(h:OwnB w base A c xs)(G:g<base):∀a,A=some a->a.block≠g:=fun a e=>by
 have:=(h.lt a e).1;omega
end
theorem ajs{vs:List Value}{ys:Lz}(h:w.ownsRow base 5 1 v n vs)(a:vs=bts ys):∃A c,v=.slice A ys.length c/\OwnB w base A c ys:=by
 subst a;have b:ys.length=n:=by have:=h.1;simpa[bts] using this
 subst b;rcases h.2 with⟨a,hn⟩|⟨g,cap,d,a,rest⟩
 ·subst a
  refine⟨none,0,by rw[hn],?_⟩;unfold OwnB;rw[hn] at h|-;exact h
 subst a;exact⟨_,_,rfl,h⟩
theorem abR{e:Array Oper}{rest:List Oper}{o:Oper}{a:Act}{w:Wd}{Q:Exit->Act->Wd->Prop}(i:o.guard=none)(s x:Operand)
 (u:o.op=.call {callee:=.builtin .append,args:= #[s,x],argTypes:= #[32,32]})
 (base:Nat) (A:Oz) (c n:Nat) (xs:Lz) (Z:a.eval s=.slice A n c) (t:xs.length=n) (f:OwnB w base A c xs)
 (B:Nat) (A2:Oz) (c2 m:Nat) (ys:Lz) (y:a.eval x=.slice A2 m c2) (O:ys.length=m) (v:Rb w B A2 ys) (I:n+m<=140737488355328) (b:base<=w.heap.size)
 (h:∀g c' w',OwnB w' base g c' (xs++ys)->w.grownBy w' (A.map (·.block))->wpList Tryz.prog e Q rest (a.put o.dst (.slice g (n+m) c')) w'):wpList Tryz.prog e Q (o::rest) a w:=by
 subst t;subst O;obtain⟨z,hi,j,k,D⟩:=mJ abQ;refine JW i fun K p=>?_;obtain⟨J,w',d,l,h3,C⟩:=yh (P:=Tryz.prog) w base 32 o.type 5 z (.int .u8 0) 1 1 Bq hi j k D rfl ah _ _ _ f B A2 ys.length c2 (bts ys) v (abO ys) jg ah b;obtain⟨g,c',rfl,q⟩:=ajs l (abP xs ys);have r:(xs++ys).length=xs.length+ys.length:=ay;unfold Oper.wp execOp;simp only[u,resolve,invoke,builtin,ng,uM,qh,ut,uu,uw,Z,y,d];refine p _ _ ?_;rw[r];exact h g c' w' q zF
section
variable {H:Type} {enc:TypeId×Value->H} {P:Program} {w:Wd}
theorem abS{t e:TypeId}{k:IntKind}{A:Oz}{n c i:Nat}{d:DataW H}{ps:List MemPlace}(F:P.underlying t=some (.slice e))(p:P.underlying e=some (.int k))(o:P.cellsOf e=1)
 (h:DataW.trod enc P w 0 (fun _=>true) true i t [.slice A n c]=some (d,ps)) (U:∀x∈d.weights P t,x<=reachBytes):
 ∃xs:Lz,xs.length=n/\n<=c/\c*P.bytesOf e<=140737488351232/\Reads w w.heap.size 1 A n (xs.map (Value.int k))/\∀x∈xs,k.has x:=by
 rcases open_ints F p o h with⟨h1,_⟩|⟨a,len,cap,zs,h1,_,hl,O,I,g,hcell,hwf⟩
 ·simp only[EY,QU,E8] at h1
  obtain⟨rfl,rfl,rfl⟩:=h1;exact⟨[],rfl,ah,ah,Reads.none_,by intro x g;simp at g⟩
 ·simp only[EY,QU,E8] at h1
  obtain⟨rfl,rfl,rfl⟩:=h1;simp only[if_true] at I;simp only[Fa] at g;obtain⟨rfl,_⟩:=g;have b:(zs.take n).length=n:=Ur;have f:=U (((lits k (zs.take n)).length+(lits k (zs.drop n):List (DataW H)).length)*P.bytesOf e) (by simp only[DataW.weights,F];exact rP ..);simp only[lits,zq,dR,kJ,reachBytes] at f;have l:min n zs.length+(zs.length-n)=c:=ah;rw[l] at f;refine⟨zs.take n,b,ah,f,⟨by rw[zq,b,ou],fun r=>⟨a,rfl,?_,?_⟩⟩,?_⟩
  ·have:=BG w _ (hcell 0 ah)
   rwa [dV] at this
  ·intro j u m
   have q:j<n:=by
    have:=(List.getElem?_eq_some_iff.1 m).1;rwa [zq,b] at this
   rw[hcell j ah,<-m,qg,xW,if_pos q,jU ah];simp[bK,(show j<zs.length from ah)]
  intro x g;have:=hwf x (xK g);simpa[Lit.wf,IntKind.has] using this
end
end
def wU(k v:Int)(r:Bool)(A:Oz)(n c:Nat)(A2:Oz)(a c2:Nat):Array Value:= #[.int .i64 k,.int .i64 v,.bool r,.slice A n c,.slice A2 a c2]
theorem ajt(k v:Int)(r:Bool)(A:Oz)(n c:Nat)(A2:Oz)(b c2:Nat):(wU k v r A n c A2 b c2).all (·.oneCell')=true:=by
 rw[JY];intro u a;unfold wU at a;simp only[List.mem_toArray,zt,zu,yZ] at a;rcases a with rfl|rfl|rfl|rfl|rfl<;>rfl
theorem GZ:(Tryz.prog.info? 37).map (·.size)=some 5:=aB
theorem bV:(Tryz.prog.info? 34).map (·.size)=some 4:=aB
theorem lY{fn:Func}{p:Tmp}{ty:TypeId}(h:fn.results= #[.cell p ty])(a:Array Value)(w:Wd)(g:Nat)(b:Array Value)(d:TypeDesc)
 (hp:a.getD p undef=.pointer (some ⟨g,0,none⟩)) (G:Blk w g ty b) (f:Tryz.prog.underlying ty=some d) (U:mV d=true) (hi:(Tryz.prog.info? ty).map (·.size)=some b.size):
 (results fn a).run Tryz.prog w=.ok (.agg b) w:=by
 have c:a[p]?.getD undef=.pointer (some ⟨g,0,none⟩):=uV;have e:=vO (P:=Tryz.prog) w g ty ty b (0,0) d G f (by cases d<;>first|rfl|(simp[mV] at U)) hi;simp[results,h,c,asAddr,e]
section
variable {ops:Array Oper} {rest:List Oper} {o:Oper} {a:Act} {w:Wd} {Q:Exit->Act->Wd->Prop}
theorem jX(d:o.guard=none)(ty:TypeId)(x y:Operand)(f:o.op=.store ty x y)(g:Nat)(t:TypeId)(c b:Array Value)(i:a.eval x=.pointer (some ⟨g,0,none⟩))(j:a.eval y=.agg b)(h:Blk w g t c)
 (hi:(Tryz.prog.info? ty).map (·.size)=some b.size) (Z:c.size=b.size) (e:b.all (·.oneCell')=true) (k:wpList Tryz.prog ops Q rest (a.put o.dst undef) (w.setRow g b)):wpList Tryz.prog ops Q (o::rest) a w:=
 Rh d ty x y f g b i j t c h hi Z e k
theorem jY(i:Region.wanted o (yielded ops a.tmps)=true)(ty:TypeId)(x:Operand)(e:o.op=.load ty x)(g:Nat)(t:TypeId)(b:Array Value)(d:TypeDesc)(j:a.eval x=.pointer (some ⟨g,0,none⟩))(h:Blk w g t b)
 (f:Tryz.prog.underlying ty=some d) (U:mV d=true) (hi:(Tryz.prog.info? ty).map (·.size)=some b.size) (k:wpList Tryz.prog ops Q rest (a.put o.dst (.agg b)) w):wpList Tryz.prog ops Q (o::rest) a w:=
 JZ i fun K c=>J9 ty x e g j t b (0,0) d h f (by cases d<;>first|rfl|(simp[mV] at U)) hi (c _ _ k)
theorem Blk.setRow_{c:Array Value}(h:Blk w g t c)(b:Array Value):Blk (w.setRow g b) g t b:=QZ w g _ _ t _ h
end
def aY(b v:Int)(A:Oz)(n c:Nat)(A2:Oz)(d c2:Nat):Array Value:= #[.int .i64 b,.int .i64 v,.slice A n c,.slice A2 d c2]
theorem kM(k v:Int)(A:Oz)(n c:Nat)(A2:Oz)(d c2:Nat):(aY k v A n c A2 d c2).all (·.oneCell')=true:=by
 rw[JY];intro u b;unfold aY at b;simp only[List.mem_toArray,zt,zu,yZ] at b;rcases b with rfl|rfl|rfl|rfl<;>rfl
theorem jL(w:Wd)(k:Nat):Bw w (w.drewN k):=⟨rfl,rfl,rfl,ax _,fun _ _=>rfl⟩
theorem aj6{f:FuncId}{args:Array Value}{w:Wd}{a n:Nat}{v:Value}
 (h:Cl f args (w.drewN (a+n)) fun e w'=>e=.returned v/\∃m,w'=(w.drewN (a+n)).drewN m):
 Cl f args (w.drewN (a+n)) fun e b=>e=.returned v/\∃m,b=w.drewN (a+m):=
 h.mono fun _ _ ⟨c,m,O⟩=>⟨c,n+m,by rw[O,Kt,xI]⟩
def jq(x y:Int):Int:=if x<y then-1 else if y<x then 1 else 0
theorem aj7(a: ¬x<0)(b: ¬y<0):jq x y=gX x.natAbs y.natAbs:=by
 unfold jq gX;repeat' split
 all_goals omega
theorem aj8(a:x<0)(b:y<0):jq x y= -gX x.natAbs y.natAbs:=by
 unfold jq gX;repeat' split
 all_goals omega
theorem ab9(a b:Nat): -1<=gX a b/\gX a b<=1:=by
 unfold gX;repeat' split
 all_goals omega
theorem Nv(w:Wd)(c d:Nat)(x y:Int)(j:IntAt w c x)(U:IntAt w d y)(k:Sm x.natAbs)(l:Sm y.natAbs):
 Cl 190 #[.pointer (some ⟨c,0,none⟩),.pointer (some ⟨d,0,none⟩)] w fun e w'=>e=.returned (.int .i64 (jq x y))/\∃n,w'=w.drewN n:=by
 obtain⟨m,i,p,f⟩:=j.cells;obtain⟨o,h,r,g⟩:=U.cells;have K0:=af (fun n=>Dl (w.drewN n) m o _ _ (f.below (jL w n) (ax _)) (g.below (jL w n) (ax _)) k l);clear f g j U k l;by_cases hx:x<0
 ·have b:decide (x<0)=true:=Gp
  rw[b] at i;clear b;by_cases hy:y<0
  ·have a:decide (y<0)=true:=sD
   rw[a] at h;have HV:=af (aj8 hx hy);have q:=ab9 x.natAbs y.natAbs;exact aiw
  have a:decide (y<0)=false:=sD;rw[a] at h;have HV:=af (show jq x y= -1 by unfold jq;rw[if_pos ah]);exact aiU
 ·have b:decide (x<0)=false:=Gp
  rw[b] at i;clear b;by_cases hy:y<0
  ·have a:decide (y<0)=true:=sD
   rw[a] at h;have HV:=af (show jq x y=1 by unfold jq;rw[if_neg ah,if_pos ah]);exact aiU
  have a:decide (y<0)=false:=sD;rw[a] at h;have HV:=af (aj7 hx hy);exact aiw

def aN(f:Nat->Int):Nat->Int
 |0=>0
 |n+1=>aN f n+f n
theorem oK{f g:Nat->Int}(n:Nat)(h:∀i,i<n->f i=g i):aN f n=aN g n:=by
 induction n with
 |zero=>rfl
 |succ n ih=>simp only[aN];rw[ih (fun i hi=>h i ah),h n ah]
theorem akA{f:Nat->Int}{B:Int}(n:Nat)(h:∀i,i<n-> -B<=f i/\f i<=B): -(B*n)<=aN f n/\aN f n<=B*n:=by
 induction n with
 |zero=>simp[aN]
 |succ n ih=>
  have a:=ih (fun i hi=>h i ah);have b:=h n ah;have e:B*((n+1:Nat):Int)=B*(n:Int)+B:=by rw[Int.natCast_succ,Lj,RH]
  rw[e];simp only[aN];omega
theorem iU{X Y:Int}(a:0<=X)(b:0<=Y)(c: -X<=x/\x<=X)(d: -Y<=y/\y<=Y): -(X*Y)<=x*y/\x*y<=X*Y:=by
 have h:(x*y).natAbs<=X.natAbs*Y.natAbs:=by
  rw[Int.natAbs_mul];exact zh ah ah
 have e:((X.natAbs*Y.natAbs:Nat):Int)=X*Y:=by
  rw[Int.natCast_mul,Int.natAbs_of_nonneg a,Int.natAbs_of_nonneg b]
 omega
def oL(a:Lz)(q:Int)(m:Nat):Lz:=(List.range (m+1)).map fun i=>if i=0 then a.getD 0 0 else a.getD i 0+q*a.getD (m-i) 0/32768
theorem yA(a:Lz)(q:Int)(m:Nat):(oL a q m).length=m+1:=by simp[oL]
theorem zW(a:Lz)(q:Int)(m i:Nat)(h:i<=m):(oL a q m).getD i 0=if i=0 then a.getD 0 0 else a.getD i 0+q*a.getD (m-i) 0/32768:=by
 unfold oL;rw[bK,qg,vU ah];rfl
def Within(B:Int)(a:Lz):Prop:=∀i,-B<=a.getD i 0/\a.getD i 0<=B
theorem Within.grow{B:Int}{a:Lz}{m:Nat}(c:0<=B)(h:Within B a)(d: -32768<=q/\q<=32768):Within (2*B) (oL a q m):=by
 intro i;by_cases hi:i<=m
 ·rw[zW a q m i hi]
  have e:=h 0;have f:=h i;have b:=h (m-i);split
  ·omega
  have g:=iU (X:=32768) ah c d b;omega
 rw[bK,iy (by rw[yA];omega)];simp;omega
def nJ(a r:Lz)(m:Nat):Int:=aN (fun i=>a.getD i 0/512*r.getD (m-i) 0/32768) m
def lev(r:Lz):Nat->Nat->Lz->Int->Lz->Lz×Int×Bool
 |0,_,_,e,k=>(k,e,true)
 |f+1,m,a,e,k=>
  if(-nJ a r m*32768).tdiv e<= -32000\/32000<=(-nJ a r m*32768).tdiv e then(k,e,false)
  else if e-e*(-nJ a r m*32768).tdiv e/32768*(-nJ a r m*32768).tdiv e/32768<=0 then(k++[(-nJ a r m*32768).tdiv e],0,false)
  else lev r f (m+1) (oL a ((-nJ a r m*32768).tdiv e) m) (e-e*(-nJ a r m*32768).tdiv e/32768*(-nJ a r m*32768).tdiv e/32768) (k++[(-nJ a r m*32768).tdiv e])
theorem akB(r:Lz)(m:Nat)(a:Lz)(e:Int)(k:Lz):lev r 0 m a e k=(k,e,true):=rfl
theorem Ny(r:Lz)(f m:Nat)(a:Lz)(e:Int)(k:Lz)(q e':Int)(c:q=(-nJ a r m*32768).tdiv e)(b:e'=e-e*q/32768*q/32768):
 lev r (f+1) m a e k=if q<= -32000\/32000<=q then(k,e,false) else if e'<=0 then(k++[q],0,false) else lev r f (m+1) (oL a q m) e' (k++[q]):=by
 subst b c;rfl
theorem WH(a:0<e): -(x.natAbs:Int)<=x.tdiv e/\x.tdiv e<=x.natAbs:=by
 have h:(x.tdiv e).natAbs<=x.natAbs:=by rw[Int.natAbs_tdiv];exact Ky _ _
 omega
theorem akC(b:0<=e):0<=e*q/32768*q/32768:=by
 have h:0<=e*q/32768*q:=by
  rcases RS 0 q with a|a
  ·exact qL (by have:=qL b a;omega) a
  have d:e*q<=0:=Int.mul_nonpos_of_nonneg_of_nonpos b a;have f:e*q/32768<=0:=ah;have c:e*q/32768*q=(-(e*q/32768))*(-q):=by rw[Int.neg_mul_neg]
  rw[c];exact qL ah ah
 omega
theorem WI{e q:Int}(b:0<e)(c:e<=2147483647)(h: -32000<q)(a:q<32000):
 (-70368744144896<=e*q/\e*q<=70368744144896)/\(-70368744144896<=e*q/32768*q/\e*q/32768*q<=70368744144896)/\e-e*q/32768*q/32768<=e/\ -2147483648<=e-e*q/32768*q/32768:=by
 have d:=iU (x:=e) (X:=2147483647) (y:=q) (Y:=32000) ah ah ah ah;have f:=iU (x:=e*q/32768) (X:=2147483648) (y:=q) (Y:=32000) ah ah ah ah;have g:=akC (e:=e) (q:=q) ah;omega
def dK(n:Nat)(k:Lz):Lz:=k++List.replicate (n-k.length) 0
theorem Ij(h:k.length<=n):(dK n k).length=n:=by simp[dK];omega
theorem ack(q:Int)(h:k.length<n):dK n (k++[q])=(dK n k).set k.length q:=by
 unfold dK;obtain⟨d,U⟩:∃d,n-k.length=d+1:=⟨n-k.length-1,ah⟩;rw[dN,RU,U,show n-(k.length+1)=d from ah,ZM,RV _ _ (ax _)];simp
def okR(q:Int):Bool:=decide (-32768<q/\q<32768)
def dH(k:Lz):Bool:=k.all okR
theorem Dn(a: -32768<q)(b:q<32768):okR q=true:=by unfold okR;simp;omega
theorem Ik(h:q<= -32768\/32768<=q):okR q=false:=by unfold okR;simp;omega
theorem zX(h:dH k=true)(i:Nat): -32768<k.getD i 0/\k.getD i 0<32768:=by
 unfold dH at h;rw[bK];cases hi:k[i]? with
 |none=>simp
 |some x=>
  have:=List.all_eq_true.1 h x (vN hi);unfold okR at this;simpa using this
def allTo(p:Int->Bool)(l:Lz)(i:Nat):Prop:=∀j,j<i->p (l.getD j 0)=true
theorem allTo.zero:allTo p l 0:=fun j h=>ah
theorem allTo.succ(h:allTo p l i)(a:p (l.getD i 0)=true):allTo p l (i+1):=fun j c=>by
 by_cases b:j=i
 ·subst b;exact a
 exact h j ah
theorem allTo.all(h:allTo p l i)(d:l.length<=i):l.all p=true:=by
 rw[lM];intro x c;obtain⟨j,a⟩:=ZJ c;have b:=(List.getElem?_eq_some_iff.1 a).1;have:=h j ah;rw[bK,a] at this;exact this
theorem jb(hi:i<l.length)(h:p (l.getD i 0)=false):l.all p=false:=by
 rw[Bool.eq_false_iff];intro a;have:=List.all_eq_true.1 a (l.getD i 0) ag6;rw[h] at this;cases this
theorem Nz(h:l.all p=true)(i:Nat)(hi:i<l.length):p (l.getD i 0)=true:=
 List.all_eq_true.1 h _ ag6
def qo(a b:Lz)(num:Int)(i:Nat):Int:=(a.getD i 0*(4-num)+b.getD i 0*num).tdiv 4
def lH(a b:Lz)(num:Int):Bool:=decide (0<=num/\num<=4)&&(dH a&&dH b)
def jO(a b:Lz)(num:Int):Lz:=if lH a b num then(List.range 8).map (qo a b num) else List.replicate 8 0
def bz(b:Bool):Int:=if b then 0 else 2
theorem Il(a b:Lz)(num:Int):(jO a b num).length=8:=by unfold jO;split<;>simp
theorem acl{n:Int}(d: -32768<x/\x<32768)(e: -32768<y/\y<32768)(c:0<=n/\n<=4): -262144<=x*(4-n)/\x*(4-n)<=262144/\ -262144<=y*n/\y*n<=262144:=by
 have a:=iU (x:=x) (X:=32768) (y:=4-n) (Y:=4) ah ah ah ah;have b:=iU (x:=y) (X:=32768) (y:=n) (Y:=4) ah ah ah ah;omega
def exF(g:Int):Nat->Int
 |0=>32768
 |i+1=>(exF g i*g+16384)/32768
theorem WJ{g:Int}(a:0<=g)(b:g<=32768)(i:Nat):0<=exF g i/\exF g i<=32768:=by
 induction i with
 |zero=>exact⟨by simp[exF],by simp[exF]⟩
 |succ i ih=>
  have c:=iU (x:=exF g i) (X:=32768) (y:=g) (Y:=32768) ah ah ah ah;have d:=qL ih.1 a;simp only[exF];omega
def exE(a:Lz)(g:Int)(i:Nat):Int:=(a.getD i 0*exF g i+16384)/32768
def okA(x:Int):Bool:=decide (-1073741824<=x/\x<=1073741824)
def exB(a:Lz)(g:Int):Bool:=decide (0<=g/\g<=32768)&&a.all okA
def exL(a:Lz)(g:Int):Lz:=if exB a g then(List.range 9).map (exE a g) else List.replicate 9 0
theorem WM(a:Lz)(g:Int):(exL a g).length=9:=by unfold exL;split<;>simp
def dS(k:Lz):Nat->Lz
 |0=>[16777216]
 |m+1=>oL (dS k m) (k.getD m 0) (m+1)
theorem WN(k:Lz)(m:Nat):(dS k m).length=m+1:=by
 cases m with
 |zero=>rfl
 |succ m=>simp[dS,yA]
theorem akD(h:∀i,-32768<=k.getD i 0/\k.getD i 0<=32768)(m:Nat):Within (16777216*2^m) (dS k m):=by
 induction m with
 |zero=>
  intro i;simp only[dS];match i with
  |0=>simp
  |i+1=>simp
 |succ m ih=>
  have a:=Within.grow (m:=m+1) (by have:(0:Int)<2^m:=rU aA;omega) ih (h m);have e:(16777216:Int)*2^(m+1)=2*(16777216*2^m):=by rw[Int.pow_succ];omega
  rw[e];exact a
def jZ(k:Lz):Lz:=if dH k then(List.range 9).map (fun i=>((dS k 8).getD i 0+2048)/4096) else List.replicate 9 0
theorem yB(k:Lz):(jZ k).length=9:=by unfold jZ;split<;>simp
theorem acp(n:Nat):(madeCells (Value.int .i64 0).cells (n*1)).toList=au (List.replicate n 0):=by
 rw[ou];show(madeCells #[Value.int .i64 0] n).toList=_;rw[ZP];simp[au]
theorem nK{e:Array Oper}{rest:List Oper}{o:Oper}{a:Act}{w:Wd}{Q:Exit->Act->Wd->Prop}(i:o.guard=none)(l c:Operand)
 (s:o.op=.makeSlice 26 l c) (p m:IntKind) (n:Nat) (r:a.eval l=.int p (n:Int)) (q:a.eval c=.int m (n:Int)) (base:Nat) (u:n<=17592186044416) (b:base<=w.heap.size)
 (h:∀g,Own g base (some ⟨w.heap.size,0,none⟩) n (List.replicate n 0)->w.grownBy g none->wpList Tryz.prog e Q rest (a.put o.dst (.slice (some ⟨w.heap.size,0,none⟩) n n)) g):
 wpList Tryz.prog e Q (o::rest) a w:=by
 obtain⟨t,hi,j,k,D⟩:=mJ GY;refine xM w i l c 26 s base 3 t (.int .i64 0) 1 qH hi j k p m (n:Int) (n:Int) n r q rfl rfl wJ jg b ?_;intro g f d;refine h g ?_ d;unfold Own;rw[rW];rw[<-acp];simpa using f
def l9(h:Lz)(lag:Nat)(i:Nat):Int:=h.getD (80-lag+i%lag) 0
def pF(lag:Int):Bool:=decide (20<=lag/\lag<=79)
def dU(h:Lz)(lag:Int):Lz:=if pF lag then(List.range 40).map (l9 h lag.toNat) else[]
theorem sQ(a:20<=lag)(b:lag<=79):pF lag=true:=by unfold pF;simp;omega
theorem NJ(h:lag<20\/79<lag):pF lag=false:=by unfold pF;simp;omega
theorem Ae(a:pF lag=true):(dU h lag).length=40:=by unfold dU;rw[a];simp
theorem bJ{j:Nat}(f:Nat->Int)(h:j<n):((List.range n).map f).getD j 0=f j:=by
 rw[bK,qg,vU h];rfl
theorem akM(a:pF lag=true)(j:Nat)(b:j<40):(dU h lag).getD j 0=l9 h lag.toNat j:=by
 unfold dU;rw[if_pos a,bJ _ b]
theorem akN{lag:Nat}(hi:i<lag):l9 h lag i=h.getD (80-lag+i) 0:=by
 unfold l9;rw[zg hi]
theorem akO{lag:Nat}(hi:lag<=i):l9 h lag i=l9 h lag (i-lag):=by
 unfold l9;rw[Nat.mod_eq_sub_mod hi]
theorem Ir(f:Nat->Int):(List.range n).map f++[f n]=(List.range (n+1)).map f:=by
 rw[Si,zi];rfl
def vz(n:Int):Bool:=decide (0<=n/\n<=7)
def dJ(n:Int):Int:=if vz n then cO.getD n.toNat 0 else 0
theorem Dw{n:Int}(a:0<=n)(b:n<=7):vz n=true:=by unfold vz;simp;omega
theorem Oh{n:Int}(h:n<0\/7<n):vz n=false:=by unfold vz;simp;omega
theorem acV(n:Int)(w:Wd)(T:TabA w 1 cO):
 Cl 71 #[.int .i64 n] w fun e w'=>e=.returned (.tuple #[.int .i64 (dJ n),.int .i64 (bz (vz n))])/\w=w':=by
 by_cases a:n<0\/7<n
 ·rw[show dJ n=0 from by unfold dJ;rw[Oh a];rfl,Oh a]
  rcases a with a|a
  ·exact abI
  have c: ¬n<0:=ah;have d:8<=n:=ah;exact abI
 ·obtain⟨k,rfl⟩:=gI (show 0<=n from ah)
  have b:k<8:=ah;have f:=T.cell k b;rw[show dJ (k:Nat)=cO.getD k 0 from by unfold dJ;rw[Dw ah ah];rfl,Dw ah ah];generalize cO.getD k 0=v at*
  clear a T;exact abI
theorem alv(n:Int)(w:Wd)(T:TabS w 0 cO):
 Cl 121 #[.int .i64 n] w fun e w'=>e=.returned (.tuple #[.int .i64 (dJ n),.int .i64 (bz (vz n))])/\w=w':=by
 by_cases a:n<0\/7<n
 ·rw[show dJ n=0 from by unfold dJ;rw[Oh a];rfl,Oh a]
  rcases a with a|a
  ·exact abD
  have h: ¬n<0:=ah;exact abD
 ·obtain⟨k,rfl⟩:=gI (show 0<=n from ah)
  have g:k<8:=ah;obtain⟨A,c,b,I,d⟩:=T.form;obtain⟨f,rfl,d⟩:=d k g;have b:w.cell? ⟨0,0,none⟩=some (.slice (some f) 8 c):=b;rw[show dJ (k:Nat)=cO.getD k 0 from by unfold dJ;rw[Dw ah ah];rfl,Dw ah ah];generalize cO.getD k 0=v at*
  clear a T I;exact abD
theorem Dx(x:Int):bits BinOp.and IntKind.i64 x 1=x%2:=by
 have h:(BitVec.ofInt 64 x&&&BitVec.ofInt 64 1).toNat=(x%2).toNat:=by
  rw[aab,Cb,show(BitVec.ofInt 64 1).toNat=2^1-1 from aA,aac];omega
 show IntKind.i64.wrap ((BitVec.ofInt 64 x&&&BitVec.ofInt 64 1).toNat:Int)=_;rw[h,mM];omega
def fD(i:Int):Int:=if 0<=i/\i<=7 then dh.getD i.toNat 0 else 0
theorem XE{i:Int}(h:i<0\/7<i):fD i=0:=by unfold fD;rw[if_neg ah]
theorem DD(i:Int):fD i=0/\(i<0\/7<i)\/fD i=6/\0<=i/\i<=1\/fD i=5/\2<=i/\i<=3\/fD i=4/\4<=i/\i<=5\/fD i=3/\6<=i/\i<=7:=by
 by_cases h:i<0\/7<i
 ·exact .inl ⟨XE h,h⟩
 obtain⟨k,rfl⟩:=gI (show 0<=i from ah);have a:k<8:=ah;have e:fD (k:Nat)=dh.getD k 0:=abb;rw[e];have:k=0\/k=1\/k=2\/k=3\/k=4\/k=5\/k=6\/k=7:=ah;rcases this with rfl|rfl|rfl|rfl|rfl|rfl|rfl|rfl<;>simp[dh]
theorem XF(i:Int)(w:Wd)(T:TabA w 3 dh):
 Cl 141 #[.int .i64 i] w fun e w'=>e=.returned (.int .i64 (fD i))/\w=w':=by
 by_cases a:i<0\/7<i
 ·rw[XE a]
  rcases a with a|a
  ·exact abG
  have c: ¬i<0:=ah;have d:8<=i:=ah;exact abG
 ·obtain⟨k,rfl⟩:=gI (show 0<=i from ah)
  have b:k<8:=ah;have f:=T.cell k b;rw[show fD (k:Nat)=dh.getD k 0 from abb];generalize dh.getD k 0=v at*
  clear a T;exact abG
def jG(V e:Nat):Nat:=V/2^e%256
theorem XI(V e:Nat):jG V e<256:=oV _ ah
theorem DN(V e q:Nat):(jG V e).testBit q=(decide (q<8)&&V.testBit (e+q)):=by
 unfold jG;rw[show 256=2^8 from rfl,Cf,Ls,qI q e]
theorem OE{u:Nat}(a:u<=1)(x:Nat):u.testBit x=(decide (x=0)&&decide (u=1)):=by
 have:u=0\/u=1:=ah;rcases this with rfl|rfl
 ·simp
 cases x with
 |zero=>rfl
 |succ x=>simp[Nat.testBit_succ]
theorem amd{V u p e:Nat}(f:u<=1)(j:e<=p)(k:p<e+8):jG (V|||u<<<p) e=jG V e|||u<<<(p-e):=by
 apply Ci;intro q;rw[DN,Lt,Lt,DN,Cj,Cj,OE f,OE f];by_cases d:q<8
 ·by_cases a:V.testBit (e+q)
  ·simp[d,a]
  by_cases b:e+q=p
  ·have g:q=p-e:=ah
   subst g;simp[d,a,b]
  by_cases h:p<=e+q
  ·have c: ¬q-(p-e)=0:=ah
   have i: ¬e+q-p=0:=ah;simp[c,i,a]
  have c: ¬q>=p-e:=ah;simp[h,c,a]
 by_cases b:q-(p-e)=0
 ·omega
 simp[d,b]
theorem ame{V u p e:Nat}(d:u<=1)(h:p<e\/e+8<=p):jG (V|||u<<<p) e=jG V e:=by
 apply Ci;intro q;rw[DN,Lt,DN,Cj,OE d];by_cases c:q<8
 ·by_cases a:e+q>=p
  ·have b: ¬e+q-p=0:=ah
   simp[b]
  simp[a]
 simp[c]
def jd(V:Nat):Lz:=(List.range 14).map (fun j=>(jG V (8*(13-j)):Int))
theorem amf(V v k P:Nat):(V|||(v>>>(k+1))<<<(P+1))|||((v>>>k%2)<<<P)=V|||(v>>>k)<<<P:=by
 rw[Nat.or_assoc];congr 1;apply Ci;intro x;have g:v>>>k%2<=1:=ah;rw[Lt,Cj,Cj,Cj,SK,SK,OE g];by_cases b:x>=P
 ·by_cases c:x=P
  ·subst c
   have d:v.testBit k=decide (v>>>k%2=1):=by
    rw[Nat.testBit,Nat.one_and_eq_mod_two];by_cases h:v>>>k%2=1
    ·simp[h]
    have:v>>>k%2=0:=ah;simp[this]
   have a: ¬x>=x+1:=ah;rw[kV a,kH b,Sj,show k+0=k from rfl,d];simp only[Lu,aal,Bool.false_or,decide_true]
  have e: ¬x-P=0:=ah;have f:k+1+(x-(P+1))=k+(x-P):=ah;have a:x>=P+1:=ah;rw[kH b,kH a,kV e,f];simp only[Lu,aal,Bool.or_false]
 have a: ¬x>=P+1:=ah;rw[kV b,kV a];rfl
theorem amg(a b:Nat)(c:a<256)(d:b<256):bits BinOp.or IntKind.u8 (a:Int) (b:Int)=((a|||b:Nat):Int):=by
 have h:(BitVec.ofInt 8 (a:Int)|||BitVec.ofInt 8 (b:Int)).toNat=a|||b:=by
  rw[aam,Cb,Cb];congr 1<;>omega
 have e:a|||b<2^8:=Nat.or_lt_two_pow c d;show IntKind.u8.wrap ((BitVec.ofInt 8 (a:Int)|||BitVec.ofInt 8 (b:Int)).toNat:Int)=_;rw[h];rw[Tc];omega
def Au(l:List (Lz)):List Value:=l.flatMap au
theorem amh(l:List (Lz))(x:Lz):Au l++au x=Au (l++[x]):=by
 unfold Au;rw[aan];simp
theorem ads:∀{l:List (Lz)} (_:∀x∈l,x.length=4) (i j:Nat) (_:i<l.length) (_:j<4),(Au l)[4*i+j]?=(au (l.getD i []))[j]?
 |[],_,i,j,hi,_=>by simp at hi
 |x::l,h,0,j,_,hj=>by
  have a:=h x (rP ..);unfold Au;rw[List.flatMap_cons,oD (by rw[bf];omega)];simp
 |x::l,h,i+1,j,hi,hj=>by
  have a:=h x (rP ..);have c:=ads (l:=l) (fun y b=>h y (vV _ b)) i j Nc hj;unfold Au at*
  rw[List.flatMap_cons,uH (by rw[bf];omega),bf,a,show 4*(i+1)+j-4=4*i+j from ah,c];simp
def Own4(w:Wd)(base:Nat)(A:Oz)(c:Nat)(l:List (Lz)):Prop:=w.ownsRow base 76 4 (.slice A l.length c) l.length (Au l)/\∀x∈l,x.length=4
theorem ami:(Tryz.prog.info? 76).map (fun i=>(i.zero,i.size,i.bytes))=some (some (.agg #[.int .i64 0,.int .i64 0,.int .i64 0,.int .i64 0]),4,32):=aB
section
variable {w w':Wd} {base c:Nat} {A:Oz} {l:List (Lz)}
theorem Own4.nil:Own4 w base none 0 []:=⟨Bz w base _ _,fun x a=>by simp at a⟩
theorem Own4.lt(h:Own4 w base A c l):∀a,A=some a->base<=a.block/\a.block<w.heap.size:=fun a b=>by
 subst b;exact EW h.1 a.block rfl
theorem Own4.below(h:Own4 w base A c l)(a:Bw w w'):Own4 w' base A c l:=
 ⟨BC h.1 (row:=none) ⟨a.os,a.tape,a.output,a.size,fun k b _=>a.block k b⟩ aaX,h.2⟩
theorem Own4.ne_(h:Own4 w base A c l)(G:g<base):∀a,A=some a->a.block≠g:=fun a e=>by
 have:=(h.lt a e).1;omega
def Rs4(w:Wd)(g:Nat)(l:List (Lz)):Prop:=g<w.heap.size/\∀i,i<l.length->w.rangeAt g (4*i) (au (l.getD i []))
theorem Own4.reads(h:Own4 w base A c l)(m:0<l.length):∃g,A=some ⟨g,0,none⟩/\Rs4 w g l:=by
 have n:=Reads.of_own h.1;rcases h.1.2 with⟨_,h0⟩|⟨g,cap,d,a,_⟩
 ·omega
 injection a with hA _ _;subst hA;obtain⟨o,e,b,f⟩:=n.2 m;injection e with e;subst e;refine⟨g,rfl,b,fun i hi j v a=>?_⟩;have k:j<4:=by
  have:=(List.getElem?_eq_some_iff.1 a).1;rw[bf] at this;have p:(l.getD i []).length=4:=by
   rw[bK,jU hi];exact h.2 _ (BI hi)
  omega
 have:=f (4*i+j) v (by rw[ads h.2 i j hi k];exact a);rwa [lN] at this
theorem Rs4.below(h:Rs4 w g l)(a:Bw w w'):Rs4 w' g l:=
 ⟨je h.1 a.size,fun i hi j v b=>(a.cell (p:=⟨g,4*i+j,none⟩) h.1).trans (h.2 i hi j v b)⟩
theorem Rs4.rowFar{b:Nat}(h:Rs4 w g l)(a:g≠b)(d:Array Value):Rs4 (w.setRow b d) g l:=
 ⟨by simpa[World.setRow] using h.1,fun i hi j v e=>by
   have:=h.2 i hi j v e;unfold World.cell? at*
   rw[oz w b g d a];exact this⟩
end
theorem amj{p:Array Oper}{rest:List Oper}{o:Oper}{a:Act}{w:Wd}{Q:Exit->Act->Wd->Prop}(r:o.guard=none)(s x:Operand)
 (N:o.op=.call {callee:=.builtin .append,args:= #[s,x],argTypes:= #[189,189]})
 (base:Nat) (A:Oz) (c n:Nat) (l:List (Lz)) (Z:a.eval s=.slice A n c) (M:l.length=n) (f:Own4 w base A c l)
 (g:Nat) (y:Lz) (O:a.eval x=.slice (some ⟨g,0,none⟩) 1 1) (R:IB w g 76 y) (E:y.length=4) (I:n+1<=1000000) (b:base<=w.heap.size)
 (h:∀e c' w',Own4 w' base e c' (l++[y])->w.grownBy w' (A.map (·.block))->wpList Tryz.prog p Q rest (a.put o.dst (.slice e (n+1) c')) w'):wpList Tryz.prog p Q (o::rest) a w:=by
 subst M;obtain⟨S,hi,v,B,D⟩:=mJ ami;refine JW r fun K H=>?_;obtain⟨J,w',k,q,h3,G⟩:=yh (P:=Tryz.prog) w base 189 o.type 76 S _ 4 32 Tryz.underlying189 hi v B D rfl ah _ _ _ f.1 (g+1) (some ⟨g,0,none⟩) 1 1 (au y)
  ⟨by rw[bf,E],fun _=>⟨_,rfl,by show g<g+1;omega,fun j u F=>by
    have i:j<y.length:=by
     have:=(List.getElem?_eq_some_iff.1 F).1;rwa [bf] at this
    rw[lN,IB.cell R j i,<-F,wO y j i]⟩⟩ (o9 y) jg ah b
 rw[amh] at q;have L:(l++[y]).length=l.length+1:=ay;obtain⟨e,c',t⟩:∃e c',J=.slice e (l.length+1) c':=by
  rcases q.2 with⟨_,h0⟩|⟨C,cap,d,hv,_⟩
  ·omega
  exact⟨_,_,hv⟩
 subst t;unfold Oper.wp execOp;simp only[N,resolve,invoke,builtin,ng,uM,qh,ut,uu,uw,Z,O,k];refine H _ _ ?_;refine h e c' w' ⟨by rw[L];exact q,fun z m=>?_⟩ zF;rcases List.mem_append.1 m with m|m
 ·exact f.2 z m
 ·obtain rfl:=List.mem_singleton.1 m
  exact E
def pkB:Lz:=[2,6,6,5,5,4,4,3,3,6,3,4,4,4,4,4,5,6,3,4,4,4,4,4,5]
def pkT:Lz:=[2,63,63,31,31,15,15,7,7,59,7,9,9,9,9,15,31,59,7,9,9,9,9,15,31]
def fld(g i:Nat):List Value:=[.pointer (some ⟨g,i,none⟩),.int .i64 (pkB.getD i 0),.int .i64 (pkT.getD i 0)]
def nS(g n:Nat):List Value:=(List.range n).flatMap (fld g)
theorem IZ(g n:Nat):nS g n++fld g n=nS g (n+1):=by
 unfold nS;rw[Si,aan];simp
theorem Ja(g n:Nat):(nS g n).length=n*3:=by
 induction n with
 |zero=>rfl
 |succ n ih=>rw[<-IZ,dN,ih];simp[fld];omega
theorem amk(g:Nat){j:Nat}(hi:i<n)(a:j<3):(nS g n)[3*i+j]?=(fld g i)[j]?:=by
 induction n with
 |zero=>omega
 |succ n ih=>
  rw[<-IZ];by_cases h:i<n
  ·rw[oD (by rw[Ja];omega),ih h]
  obtain rfl:i=n:=ah;rw[uH (by rw[Ja];omega),Ja];congr 1;omega
theorem aml(g i:Nat):∀u∈fld g i,u.oneCell'=true:=by
 intro u a;unfold fld at a;simp only[zt,zu,yZ] at a;rcases a with rfl|rfl|rfl<;>rfl
theorem adt(g:Nat){a:Nat}{b t:Int}(c:a=i)(d:pkB.getD i 0=b)(F:pkT.getD i 0=t):[Value.pointer (some ⟨g,a,none⟩),.int .i64 b,.int .i64 t]=fld g i:=by
 unfold fld;rw[d,F,c]
theorem adu(g n:Nat){l:List Value}(h:l=fld g n):nS g n++l=nS g (n+1):=by rw[h];exact IZ g n
theorem OH(g n:Nat){l:List Value}(h:l=fld g n++fld g (n+1)):nS g n++l=nS g (n+2):=by rw[h,<-oZ,IZ,IZ]
theorem adv(g n:Nat)(u:Value)(a:u∈nS g n):u.oneCell'=true:=by
 unfold nS at a;obtain⟨i,_,h⟩:=List.mem_flatMap.1 a;exact aml g i u h
theorem Jb:pkB.length=25:=rfl
theorem XJ:pkT.length=25:=rfl
def OwnF(w:Wd)(base:Nat)(A:Oz)(c g n:Nat):Prop:=w.ownsRow base 133 3 (.slice A n c) n (nS g n)
theorem adx:(Tryz.prog.info? 133).map (fun i=>(i.zero,i.size,i.bytes))=some (some (.agg #[.pointer none,.int .i64 0,.int .i64 0]),3,24):=aB
section
variable {w w':Wd} {base c g n:Nat} {A:Oz}
theorem OwnF.lt(h:OwnF w base A c g n):∀a,A=some a->base<=a.block/\a.block<w.heap.size:=fun a b=>by
 subst b;exact EW h a.block rfl
theorem OwnF.alloc(h:OwnF w base A c g n)(o:Obj):OwnF (w.alloc o) base A c g n:=World.ownsRow.alloc h o
theorem OwnF.drew(h:OwnF w base A c g n):OwnF w.drew base A c g n:=h
theorem OwnF.at_(h:OwnF w base A c g n)(q:0<n):∃b,A=some ⟨b,0,none⟩/\b<w.heap.size/\base<=b/\∀i,i<n->w.cell? ⟨b,3*i,none⟩=some (.pointer (some ⟨g,i,none⟩))/\w.cell? ⟨b,3*i+1,none⟩=some (.int .i64 (pkB.getD i 0))/\w.cell? ⟨b,3*i+2,none⟩=some (.int .i64 (pkT.getD i 0)):=by
 have r:=Reads.of_own h;have a:=h.lt;rcases h.2 with⟨_,h0⟩|⟨b,cap,d,hv,_⟩
 ·omega
 injection hv with hA _ _;subst hA;obtain⟨s,e,o,p⟩:=r.2 q;injection e with e;subst e;refine⟨b,rfl,o,(a _ rfl).1,fun i hi=>?_⟩;have f:=fun j (hj:j<3) v (hv:(fld g i)[j]?=some v)=>p (3*i+j) v (by rw[amk g hi hj];exact hv);have k:=f 0 ah _ rfl;have l:=f 1 ah _ rfl;have m:=f 2 ah _ rfl;rw[lN] at k l m;exact⟨k,l,m⟩
end
theorem ady{p:Array Oper}{rest:List Oper}{o:Oper}{a:Act}{w:Wd}{Q:Exit->Act->Wd->Prop}(v:o.guard=none)(s x:Operand)
 (H:o.op=.call {callee:=.builtin .append,args:= #[s,x],argTypes:= #[128,128]})
 (base:Nat) (A:Oz) (c g n m q:Nat) (L:n+m=q) (Z:a.eval s=.slice A n c) (f:OwnF w base A c g n)
 (h:Nat) (r:Array Value) (N:a.eval x=.slice (some ⟨h,0,none⟩) m m) (O:Blk w h 133 r) (b:nS g n++r.toList=nS g (n+m)) (I:n+m<=1000000) (e:base<=w.heap.size)
 (k:∀i c' w',OwnF w' base i c' g q->w.grownBy w' (A.map (·.block))->wpList Tryz.prog p Q rest (a.put o.dst (.slice i q c')) w'):wpList Tryz.prog p Q (o::rest) a w:=by
 subst L;obtain⟨R,hi,z,B,D⟩:=mJ adx;have t:r.toList.length=m*3:=by
  exact aje
 refine JW v fun K F=>?_;obtain⟨J,w',l,h2,h3,E⟩:=yh (P:=Tryz.prog) w base 128 o.type 133 R _ 3 24 Tryz.underlying128 hi z B D rfl ah _ _ _ f (h+1) (some ⟨h,0,none⟩) m m r.toList
  ⟨t,fun _=>⟨_,rfl,by show h<h+1;omega,fun j u G=>by rw[lN,Blk.cell O j];simpa using G⟩⟩ (fun u M=>adv g (n+m) u (by rw[<-b];exact ZK _ M)) jg ah e
 rw[b] at h2;obtain⟨i,c',y⟩:∃i c',J=.slice i (n+m) c':=by
  exact ai3
 subst y;unfold Oper.wp execOp;simp only[H,resolve,invoke,builtin,ng,uM,qh,ut,uu,uw,Z,N,l];exact F _ _ (k i c' w' h2 zF)
theorem OI{p:Array Oper}{o:Oper}{a:Act}{w:Wd}{K:Act->Wd->Prop}{Q:Exit->Act->Wd->Prop}{E:Prop}(hgd:o.guard=none)(s x:Operand)
 (G:o.op=.call {callee:=.builtin .append,args:= #[s,x],argTypes:= #[128,128]})
 (base:Nat) (A:Oz) (c g n m q:Nat) (H:n+m=q) (Z:a.eval s=.slice A n c) (f:OwnF w base A c g n)
 (h:Nat) (r:Array Value) (N:a.eval x=.slice (some ⟨h,0,none⟩) m m) (O:Blk w h 133 r) (b:nS g n++r.toList=nS g (n+m)) (I:n+m<=1000000) (e:base<=w.heap.size)
 (k:∀i c' w',OwnF w' base i c' g q->w.grownBy w' (A.map (·.block))->K (a.put o.dst (.slice i q c')) w'):if Region.wanted o (yielded p a.tmps)=true then Oper.wp Tryz.prog o a w K Q else E:=by
 have M:Region.wanted o (yielded p a.tmps)=true:=MO;rw[if_pos M];subst H;obtain⟨R,hi,y,z,D⟩:=mJ adx;have t:r.toList.length=m*3:=by
  exact aje
 obtain⟨J,w',l,h2,h3,B⟩:=yh (P:=Tryz.prog) w base 128 o.type 133 R _ 3 24 Tryz.underlying128 hi y z D rfl ah _ _ _ f (h+1) (some ⟨h,0,none⟩) m m r.toList
  ⟨t,fun _=>⟨_,rfl,by show h<h+1;omega,fun j u F=>by rw[lN,Blk.cell O j];simpa using F⟩⟩ (fun u L=>adv g (n+m) u (by rw[<-b];exact ZK _ L)) jg ah e
 rw[b] at h2;obtain⟨i,c',v⟩:∃i c',J=.slice i (n+m) c':=by
  exact ai3
 subst v;unfold Oper.wp execOp;simp only[G,resolve,invoke,builtin,ng,uM,qh,ut,uu,uw,Z,N,l];exact(k i c' w' h2 zF)
def oP(xs:Lz):Nat->Int
 |0=>90
 |n+1=>oP xs n+xs.getD n 0
def Byts(xs:Lz):Prop:=∀i,0<=xs.getD i 0/\xs.getD i 0<=255
theorem adF(h:Byts xs)(n:Nat):0<=oP xs n/\oP xs n<=90+255*(n:Int):=by
 induction n with
 |zero=>simp[oP]
 |succ n ih=>
  have:=h n;simp only[oP];push_cast;omega
def chk(xs:Lz):Int:=oP xs xs.length%256
theorem adG(A:Oz)(c n:Nat)(xs:Lz)(w:Wd)(d:Rb w w.heap.size A xs)(a:xs.length=n)(h:n<=1000)(hx:Byts xs):
 Cl 86 #[.slice A n c] w fun e w'=>e=.returned (.int .u8 (chk xs))/\w=w':=by
 have L:=aj (chk xs=oP xs n%256) (by unfold chk;rw[a]);have HR:=af d;have HN:=af a;clear d a;go_enter Tryz.func86,Tryz.ntmps86;go_wp2;go_loop [3,8] (fun f b=> ∃k:Nat,k<=n/\b=.int .i64 k/\f=.int .i64 (oP xs k)) (fun _ b=>n-(intOf b).toNat)
 case atStart=>exact⟨0,ah,rfl,rfl⟩
 case round=>
  obtain⟨k,g,rfl,rfl⟩:=hrel;have j:=adF hx k;by_cases hlt:k<n
  ·exact ahV
  obtain rfl:k=n:=ah;generalize oP xs k=s at*
  have i:IntKind.u8.wrap s=s%256:=Tc s;go_wp2;go_ret;exact⟨by rw[L.o];rfl,rfl⟩
theorem adH(A:Oz)(c n:Nat)(xs:Lz)(w:Wd)(d:Rb w w.heap.size A xs)(a:xs.length=n)(i:n<=1000)(hx:Byts xs):
 Cl 131 #[.slice A n c] w fun e w'=>e=.returned (.int .u8 (chk xs))/\w=w':=by
 have L:=aj (chk xs=oP xs n%256) (by unfold chk;rw[a]);have HR:=af d;have HN:=af a;clear d a;go_enter Tryz.func131,Tryz.ntmps131;go_wp2;go_loop [3,8] (fun g b=> ∃k:Nat,k<=n/\b=.int .i64 k/\g=.int .i64 (oP xs k)) (fun _ b=>n-(intOf b).toNat)
 case atStart=>exact⟨0,ah,rfl,rfl⟩
 case round=>
  obtain⟨k,h,rfl,rfl⟩:=hrel;have f:=adF hx k;by_cases hlt:k<n
  ·exact ahV
  obtain rfl:k=n:=ah;generalize oP xs k=s at*
  have j:IntKind.u8.wrap (s%256)=s%256:=Ux;have O:s.tmod 256=s%256:=RI f.1;go_wp2;go_ret;exact⟨by rw[L.o];rfl,rfl⟩
section
open Go.Shelf
def amU:Go.Shelf.Ren:=⟨fun|264=>197|n=>n,fun|53=>180|46=>106|n=>n,fun|n=>n⟩
theorem amV:Go.Proofs.Lays.n264 Tryz.prog amU:={
 mixed:=aB
 f264:=Tryz.func197.trans (iI some aB)
 t46:=Tryz.underlying106
 a46:=Tryz.isAgg106
 z46:=Tryz.sizeOf106
 v46:=Tryz.zeroValue106
 t53:=Tryz.underlying180
 a53:=Tryz.isAgg180
 z53:=Tryz.sizeOf180
 v53:=Tryz.zeroValue180}
theorem Yf(x y:Nat)(a:x<18446744073709551616)(b:y<18446744073709551616)(w:Wd):
 Cl 197 #[.int .u64 x,.int .u64 y] w fun e w'=>e=.returned (.tuple #[.int .u64 ((x*y/18446744073709551616:Nat):Int),.int .u64 ((x*y%18446744073709551616:Nat):Int)])/\w'=w:=
 Any.bits_Mul64 amV x y a b w
end
theorem amW(c f:Nat)(e:c<18446744073709551616)(g:f<18446744073709551616):
 c*c/18446744073709551616*f/18446744073709551616+(c*c%18446744073709551616*f/18446744073709551616+c*c/18446744073709551616*f%18446744073709551616)/18446744073709551616=c*c*f/340282366920938463463374607431768211456/\
 (c*c%18446744073709551616*f/18446744073709551616+c*c/18446744073709551616*f%18446744073709551616)%18446744073709551616=c*c*f/18446744073709551616%18446744073709551616/\
 c*c%18446744073709551616*f%18446744073709551616=c*c*f%18446744073709551616/\
 c*c*f/340282366920938463463374607431768211456<18446744073709551616:=by
 have a:c*c<=18446744073709551615*18446744073709551615:=zh ah ah;have b:c*c*f<=18446744073709551615*18446744073709551615*18446744073709551615:=zh a ah;have U:=Ru (c*c) 18446744073709551616;have d:c*c*f=18446744073709551616*(c*c/18446744073709551616*f)+c*c%18446744073709551616*f:=by
  rw[<-oU,<-Nat.add_mul,U]
 clear U a;generalize c*c/18446744073709551616*f=q at*
 generalize c*c%18446744073709551616*f=p at*
 generalize c*c*f=N at*
 omega
theorem amX(x y:Int)(a:0<=x)(b:0<=y)(w:Wd):(callFunc 198 #[.int .u64 x,.int .u64 y,.int .u64 0]).run Tryz.prog w=
 .ok (.value (.tuple #[.int .u64 ((x+y)%18446744073709551616),.int .u64 ((x+y)/18446744073709551616)])) w:=by
 have h:=run_add64 (P:=Tryz.prog) x y 0 a b ah ah w;rw[run_callFunc_extern (e:=add64Entry) Tryz.func198 aB aB aB aB _ w,h,Int.add_zero];rfl
def ad7(w:Wd)(n:Nat)(e:Ending)(w':Wd):Prop:=
 e=.returned (.agg #[.int .u64 ((n/340282366920938463463374607431768211456:Nat):Int),.int .u64 ((n/18446744073709551616%18446744073709551616:Nat):Int),.int .u64 ((n%18446744073709551616:Nat):Int)])/\Bw w w'
theorem amY(c f:Nat)(b:c<18446744073709551616)(d:f<18446744073709551616)(w:Wd):
 Cl 185 #[.int .u64 c,.int .u64 f] w (ad7 w (c*c*f)):=by
 have r:c*c%18446744073709551616<18446744073709551616:=oV _ ah;have T:c*c/18446744073709551616<18446744073709551616:=by
  have u:c*c<=18446744073709551615*18446744073709551615:=zh ah ah;omega
 obtain⟨g,n,p,i⟩:=amW c f b d;have I:=fun a=>Yf c c b b a;have j:=fun a=>Yf (c*c%18446744073709551616) f r d a;have y:=fun a=>Yf (c*c/18446744073709551616) f T d a;have t:c*c%18446744073709551616*f%18446744073709551616<18446744073709551616:=oV _ ah;clear r T b d;have D:=fun(a:Wd) (e:Ending)=>show e=_/\Bw w a->ad7 w (c*c*f) e a from id;rw[<-g] at i;rw[<-g,<-n,<-p] at D;clear g n p;generalize c*c%18446744073709551616*f%18446744073709551616=p0 at*
 generalize c*c%18446744073709551616*f/18446744073709551616=p1 at*
 generalize c*c/18446744073709551616*f%18446744073709551616=q0 at*
 generalize c*c/18446744073709551616*f/18446744073709551616=q1 at*
 generalize c*c%18446744073709551616=l at*
 generalize c*c/18446744073709551616=h at*
 have s:=amX (p1:Nat) (q0:Nat) ah ah;obtain⟨m,O⟩:=ak ((p1+q0)%18446744073709551616:Nat);obtain⟨k,q⟩:=ak ((p1+q0)/18446744073709551616:Nat);rw[show(((p1:Nat):Int)+(q0:Nat))%18446744073709551616=(m:Nat) from ah,show(((p1:Nat):Int)+(q0:Nat))/18446744073709551616=(k:Nat) from ah] at s;rw[<-q] at i D;rw[<-O] at D;have x:IntKind.u64.wrap (((q1:Nat):Int)+(k:Nat))=((q1+k:Nat):Int):=by
  simp only[IntKind.wrap,IntKind.signed,IntKind.bits];simp;omega
 have I:=af I;have j:=af j;have y:=af y;have D:=af D;clear O q i t;go_enter Tryz.func185,Tryz.ntmps185;go_wp2_with fail;refine(I.o _).mono ?_;rintro e a ⟨rfl,rfl⟩;go_wp2_with fail;refine(j.o _).mono ?_;rintro e a ⟨rfl,rfl⟩;go_wp2_with fail;refine(y.o _).mono ?_;rintro e a ⟨rfl,rfl⟩;go_wp2_with fail;refine aX (v:=.agg #[.int .u64 ((q1+k:Nat):Int),.int .u64 (m:Nat),.int .u64 (p0:Nat)]) ?_ rfl (D.o _ _ ⟨rfl,baqq _ _⟩);simp[results,Tryz.results185,go_sem]
def jy(c e d f:Int):Bool:=if e<=0 then false else if f<=0 then true else decide (max d 0*max d 0*e<max c 0*max c 0*f)
theorem ad8{c f:Int}(h:e<=0):jy c e d f=false:=by unfold jy;rw[if_pos h]
theorem Yg{c f:Int}(h:0<e)(a:f<=0):jy c e d f=true:=by unfold jy;rw[if_neg ah,if_pos a]
theorem amZ{c f:Int}(h:0<e)(a:0<f):jy c e d f=decide (max d 0*max d 0*e<max c 0*max c 0*f):=by unfold jy;rw[if_neg ah,if_neg ah]
def dg(n k:Nat):Nat:=if k=0 then n/340282366920938463463374607431768211456 else if k=1 then n/18446744073709551616%18446744073709551616 else n%18446744073709551616
theorem dg0(n:Nat):dg n 0=n/340282366920938463463374607431768211456:=rfl
theorem dg1(n:Nat):dg n 1=n/18446744073709551616%18446744073709551616:=rfl
theorem dg2(n:Nat):dg n 2=n%18446744073709551616:=rfl
theorem am0(x y:Nat):
 (dg x 0≠dg y 0->(dg y 0<dg x 0↔y<x))/\(dg x 0=dg y 0->dg x 1≠dg y 1->(dg y 1<dg x 1↔y<x))/\
 (dg x 0=dg y 0->dg x 1=dg y 1->dg x 2≠dg y 2->(dg y 2<dg x 2↔y<x))/\(dg x 0=dg y 0->dg x 1=dg y 1->dg x 2=dg y 2->x=y):=by
 simp only[dg0,dg1,dg2];refine⟨?_,?_,?_,?_⟩<;>omega
def wgt(i:Int):Int:=if i<0\/120<=i then 0 else 32767*min (2*i+1) (239-2*i)/119
theorem JC{i:Int}(h:i<0\/120<=i):wgt i=0:=by unfold wgt;rw[if_pos h]
theorem Qa{i:Int}(a:0<=i)(h:i<60):wgt i=32767*(2*i+1)/119:=by
 unfold wgt;rw[if_neg ah,Int.min_eq_left ah]
theorem YI{i:Int}(a:60<=i)(h:i<120):wgt i=32767*(239-2*i)/119:=by
 unfold wgt;rw[if_neg ah,Int.min_eq_right ah]
theorem anU{i:Int}(a:60<=i)(h:i<120):wgt (119-i)=wgt i:=by
 rw[YI a h,Qa ah ah];congr 1;omega
theorem anV(i:Int)(w:Wd):Cl 60 #[.int .i64 i] w fun e w'=>e=.returned (.int .i64 (wgt i))/\w=w':=by
 by_cases h1:i<0
 ·rw[JC (.inl h1)]
  go_enter Tm,Tn;go_wp2;go_ret;exact⟨rfl,rfl⟩
 by_cases h2:120<=i
 ·rw[JC (.inr h2)]
  have U:decide (i<0)=false:=ja;go_enter Tm,Tn;go_wp2;go_ret;exact⟨rfl,rfl⟩
 have U:decide (i<0)=false:=ja;have c:decide (120<=i)=false:=zJ;by_cases b:i<60
 ·have a:=af (Qa ah b)
  have O:min (2*i+1) (2*(120-i)-1)=2*i+1:=Int.min_eq_left ah;go_enter Tm,Tn;go_wp2;go_ret;rw[a.o];exact⟨ay,rfl⟩
 have a:=af (YI (i:=i) ah ah);have O:min (2*i+1) (2*(120-i)-1)=2*(120-i)-1:=Int.min_eq_right ah;go_enter Tm,Tn;go_wp2;go_ret;rw[a.o];refine⟨?_,rfl⟩;show Ending.returned (.int .i64 (32767*(2*(120-i)-1)/119))=_;rw[show 2*(120-i)-1=239-2*i from ah]
theorem aeP(i:Int)(w:Wd)(b:i<60):Cl 95 #[.int .i64 i] w fun e w'=>e=.returned (.int .i64 (wgt i))/\w=w':=by
 by_cases h1:i<0
 ·rw[JC (.inl h1)]
  go_enter Tt,Tv;go_wp2;go_ret;exact⟨rfl,rfl⟩
 have a:=af (Qa ah b);have U:decide (i<0)=false:=ja;have c:decide (119<i)=false:=aC;go_enter Tt,Tv;go_wp2;go_ret;rw[a.o];exact⟨rfl,rfl⟩
theorem anW(i:Int)(w:Wd):Cl 95 #[.int .i64 i] w fun e w'=>e=.returned (.int .i64 (wgt i))/\w=w':=by
 by_cases b:i<60
 ·exact aeP i w b
 have U:decide (i<0)=false:=aC;by_cases h2:119<i
 ·rw[JC (.inr ah)]
  go_enter Tt,Tv;go_wp2;go_ret;exact⟨rfl,rfl⟩
 have c:decide (119<i)=false:=zJ;have a:=af (anU (i:=i) ah ah);go_enter Tt,Tv;go_wp2_with(go_at_call 95;refine(aeP (119-i) w ah).mono ?_;rintro e w' ⟨rfl,rfl⟩);go_ret;rw[<-a.o];exact⟨rfl,rfl⟩

def jC(a:Array Oper):List Nat->List Oper
 |[]=>[]
 |i::r=>match a[i]? with
  |some o=>o::jC a r
  |none=>jC a r
def Qn(a:Array Oper)(l:List Nat):Bool:=l.all (fun i=>decide (i<a.size))
theorem Y8{a:Array Oper}(h:a[i]?=some o)(r:List Nat):jC a (i::r)=o::jC a r:=by simp only[jC,h]
def xy(md:Region.Mode)(a:Array Oper)(s:Nat):List Nat->Bool
 |[]=>true
 |i::r=>(Region.waitsFor md a s i||r.any (fun j=>Region.waitsFor md a j i))&&xy md a s r
def xA(md:Region.Mode)(a:Array Oper):List Nat->List Nat->Bool
 |_,[]=>true
 |seen,t::r=>seen.any (fun j=>Region.waitsFor md a t j)&&xA md a (t::seen) r
def Y9(a:Array Oper)(i:Nat):Bool:=match a[i]? with
 |some o=>match o.op with
  |.move _=>true
  |.assign _=>true
  |.extract _ _=>true
  |_=>false
 |none=>false
def Bd(md:Region.Mode)(a:Array Oper):List Nat->Array Bool->Bool
 |[],listed=>(Region.ready md a listed).isEmpty
 |k::r,listed=>decide (Region.ready md a listed=[k])&&Bd md a r (listed.setIfInBounds k true)||
   ((Region.ready md a listed).contains k&&Region.free md a listed k&&Y9 a k)&&Bd md a r (listed.setIfInBounds k true)
def JF(md:Region.Mode)(a:Array Oper)(tl:List Nat):List Nat->Array Bool->Bool
 |[],listed=>(Region.ready md a listed).all (fun j=>tl.contains j)&&Bd md a tl listed
 |k::r,listed=>(Region.ready md a listed).contains k&&Region.free md a listed k&&JF md a tl r (listed.setIfInBounds k true)
def JG(md:Region.Mode)(a:Array Oper)(U tl:List Nat):List Nat->Array Bool->Bool
 |[],listed=>(List.range a.size).all (fun i=>listed.getD i true||U.contains i||tl.contains i)&&tl.all (fun t=>!listed.getD t true)&&JF md a tl U listed
 |k::r,listed=>(Region.ready md a listed).contains k&&Region.free md a listed k&&JG md a U tl r (listed.setIfInBounds k true)
def afx(md:Region.Mode)(a:Array Oper)(b U tl:List Nat):Bool:=
 Region.noSelect a&&(match tl with|[]=>false|s::r=>xy md a s U&&xA md a [s] r)&&U.all (fun i=>!tl.contains i)&&Qn a b&&Qn a U&&Qn a tl&&JG md a U tl b (Array.replicate a.size false)
section
variable {P:Program} {ops:Array Oper} {md:Region.Mode} {C:Wd->Prop} {Q:Exit->Act->Wd->Prop}
structure HInv(md:Region.Mode)(ops:Array Oper)(tl:List Nat)(listed:Array Bool):Prop where
 size:listed.size=ops.size
 closed:∀j oj,ops[j]?=some oj->listed.getD j false=true->∀e∈oj.after,Region.binds md e=true->listed.getD e.on false=true
 tail:∀t∈tl,listed.getD t true=false
theorem HInv.set{tl:List Nat}(p:HInv md ops tl a)(hi:i∈Region.ready md ops a)(d:i∉tl):HInv md ops tl (a.setIfInBounds i true):=by
 obtain⟨_,n,f,b⟩:=mem_ready.1 hi;refine⟨by simp[p.size],fun j m k l e h g=>?_,fun t F=>by rw[LX true (by rintro rfl;exact d F)];exact p.tail t F⟩;by_cases c:i=j
 ·subst c
  have:m=n:=fQ (k.symm.trans f);subst this;exact getD_set_true (b e h g)
 rw[LX false c] at l;exact getD_set_true (p.closed j m k l e h g)
theorem Za{t:Nat}(h:Region.waitsFor md ops t i=true)(g:a.getD i true=false):t∉Region.ready md ops a:=by
 intro m;obtain⟨o,f,e,l,k,d⟩:=Region.waitsFor_spec h;obtain⟨_,n,c,b⟩:=mem_ready.1 m;have:n=o:=fQ (c.symm.trans f);subst this;have j:=b e l k;rw[d,getD_both g] at j;cases j
theorem Zb{s:Nat}{tl:List Nat}{a:Array Bool}(p:HInv md ops tl a):∀l:List Nat,xy md ops s l=true->∀i∈l,a.getD i true=false->s∉Region.ready md ops a
 |[],_,i,hi,_=>by cases hi
 |k::r,h,i,hi,hun=>by
  simp only[xy,rV,aax] at h;rcases List.mem_cons.1 hi with rfl|hi
  ·rcases h.1 with c|c
   ·exact Za c hun
   obtain⟨j,q,t⟩:=List.any_eq_true.1 c;cases hl:a.getD j true with
   |false=>exact Zb p r h.2 j q hl
   |true=>
    obtain⟨u,b,e,o,n,g⟩:=Region.waitsFor_spec t;have d:j<a.size:=(by rw[p.size];exact(Array.getElem?_eq_some_iff.1 b).1);have f:a.getD j false=true:=(by simp[d] at hl|-;exact hl);have m:=p.closed j u b f e o n;rw[g,getD_both hun] at m;cases m
  exact Zb p r h.2 i hi hun
theorem afy{tl:List Nat}{a:Array Bool}(p:HInv md ops tl a):∀(l b:List Nat),xA md ops b l=true->(∀j∈b,j∈tl)->(∀j∈l,j∈tl)->∀t∈l,t∉Region.ready md ops a
 |[],_,_,_,_,t,F=>by cases F
 |k::r,b,h,Z,hl,t,F=>by
  simp only[xA,rV] at h;rcases List.mem_cons.1 F with rfl|F
  ·obtain⟨j,c,d⟩:=List.any_eq_true.1 h.1
   exact Za d (p.tail j (Z j c))
  refine afy p r (k::b) h.2 (fun j c=>?_) (fun j c=>hl j (vV _ c)) t F;rcases List.mem_cons.1 c with rfl|c
  ·exact hl _ (rP ..)
  exact Z j c
theorem aoC{s:Nat}{r U:List Nat}{a:Array Bool}(p:HInv md ops (s::r) a)(d:xy md ops s U=true)(e:xA md ops [s] r=true){i:Nat}(hi:i∈U)(c:a.getD i true=false):
 ∀t∈s::r,t∉Region.ready md ops a:=fun t F=>by
 rcases List.mem_cons.1 F with rfl|F
 ·exact Zb p U d i hi c
 ·exact afy p r [s] e (fun j b=>by rw[List.mem_singleton.1 b];exact rP ..) (fun j b=>vV _ b) t F
def JH(P:Program)(md:Region.Mode)(ops:Array Oper)(C:Wd->Prop)(U:List Nat)(L:Array Bool->Act->Prop):Nat->Array Bool->Act->Prop
 |0,listed,a=>L listed a
 |f+1,listed,a=>
  Region.ready md ops listed≠[]/\∀i∈Region.ready md ops listed,i∈U/\qOp P ops C i (JH P md ops C U L f (listed.setIfInBounds i true)) a
theorem afz{U:List Nat}{g:Nat}{L:Array Bool->Act->Prop}(d:∀b a w,C w->L b a->wpAny P md ops Q g b a w):
 ∀(f:Nat) (b:Array Bool) (a:Act) (w:Wd),C w->JH P md ops C U L f b a->wpAny P md ops Q (f+g) b a w
 |0,b,a,w,hw,h=>by rw[qK];exact d _ _ _ hw h
 |f+1,b,a,w,hw,h=>by
  rw[show f+1+g=(f+g)+1 from ah];exact⟨fun k=>absurd k h.1,fun i hi=>wpOp_of_qOp hw (fun e w' c j=>afz d f _ e w' c j) (h.2 i hi).2⟩
theorem aoD{k:Nat}(h:a.getD i true=true):(a.setIfInBounds k true).getD i true=true:=by
 by_cases e:k=i
 ·subst e
  rcases yX k a.size with b|b
  ·simp[b]
  simp[yY b]
 rw[LX true e];exact h
def covers(ops:Array Oper)(U tl:List Nat)(a:Array Bool):Prop:=∀i,i<ops.size->a.getD i true=true\/i∈U\/i∈tl
theorem covers.set{U tl:List Nat}(h:covers ops U tl a)(k:Nat):covers ops U tl (a.setIfInBounds k true):=fun i hi=>by
 rcases h i hi with h|h
 ·exact .inl (aoD h)
 exact .inr h
theorem afA{s:Nat}{r U:List Nat}{a:Array Bool}(p:HInv md ops (s::r) a)(k:covers ops U (s::r) a)(f:xy md ops s U=true)(g:xA md ops [s] r=true){i:Nat}(hi:i∈U)(d:a.getD i true=false)
 {j:Nat} (e:j∈Region.ready md ops a):j∈U:=by
 obtain⟨b,l,c,_⟩:=mem_ready.1 e;rcases k j (Array.getElem?_eq_some_iff.1 c).1 with h|h|h
 ·rw[b] at h;cases h
 ·exact h
 ·exact absurd e (aoC p f g hi d j h)
theorem aoE{s i:Nat}{r U:List Nat}{A:Oper}{v:Value}{L:Array Bool->Act->Prop}(hi:ops[i]?=some A)(u:∀(j:Nat) (o:Oper) B b,ops[j]?=some o->o.op≠ .select B b)
 (D:xy md ops s U=true) (S:xA md ops [s] r=true) (q:∀j∈U,j∉s::r) (F:i∈U)
 (w:∀c a,L c a->∀j∈Region.ready md ops c,j∈s::r):
 ∀(f:Nat) (c:Array Bool) (a:Act),HInv md ops (s::r) c->covers ops U (s::r) c->
  (∀j z,ops[j]?=some z->j≠i->c.getD j true=false->(∀e∈z.after,Region.binds md e=true->e.on≠i)->A.apart ops z=true)->
  i∈Region.ready md ops c->YieldsIn P ops C A v a->
  JH P md ops C U L f (c.setIfInBounds i true) (a.put A.dst v)->JH P md ops C U L (f+1) c a:=by
 intro f;induction f with
 |zero=>
  intro c a p K _ hr M H;have g:=(mem_ready.1 hr).1;refine⟨fun h=>UW,fun j x=>?_⟩;have m:=afA p K D S F g x;refine⟨m,?_⟩;by_cases d:j=i
  ·subst d;exact M.qOp hi H
  ·exact absurd (w _ _ H j (Fj x d)) (q j m)
 |succ f ih=>
  intro c a p K l hr M H;have g:=(mem_ready.1 hr).1;refine⟨fun h=>UW,fun j x=>?_⟩;have m:=afA p K D S F g x;refine⟨m,?_⟩;by_cases d:j=i
  ·subst d;exact M.qOp hi H
  ·have W:=(H.2 j (Fj x d)).2
   obtain⟨t,z,y,E⟩:=mem_ready.1 x;have I:∀e∈z.after,Region.binds md e=true->e.on≠i:=fun e Z Y N=>by
    have D:=E e Z Y;rw[N,getD_both g] at D;cases D
   have X:=qOp_put y (l j z y d t I) (fun B b=>u i A B b hi) (fun B b=>u j z B b y) M W;have n:∀k J,ops[k]?=some J->k≠i->(c.setIfInBounds j true).getD k true=false->
    (∀e∈J.after,Region.binds md e=true->e.on≠i)->A.apart ops J=true:=fun k J hk O g R=>by
    refine l k J hk O ?_ R;by_cases G:j=k
    ·subst G;exact t
    ·rw[LX true G] at g;exact g
   refine qOp_mono (fun V T=>ih (c.setIfInBounds j true) V (p.set x (q j m)) (K.set j) n (Fj hr (Ne.symm d)) T.1 ?_) X;rw[ag2 _ _ d];exact T.2
theorem afB{s:Nat}{r U:List Nat}{Lq:Act->Prop}(e:Region.noSelect ops=true)(o:xy md ops s U=true)(q:xA md ops [s] r=true)(c:∀j∈U,j∉s::r):
 ∀(l:List Nat) (listed:Array Bool) (a:Act),(∀j∈l,j∈U)->(∀j∈l,j<ops.size)->HInv md ops (s::r) listed->covers ops U (s::r) listed->
 JF md ops (s::r) l listed=true->wpQuiet P ops C Lq (jC ops l) a->
 JH P md ops C U (fun b n=>((Region.ready md ops b).all (fun j=>(s::r).contains j)&&Bd md ops (s::r) b)=true/\Lq n) l.length listed a
 |[],listed,a,_,_,_,_,hB,h=>⟨by simpa[JF] using hB,h⟩
 |k::l,listed,a,hl,hlt,p,hc,hB,h=>by
  obtain⟨t,d⟩:∃t,ops[k]?=some t:=⟨ops[k]'(hlt k (rP ..)),xP _⟩;simp only[JF,rV] at hB;obtain⟨⟨y,x⟩,i⟩:=hB;have g:k∈Region.ready md ops listed:=by simpa using y
  rw[Y8 d] at h;have m:qOp P ops C k (wpQuiet P ops C Lq (jC ops l)) a:=by unfold qOp;simp only[d];exact h
  obtain⟨v,z,u⟩:=yieldsIn_of_qOp d m;exact aoE d (aay e) o q c (hl k (rP ..)) (fun b n w j f=>by
   have:=w.1;simp only[rV] at this;simpa using List.all_eq_true.1 this.1 j f) l.length listed a p hc (aaz d x) g z
   (afB e o q c l _ _ (fun j f=>hl j (vV _ f)) (fun j f=>hlt j (vV _ f)) (p.set g (c k (hl k (rP ..)))) (hc.set k) i u)
theorem aoF(m:ops[i]?=some o)(h:Y9 ops i=true){K:Act->Wd->Prop}{a:Act}(c:wpOp P ops Q i K a w):∃v,Yields P ops o v a/\K (a.put o.dst v) w:=by
 unfold Y9 at h;rw[m] at h;have l:∃r:Result Next,(∃v,r=.ok (.value v) w/\∀w,(execOp a.eval o).run P w=.ok (.value v) w)\/(r=.halt (.stuck "") w/\∀g:Act->Wd->Prop,¬o.wp P a w g Q):=by
  cases e:o.op<;>simp only[e] at h<;>first|(cases h;done)|skip
  case move x=>exact⟨_,.inl ⟨_,rfl,fun w=>BigFrame.run_move x e w⟩⟩
  case assign x=>exact⟨_,.inl ⟨_,rfl,fun w=>BigFrame.run_assign x e w⟩⟩
  case extract x k=>
   (have b:∀w,(execOp a.eval o).run P w=((Instr.extract (a.eval x) k).run P w).andThen fun v w=>.ok (.value v) w:=fun w=>by unfold execOp;simp only[e,ng,uM]);cases hv:a.eval x with
   |tuple vs=>
    cases hk:vs[k]? with
    |some v=>exact⟨_,.inl ⟨v,rfl,fun w=>by rw[b,hv];simp[Instr.extract,hk]⟩⟩
    |none=>
     refine⟨_,.inr ⟨rfl,fun g c=>?_⟩⟩;unfold Oper.wp at c;rw[b,hv] at c;simp[Instr.extract,hk,Oper.upon] at c
   |_=>
    refine⟨_,.inr ⟨rfl,fun g c=>?_⟩⟩;unfold Oper.wp at c;rw[b,hv] at c;simp[Instr.extract,Oper.upon] at c
 have f:((execOp a.eval o).runT P w #[]).2= #[]:=by
  cases e:o.op<;>simp only[e] at h<;>first|(cases h;done)|skip
  case move x=>unfold execOp;rw[e];rfl
  case assign x=>unfold execOp;rw[e];rfl
  case extract x k=>
   unfold execOp;rw[e];simp only[Instr.extract];split
   ·split<;>rfl
   rfl
 unfold wpOp at c;simp only[m] at c;split at c
 ·next hwant=>
  rcases c with c|⟨d,_⟩
  ·obtain⟨_,⟨v,_,b⟩|⟨_,j⟩⟩:=l
   ·unfold Oper.wp at c
    rw[b w] at c;exact⟨_,.inl ⟨hwant,b⟩,c⟩
   exact absurd c (j _)
  unfold Oper.asks at d;rw[f] at d;simp at d
 next hwant=>exact⟨_,.inr ⟨by simpa using hwant,rfl⟩,c⟩
theorem Zc(Z:Region.noSelect ops=true)(f:∀c a d v w,Q (.panic c) (a.put d v) w->Q (.panic c) a w):∀(l:List Nat) (listed:Array Bool) (a:Act) (w:Wd),(∀j∈l,j<ops.size)->
 Bd md ops l listed=true->wpList P ops Q (jC ops l) a w->wpAny P md ops Q l.length listed a w
 |[],_,_,_,_,hB,h=>⟨by simpa[Bd] using hB,h⟩
 |k::l,listed,a,w,hlt,hB,h=>by
  obtain⟨o,b⟩:∃o,ops[k]?=some o:=⟨ops[k]'(hlt k (rP ..)),xP _⟩;rw[Y8 b] at h;have n:wpOp P ops Q k (wpList P ops Q (jC ops l)) a w:=by unfold wpOp;simp only[b];exact h
  have e:∀j∈l,j<ops.size:=fun j s=>hlt j (vV _ s);simp only[Bd,aax,rV,aak] at hB;rcases hB with⟨hr,hB'⟩|⟨⟨⟨hr,hf⟩,T⟩,hB'⟩
  ·refine⟨fun m=>(by rw[hr] at m;cases m),fun i hi=>?_⟩
   rw[hr] at hi;have g:i=k:=Nc;subst g;exact wpOp_mono (fun p w' q=>Zc Z f l _ p w' e hB' q) n
  obtain⟨v,t,r⟩:=aoF b T n;exact wpAny_take b Z hf hr (fun c a w=>f c a _ _ w) t (Zc Z f l _ _ _ e hB' r)
def Es(P:Program)(ops:Array Oper)(L:Act->Prop):List Oper->Act->Prop
 |[],a=>L a
 |o::r,a=> ∃v,Yields P ops o v a/\Es P ops L r (a.put o.dst v)
theorem uj{a:Act}(h:L a):Es P ops L [] a:=h
theorem iG{a:Act}{r:List Oper}(c:Region.wanted o (yielded ops a.tmps)=true)(b:∀w,(execOp a.eval o).run P w=.ok (.value v) w)(h:Es P ops L r (a.put o.dst v)):Es P ops L (o::r) a:=
 ⟨v,.inl ⟨c,b⟩,h⟩
theorem afC{s:Nat}{r U:List Nat}(Z:Region.noSelect ops=true)(x:∀c a d v w,Q (.panic c) (a.put d v) w->Q (.panic c) a w)(D:xy md ops s U=true)(E:xA md ops [s] r=true)(f:∀j∈U,j∉s::r)
 (n:∀j∈U,j<ops.size) (q:∀j∈s::r,j<ops.size):∀(l:List Nat) (listed:Array Bool) (a:Act) (w:Wd),(∀j∈l,j<ops.size)->listed.size=ops.size->
 (∀j J,ops[j]?=some J->listed.getD j false=true->∀e∈J.after,Region.binds md e=true->listed.getD e.on false=true)->JG md ops U (s::r) l listed=true->C w->
 Es P ops (fun M=>wpQuiet P ops C (fun N=> ∀w',C w'->wpList P ops Q (jC ops (s::r)) N w') (jC ops U) M) (jC ops l) a->wpAny P md ops Q (l.length+(U.length+(s::r).length)) listed a w
 |[],listed,a,w,_,hsz,hcl,hB,hC,h=>by
  simp only[JG,rV] at hB;obtain⟨⟨R,F⟩,g⟩:=hB;have p:HInv md ops (s::r) listed:=⟨hsz,hcl,fun t A=>by
   have:=List.all_eq_true.1 F t A;simpa using this⟩
  have u:covers ops U (s::r) listed:=fun i hi=>by
   have:=List.all_eq_true.1 R i (List.mem_range.2 hi);simp only[aax] at this;rcases this with(h|h)|h
   ·exact .inl h
   ·exact .inr (.inl (by simpa using h))
   exact .inr (.inr (by simpa using h))
  have H:=afB (P:=P) (C:=C) Z D E f U listed a (fun j y=>y) n p u g h;rw[aaf,qK];exact afz (fun b L w' B G=>Zc Z x (s::r) b L w' q (by have:=G.1;simp only[rV] at this;exact this.2) (G.2 w' B)) _ _ _ _ hC H
 |k::l,listed,a,w,hlt,hsz,hcl,hB,hC,h=>by
  obtain⟨K,o⟩:∃K,ops[k]?=some K:=⟨ops[k]'(hlt k (rP ..)),xP _⟩;simp only[JG,rV] at hB;obtain⟨⟨I,S⟩,g⟩:=hB;rw[Y8 o] at h;obtain⟨v,T,O⟩:=h;have z:k∈Region.ready md ops listed:=by simpa using I
  have m:=(HInv.set (tl:=[]) ⟨hsz,hcl,fun t F=>by cases F⟩ z (fun h=>qj)).closed;rw[show(k::l).length+(U.length+(s::r).length)=(l.length+(U.length+(s::r).length))+1 by simp only[xR];omega];exact wpAny_take o Z S I (fun c a w=>x c a _ _ w) T (afC Z x D E f n q l _ _ _ (fun j y=>hlt j (vV _ y)) (by simpa using hsz) m g hC O)
theorem uk(e U:List Nat)(s:Nat)(r:List Nat)(C:Wd->Prop){D:Nat}{a:Act}{w:Wd}{l:List Oper}(O:P.follows .mixedOrders=true)(o:afx .any l.toArray e U (s::r)=true)(B:e.length+(U.length+(s::r).length)=l.length)(y:C w.drew)
 (A:∀c a d v w,Q (.panic c) (a.put d v) w->Q (.panic c) a w)
 (h:Es P l.toArray (fun q=>wpQuiet P l.toArray C (fun t=> ∀w',C w'->wpList P l.toArray Q (jC l.toArray (s::r)) t w') (jC l.toArray U) q) (jC l.toArray e) a):(Code.region D l.toArray true).wp P Q a w:=by
 simp only[afx,rV] at o;obtain⟨⟨⟨⟨⟨⟨Z,u,x⟩,b⟩,f⟩,g⟩,m⟩,z⟩:=o;have n:∀{l':List Nat},Qn l.toArray l'=true->∀j∈l',j<l.toArray.size:=fun h j i=>by
  have:=List.all_eq_true.1 h j i;simpa using this
 refine wp_region_any O ?_;have H:=afC (P:=P) (md:=.any) (C:=C) Z A u x (fun j i k=>by
  have:=List.all_eq_true.1 b j i;rw[List.contains_iff_mem.2 k] at this;cases this) (n g) (n m) e (Array.replicate l.toArray.size false) a {w with drawn:=w.drawn+1} (n f) ay (fun j E _ p=>by rw[getD_replicate_false] at p;cases p) z y h
 rw[B] at H;simpa using H
end
section
variable {P:Program} {ops:Array Oper} {C:Wd->Prop} {o:Oper} {a:Act} {K:Act->Prop}
theorem lK(j:Region.wanted o (yielded ops a.tmps)=true)(ty:TypeId)(x:Operand)(h:o.op=.load ty x)(b f:Nat)(l:a.eval x=.pointer (some ⟨b,f,none⟩))(c:List Value)(d:TypeDesc)(e:∀W,C W->W.rangeAt b f c)
 (i:P.underlying ty=some d) (U:d.isRow=true) (hi:(P.info? ty).map (·.size)=some c.length) (k:K (a.put o.dst (.agg c.toArray))):if Region.wanted o (yielded ops a.tmps) then o.quiet P a C K else K (a.put o.dst undef):=by
 rw[if_pos j];refine⟨_,fun W g=>?_,k⟩;unfold Oper.quietAt execOp;simp only[h,l,Instr.loadAt,Instr.sureAddr,ng,uM,qh,run_loadVar_mid W b f ty c d (e W g) i U hi];exact⟨rfl,rfl⟩
end
theorem aoJ{k:Array Oper}{o:Oper}{a:Act}{w:Wd}{K:Act->Wd->Prop}{Q:Exit->Act->Wd->Prop}{E:Prop}(hgd:o.guard=none)(s x:Operand)
 (C:o.op=.call {callee:=.builtin .append,args:= #[s,x],argTypes:= #[26,26]})
 (base:Nat) (A:Oz) (c:Nat) (xs:Lz) (Z:a.eval s=.slice A xs.length c) (f:Own w base A c xs)
 (B:Nat) (A2:Oz) (c2:Nat) (ys:Lz) (H:a.eval x=.slice A2 ys.length c2) (F:Rs w B A2 ys) (I:xs.length+ys.length<=17592186044416) (e:base<=w.heap.size)
 (h:∀i c' w',Own w' base i c' (xs++ys)->w.grownBy w' (A.map (·.block))->(i=A\/∃g,i=some ⟨g,0,none⟩/\w.heap.size<=g)->K (a.put o.dst (.slice i (xs.length+ys.length) c')) w'):if Region.wanted o (yielded k a.tmps)=true then Oper.wp Tryz.prog o a w K Q else E:=by
 have G:Region.wanted o (yielded k a.tmps)=true:=MO;rw[if_pos G];obtain⟨L,hi,m,n,D⟩:=mJ GY;obtain⟨J,w',j,q,h3,h4⟩:=yh (P:=Tryz.prog) w base 26 o.type 3 L (.int .i64 0) 1 8 qH hi m n D rfl ah _ _ _ f B A2 ys.length c2 (au ys) F (o9 ys) jg ah e;have v:=fun a t=>Own.lt f a t;obtain⟨i,c',rfl,p⟩:=Wj q (GV xs ys);have u:(xs++ys).length=xs.length+ys.length:=ay;unfold Oper.wp execOp;simp only[C,resolve,invoke,builtin,ng,uM,qh,ut,uu,uw,Z,H,j];rw[u];refine h i c' w' p zF ?_;have y:=p.2;rcases y with⟨hv,h0⟩|⟨g,cap,d,hv,_⟩
 ·injection hv with hA _ _
  exact aiL
 ·injection hv with hA _ _
  exact ah4
theorem um{i:Array Oper}{o:Oper}{a:Act}{w:Wd}{K:Act->Wd->Prop}{Q:Exit->Act->Wd->Prop}{E:Prop}(e:o.guard=none)(s x:Operand)
 (k:o.op=.call {callee:=.builtin .append,args:= #[s,x],argTypes:= #[26,26]})
 (base:Nat) (A:Oz) (c n:Nat) (xs:Lz) (Z:a.eval s=.slice A n c) (j:xs.length=n) (f:Own w base A c xs)
 (B:Nat) (A2:Oz) (c2 m q:Nat) (ys:Lz) (r:a.eval x=.slice A2 m c2) (O:ys.length=m) (l:n+m=q) (p:Rs w B A2 ys) (I:q<=17592186044416) (b:base<=w.heap.size)
 (h:∀d c' w',Own w' base d c' (xs++ys)->w.grownBy w' (A.map (·.block))->(d=A\/∃g,d=some ⟨g,0,none⟩/\w.heap.size<=g)->K (a.put o.dst (.slice d q c')) w'):if Region.wanted o (yielded i a.tmps)=true then Oper.wp Tryz.prog o a w K Q else E:=by
 subst j;subst O;subst l;exact aoJ e s x k base A c xs Z f B A2 c2 ys r p I b h
theorem rH{p:Addr}(o:Obj)(h:w.cell? p=some v):(w.alloc o).cell? p=some v:=by
 have a:p.block<w.heap.size:=by
  exact VO
 exact((baqq w o).cell a).trans h
def Lits(a:Nat)(w w':Wd):Prop:=∀(p:Addr) v,a<=p.block->w.cell? p=some v->w'.cell? p=some v
theorem Ze{w':Wd}(e:w.grownBy w' (A.map (·.block)))(d:∀a,A=some a->a.block<c):Lits c w w':=fun p v g h=>by
 have b:p.block<w.heap.size:=by
  exact VO
 have f:=e.block p.block b (by
  cases A with
  |none=>simp
  |some a=>
   have:=d a rfl;simp;omega)
 unfold World.cell? at*
 rw[f];exact h
theorem Lits.cell{a:Nat}{w':Wd}{p:Addr}(h:Lits a w w')(c:a<=p.block)(b:w.cell? p=some v):w'.cell? p=some v:=h p v c b
theorem Qp{p:Addr}(h:w.cell? p=some v):p.block<w.heap.size:=by
 exact VO
theorem JI(h:g=w.heap.size):(w.alloc (.cells #[v] t)).cell? ⟨g,0,none⟩=some v:=by rw[h];exact oH w v t
theorem xB{a:Array Value}(h:g=w.heap.size)(b:a[i]?=some v):(w.alloc (.cells a t)).cell? ⟨g,i,none⟩=some v:=by rw[h];exact(Blk.cell (Blk.new w t a) i).trans b
theorem Qq{p:Addr}(h:w.cell? p=some v):w.drew.cell? p=some v:=h
theorem Qr{a b:Int}(d:w.cell? ⟨g,0,none⟩=some (.int .i64 a))(e:w.cell? ⟨g,1,none⟩=some (.int .i64 b))(G:g<B):Rs w B (some ⟨g,0,none⟩) [a,b]:=
 ⟨qP,fun _=>⟨_,rfl,G,fun j u c=>by
   match j,c with
   |0,c=>simp[au] at c;subst c;rw[lN];exact d
   |1,c=>simp[au] at c;subst c;rw[lN];exact e⟩⟩
theorem Qs(g i:Nat):(⟨g,2,none⟩:Addr).add i=⟨g,2+i,none⟩:=aaW
theorem aoK{a b c:Int}(f:w.cell? ⟨g,2,none⟩=some (.int .i64 a))(h:w.cell? ⟨g,3,none⟩=some (.int .i64 b))(i:w.cell? ⟨g,4,none⟩=some (.int .i64 c))(k:w.cell? ⟨g,5,none⟩=some (.int .i64 d))(G:g<B):Rs w B (some ⟨g,2,none⟩) [a,b,c,d]:=
 ⟨qP,fun _=>⟨_,rfl,G,fun j u e=>by
   match j,e with
   |0,e=>simp[au] at e;subst e;rw[Qs];exact f
   |1,e=>simp[au] at e;subst e;rw[Qs];exact h
   |2,e=>simp[au] at e;subst e;rw[Qs];exact i
   |3,e=>simp[au] at e;subst e;rw[Qs];exact k⟩⟩
def Hop(w:Wd)(A:Oz)(w':Wd):Prop:=∀(p:Addr) v,(∀a,A=some a->a.block≠p.block)->w.cell? p=some v->w'.cell? p=some v
theorem Et{w':Wd}(b:w.grownBy w' (A.map (·.block))):Hop w A w':=fun p v d h=>by
 have c:=b.block p.block (Qp h) (by
  cases A with
  |none=>simp
  |some a=>
   have:=d a rfl;simp;omega)
 unfold World.cell? at*
 rw[c];exact h
theorem Hop.cell{w':Wd}{p:Addr}(h:Hop w A w')(c:∀a,A=some a->a.block≠p.block)(b:w.cell? p=some v):w'.cell? p=some v:=h p v c b
abbrev Box8(g:Nat)(W:Wd)(a b c d e f x y:Int):Prop:=W.cell? ⟨g,0,none⟩=some (.int .i64 a)/\W.cell? ⟨g,1,none⟩=some (.int .i64 b)/\W.cell? ⟨g,2,none⟩=some (.int .i64 c)/\W.cell? ⟨g,3,none⟩=some (.int .i64 d)/\W.cell? ⟨g,4,none⟩=some (.int .i64 e)/\W.cell? ⟨g,5,none⟩=some (.int .i64 f)/\W.cell? ⟨g,6,none⟩=some (.int .i64 x)/\W.cell? ⟨g,7,none⟩=some (.int .i64 y)
theorem Box8.alloc{a b c f:Int}(h:Box8 g W a b c d e f x y)(o:Obj):Box8 g (W.alloc o) a b c d e f x y:=
 ⟨rH o h.1,rH o h.2.1,rH o h.2.2.1,rH o h.2.2.2.1,rH o h.2.2.2.2.1,rH o h.2.2.2.2.2.1,rH o h.2.2.2.2.2.2.1,rH o h.2.2.2.2.2.2.2⟩
theorem Box8.drew{a b c f:Int}(h:Box8 g W a b c d e f x y):Box8 g W.drew a b c d e f x y:=h
theorem Box8.hop{j:Wd}{a b c f:Int}(h:Box8 g W a b c d e f x y)(k:Hop W A j)(i:∀l,A=some l->l.block≠g):Box8 g j a b c d e f x y:=
 ⟨k _ _ i h.1,k _ _ i h.2.1,k _ _ i h.2.2.1,k _ _ i h.2.2.2.1,k _ _ i h.2.2.2.2.1,k _ _ i h.2.2.2.2.2.1,k _ _ i h.2.2.2.2.2.2.1,k _ _ i h.2.2.2.2.2.2.2⟩
theorem Box8.new(w:Wd)(t:TypeId)(a b c d e f x y:Int):Box8 w.heap.size (w.alloc (.cells #[.int .i64 a,.int .i64 b,.int .i64 c,.int .i64 d,.int .i64 e,.int .i64 f,.int .i64 x,.int .i64 y] t)) a b c d e f x y:=
 ⟨xB rfl rfl,xB rfl rfl,xB rfl rfl,xB rfl rfl,xB rfl rfl,xB rfl rfl,xB rfl rfl,xB rfl rfl⟩
theorem Box8.lt{a b c f:Int}(h:Box8 g W a b c d e f x y):g<W.heap.size:=Qp (p:=⟨g,0,none⟩) h.1
theorem Box8.rs{a b c f:Int}(h:Box8 g W a b c d e f x y)(G:g<B):Rs W B (some ⟨g,2,none⟩) [c,d,e,f]:=aoK h.2.2.1 h.2.2.2.1 h.2.2.2.2.1 h.2.2.2.2.2.1 G
theorem Qu(h:w.cell? ⟨g,0,none⟩=some (.int .i64 y))(G:g<B):Rs w B (some ⟨g,0,none⟩) [y]:=
 ⟨qP,fun _=>⟨_,rfl,G,fun j u a=>by
   match j,a with
   |0,a=>simp[au] at a;subst a;rw[lN];exact h⟩⟩
structure N3(w wr:Wd)(ps:Lz)(A1:Oz)(c1:Nat)(v:Lz)(A2:Oz)(c2:Nat)(u:Lz)(A3:Oz)(c3:Nat)(m:Lz):Prop where
 P:IB wr w.heap.size 81 ps
 O1:Own wr (w.heap.size+1) A1 c1 v
 O2:Own wr (w.heap.size+1) A2 c2 u
 O3:Own wr (w.heap.size+1) A3 c3 m
 d12:∀a b,A1=some a->A2=some b->a.block≠b.block
 d13:∀a b,A1=some a->A3=some b->a.block≠b.block
 d23:∀a b,A2=some a->A3=some b->a.block≠b.block
 B:Bw w wr
theorem Eu(h:Own w base A c xs):∀k,A.map (·.block)=some k->base<=k:=fun k hk=>by
 exact ajd
theorem Ez{D:Oz}(h:∀a b,A=some a->D=some b->a.block≠b.block):∀a,D=some a->some a.block≠A.map (·.block):=fun b c e=>by
 cases A with
 |none=>cases e
 |some a=>
  injection e with e;exact h a b rfl c e.symm
theorem ED{e D:Oz}(j:Own w base D c xs)(i:e=A\/∃g,e=some ⟨g,0,none⟩/\w.heap.size<=g)(h:∀a b,A=some a->D=some b->a.block≠b.block):∀a b,e=some a->D=some b->a.block≠b.block:=fun a b d f=>by
 rcases i with rfl|⟨g,rfl,G⟩
 ·exact h a b d f
 injection d with d;subst d;have:=(j.lt b f).2;show g≠b.block;omega
section
variable {w wr w':Wd} {ps v u m x:Lz} {A1 A2 A3 A':Oz} {c1 c2 c3 c':Nat}
theorem N3.size(s:N3 w wr ps A1 c1 v A2 c2 u A3 c3 m):w.heap.size+1<=wr.heap.size:=Blk.lt s.P
theorem N3.alloc(s:N3 w wr ps A1 c1 v A2 c2 u A3 c3 m)(o:Obj):N3 w (wr.alloc o) ps A1 c1 v A2 c2 u A3 c3 m:=⟨Blk.alloc s.P o,s.O1.alloc o,s.O2.alloc o,s.O3.alloc o,s.d12,s.d13,s.d23,s.B.alloc s.B.size o⟩
theorem N3.drew(s:N3 w wr ps A1 c1 v A2 c2 u A3 c3 m):N3 w wr.drew ps A1 c1 v A2 c2 u A3 c3 m:=⟨Blk.drew s.P,s.O1.drew,s.O2.drew,s.O3.drew,s.d12,s.d13,s.d23,s.B.drew⟩
theorem N3.app1(s:N3 w wr ps A1 c1 v A2 c2 u A3 c3 m)(c:Own w' (w.heap.size+1) A' c' x)(a:wr.grownBy w' (A1.map (·.block)))(b:A'=A1\/∃g,A'=some ⟨g,0,none⟩/\wr.heap.size<=g):N3 w w' ps A' c' x A2 c2 u A3 c3 m:=
 ⟨Blk.grown s.P a (fun e=>by have:=Eu s.O1 _ e.symm;omega),c,s.O2.kept a (Ez s.d12),s.O3.kept a (Ez s.d13),ED s.O2 b s.d12,ED s.O3 b s.d13,s.d23,s.B.grown a s.B.size (fun k d=>by have:=Eu s.O1 k d;omega)⟩
theorem N3.app2(s:N3 w wr ps A1 c1 v A2 c2 u A3 c3 m)(i:Own w' (w.heap.size+1) A' c' x)(f:wr.grownBy w' (A2.map (·.block)))(h:A'=A2\/∃g,A'=some ⟨g,0,none⟩/\wr.heap.size<=g):N3 w w' ps A1 c1 v A' c' x A3 c3 m:=
 ⟨Blk.grown s.P f (fun e=>by have:=Eu s.O2 _ e.symm;omega),s.O1.kept f (Ez fun a b c d=>(s.d12 b a d c).symm),i,s.O3.kept f (Ez s.d23),fun a b c d=>(ED s.O1 h (fun a b c d=>(s.d12 b a d c).symm) b a d c).symm,s.d13,ED s.O3 h s.d23,s.B.grown f s.B.size (fun k j=>by have:=Eu s.O2 k j;omega)⟩
theorem N3.app3(s:N3 w wr ps A1 c1 v A2 c2 u A3 c3 m)(i:Own w' (w.heap.size+1) A' c' x)(f:wr.grownBy w' (A3.map (·.block)))(h:A'=A3\/∃g,A'=some ⟨g,0,none⟩/\wr.heap.size<=g):N3 w w' ps A1 c1 v A2 c2 u A' c' x:=
 ⟨Blk.grown s.P f (fun e=>by have:=Eu s.O3 _ e.symm;omega),s.O1.kept f (Ez fun a b c d=>(s.d13 b a d c).symm),s.O2.kept f (Ez fun a b c d=>(s.d23 b a d c).symm),i,s.d12,fun a b c d=>(ED s.O1 h (fun a b c d=>(s.d13 b a d c).symm) b a d c).symm,fun a b c d=>(ED s.O2 h (fun a b c d=>(s.d23 b a d c).symm) b a d c).symm,s.B.grown f s.B.size (fun k j=>by have:=Eu s.O3 k j;omega)⟩
end
theorem Qz{z p:Nat}(e:z|||p=z+p)(h:z+p<4294967296):bits BinOp.or IntKind.i64 (z:Nat) (p:Nat)=((z+p:Nat):Int):=by
 have a:(BitVec.ofInt 64 (z:Int)|||BitVec.ofInt 64 (p:Int)).toNat=z+p:=by
  rw[BitVec.ofInt_natCast,BitVec.ofInt_natCast,aam,BitVec.toNat_ofNat,BitVec.toNat_ofNat,zg ah,zg ah,e]
 show IntKind.i64.wrap ((BitVec.ofInt 64 (z:Int)|||BitVec.ofInt 64 (p:Int)).toNat:Int)=_;rw[a,mM];omega
section
variable {P:Program} {ops:Array Oper} {Q:Exit->Act->Wd->Prop} {md:Region.Mode} {S T:Wd->Prop} {E:Nat->Bool}
def mZ(P:Program)(md:Region.Mode)(ops:Array Oper)(Q:Exit->Act->Wd->Prop)(S:Wd->Prop)(E:Nat->Bool):Nat->Array Bool->Act->Wd->Prop
 |0,listed,a,w=>Region.ready md ops listed=[]/\Q .normal a w
 |fuel+1,listed,a,w=>
  (Region.ready md ops listed=[]->Q .normal a w)/\
  ∀i∈Region.ready md ops listed,wpOp P ops Q i (fun b w'=>(E i=true\/(S w->S w'))/\mZ P md ops Q S E fuel (listed.setIfInBounds i true) b w') a w
theorem agp:∀(b:Nat) (listed:Array Bool) (a:Act) (w:Wd),mZ P md ops Q S E b listed a w->wpAny P md ops Q b listed a w
 |0,_,_,_,h=>h
 |b+1,_,_,_,h=>⟨h.1,fun i hi=>wpOp_mono (fun c w' d=>agp b _ c w' d.2) (h.2 i hi)⟩
theorem agq{i:Nat}{s:Oper}{v:Value}(hi:ops[i]?=some s)(q:∀(j:Nat) (o:Oper) u b,ops[j]?=some o->o.op≠ .select u b)
 (N:∀c a w,Q (.panic c) (a.put s.dst v) w->Q (.panic c) a w) (O:∀j w w',Region.waitsFor md ops j i=false->(E j=true\/(S w->S w'))->T w->T w'):
 ∀(f:Nat) (d:Array Bool) (a:Act) (w:Wd),
  (∀j t,ops[j]?=some t->j≠i->d.getD j true=false->(∀e∈t.after,Region.binds md e=true->e.on≠i)->s.apart ops t=true)->
  i∈Region.ready md ops d->YieldsIf P ops T s v a->T w->
  mZ P md ops Q S E f (d.setIfInBounds i true) (a.put s.dst v) w->mZ P md ops Q S E (f+1) d a w:=by
 intro f;induction f with
 |zero=>
  intro d a w _ hr G F H;refine⟨fun h=>UW,fun j y=>?_⟩;by_cases g:j=i
  ·subst g;exact G.wpOp hi F ⟨.inr id,H⟩
  ·have:=Fj y g
   rw[H.1] at this;cases this
 |succ f ih=>
  intro d a w l hr G F H;refine⟨fun h=>UW,fun j y=>?_⟩;by_cases g:j=i
  ·subst g;exact G.wpOp hi F ⟨.inr id,H⟩
  ·have C:=H.2 j (Fj y g)
   have m:=(mem_ready.1 hr).1;obtain⟨p,t,r,x⟩:=mem_ready.1 y;have A:∀e∈t.after,Region.binds md e=true->e.on≠i:=fun e U R I=>by
    have C:=x e U R;rw[I,getD_both m] at C;cases C
   have W:Region.waitsFor md ops j i=false:=by
    cases h0:Region.waitsFor md ops j i with
    |false=>rfl
    |true=>exact absurd y (Za h0 m)
   have M:=wpOp_putIf r (l j t r g p A) (fun u b=>q i s u b hi) (fun u b=>q j t u b r) N G C;have n:∀k B,ops[k]?=some B->k≠i->(d.setIfInBounds j true).getD k true=false->
    (∀e∈B.after,Region.binds md e=true->e.on≠i)->s.apart ops B=true:=fun k B V J m K=>by
    refine l k B V J ?_ K;by_cases z:j=k
    ·subst z;exact p
    ·rw[LX true z] at m;exact m
   refine wpOp_mono (fun L w' D=>⟨D.2.1,ih (d.setIfInBounds j true) L w' n (Fj hr (Ne.symm g)) D.1 (O j w w' W D.2.1 F) ?_⟩) M;rw[ag2 _ _ g];exact D.2.2
def ap2(md:Region.Mode)(ops:Array Oper)(a:List Nat)(i:Nat):Bool:=a.all fun j=>Region.waitsFor md ops j i
section
variable {i:Nat} {oi:Oper} {v:Value} {fuel:Nat} {listed:Array Bool} {a:Act} {w:Wd} {es:List Nat}
theorem dG(i:Nat)(v:Value)(hi:ops[i]?=some oi)(f:YieldsIf P ops (fun _=>True) oi v a)(h:mZ P md ops Q S E fuel (listed.setIfInBounds i true) (a.put oi.dst v) w)
 (Z:Region.noSelect ops=true:=by kernel_rfl) (d:Region.free md ops listed i=true:=by kernel_rfl) (e:(Region.ready md ops listed).contains i=true:=by kernel_rfl) (b:∀c a w,Q (.panic c) (a.put oi.dst v) w->Q (.panic c) a w:=by exact fun _ _ _ h=>h):mZ P md ops Q S E (fuel+1) listed a w:=
 agq hi (aay Z) b (fun _ _ _ _ _ _=>trivial) fuel listed a w (aaz hi d) (by simpa using e) f trivial h
theorem bu{P:Program}{ops:Array Oper}{md:Region.Mode}{S:World->Prop}{E:Nat->Bool}{oi:Oper}{fuel:Nat}{listed:Array Bool}{a:Act}{w:World}(i:Nat)(v:Value)(hi:ops[i]?=some oi)(h:mZ P md ops Q S E fuel (listed.setIfInBounds i true) (a.put oi.dst v) w)(f:YieldsIf P ops (fun _=>True) oi v a:=by exact .inl ⟨by rfl,fun W _=>by go_simp⟩)(Z:Region.noSelect ops=true:=by kernel_rfl)(d:Region.free md ops listed i=true:=by kernel_rfl)(e:(Region.ready md ops listed).contains i=true:=by kernel_rfl)(b:∀c a w,Q (.panic c) (a.put oi.dst v) w->Q (.panic c) a w:=by exact fun _ _ _ h=>h):mZ P md ops Q S E (fuel+1) listed a w:=dG i v hi f h Z d e b
theorem kF(i:Nat)(v:Value)(hi:ops[i]?=some oi)(m:YieldsIf P ops S oi v a)(b:S w)(h:mZ P md ops Q S es.contains fuel (listed.setIfInBounds i true) (a.put oi.dst v) w)
 (g:ap2 md ops es i=true:=by kernel_rfl) (Z:Region.noSelect ops=true:=by kernel_rfl) (f:Region.free md ops listed i=true:=by kernel_rfl) (k:(Region.ready md ops listed).contains i=true:=by kernel_rfl) (e:∀c a w,Q (.panic c) (a.put oi.dst v) w->Q (.panic c) a w:=by exact fun _ _ _ h=>h):mZ P md ops Q S es.contains (fuel+1) listed a w:=
 agq hi (aay Z) e (fun j w w' l J b=>by
  rcases J with J|J
  ·have d:=List.all_eq_true.1 g j (by simpa using J)
   rw[l] at d;cases d
  ·exact J b) fuel listed a w (aaz hi f) (by simpa using k) m b h
def AllE(P:Program)(md:Region.Mode)(ops:Array Oper)(Q:Exit->Act->Wd->Prop)(S:Wd->Prop)(E:Nat->Bool)(fuel:Nat)(listed:Array Bool)(a:Act)(w:Wd)(rs:List Nat):Prop:=
 ∀i∈rs,wpOp P ops Q i (fun b w'=>(E i=true\/(S w->S w'))/\mZ P md ops Q S E fuel (listed.setIfInBounds i true) b w') a w
theorem AllE.nil:AllE P md ops Q S E fuel listed a w []:=fun _ h=>qj
theorem AllE.cons{rs:List Nat}(g:ops[i]?=some oi)(h:∀b:Act->Wd->Prop,Shut (∀a w',(E i=true\/(S w->S w'))->mZ P md ops Q S E fuel (listed.setIfInBounds i true) a w'->b a w')->if Region.wanted oi (yielded ops a.tmps)=true then Oper.wp P oi a w b Q else b (a.put oi.dst undef) w)
 (Z:AllE P md ops Q S E fuel listed a w rs):AllE P md ops Q S E fuel listed a w (i::rs):=fun j c=>by
 rcases List.mem_cons.1 c with rfl|c
 ·exact wpOp_step g (fun b d=>h b (fun a w' e f=>d a w' ⟨e,f⟩))
 ·exact Z j c
theorem QP{rs:List Nat}(h:AllE P md ops Q S E fuel listed a w rs)(c:Region.ready md ops listed=rs:=by kernel_rfl)(b:rs≠[]:=by simp):mZ P md ops Q S E (fuel+1) listed a w:=
 ⟨fun d=>absurd (c▸d) b,c▸h⟩
theorem iH(i:Nat)(c:ops[i]?=some oi)(h:∀b:Act->Wd->Prop,Shut (∀a w',(E i=true\/(S w->S w'))->mZ P md ops Q S E fuel (listed.setIfInBounds i true) a w'->b a w')->if Region.wanted oi (yielded ops a.tmps)=true then Oper.wp P oi a w b Q else b (a.put oi.dst undef) w)
 (d:Region.ready md ops listed=[i]:=by kernel_rfl):mZ P md ops Q S E (fuel+1) listed a w:=QP (rs:=[i]) (AllE.cons c h AllE.nil) d ay
theorem rO(h:Q .normal a w)(b:Region.ready md ops listed=[]:=by kernel_rfl):∀fuel,mZ P md ops Q S E fuel listed a w
 |0=>⟨b,h⟩
 |_+1=>⟨fun _=>h,by rw[b];simp⟩
theorem xG{b:Nat}(S:Wd->Prop)(E:Nat->Bool)(O:P.follows .mixedOrders=true)
 (h:mZ P .any ops Q S E ops.size (Array.replicate ops.size false) a w.drew):(Code.region b ops true).wp P Q a w:=
 wp_region_any O (agp _ _ _ _ h)
end
end
