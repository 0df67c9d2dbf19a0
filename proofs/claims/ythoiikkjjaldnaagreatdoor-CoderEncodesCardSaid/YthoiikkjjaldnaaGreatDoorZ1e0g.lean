/- Texts that the law rests on. -/
import Derived.Test.YthoiikkjjaldnaaGreatDoorZ1e03
namespace Go.Proofs.YthoiikkjjaldnaaGreatDoor
set_option linter.unusedVariables false
set_option linter.unusedSimpArgs false
set_option maxRecDepth 100000
set_option maxHeartbeats 8000000
open Go.RowKit
structure Mm where
 r:List Int
 p:List Int
 e:List Int
 ga:Int
 pi:Int
 la:Int
 er:Int
 se:Int
 si:Bool
structure Mm.ok(m:Mm):Prop where
 r:m.r.length=8
 p:m.p.length=8
 e:m.e.length=80
def Mm.nums(m:Mm):List Int:=m.r++(m.p++(m.e++[m.ga,m.pi,m.la,m.er,m.se]))
def Mm.cs(m:Mm):List Value:=aj m.r++(aj m.p++(aj m.e++[.int .i64 m.ga,.int .i64 m.pi,.int .i64 m.la,.int .i64 m.er,.int .i64 m.se,.bool m.si]))
def Mm.ag(m:Mm):Array Value:=m.cs.toArray
def MB(w:World)(g:Nat)(m:Mm):Prop:=Blk w g 25 m.ag
def Mm.tl(m:Mm):List Value:=[.int .i64 m.ga,.int .i64 m.pi,.int .i64 m.la,.int .i64 m.er,.int .i64 m.se,.bool m.si]
section
variable {w w':World} {g:Nat} {t:TypeId}
theorem gI{cs:List Value}(h:Blk w g t cs.toArray)(A xs B:List Value)(he:cs=A++(xs++B)){o:Nat}(ho:A.length=o):w.rangeAt g o xs:=fun j v hv=>by
 subst he;subst ho
 rw[Blk.cell h]
 have hj:=(List.getElem?_eq_some_iff.1 hv).1
 simp only[jZ]
 rw[uY ah,Nat.add_sub_cancel_left,mF hj,hv]
theorem aeu{A B:List Value}{x y:Value}{o:Nat}(ho:A.length=o):(A++x::B).toArray.setIfInBounds o y=(A++y::B).toArray:=by
 subst ho
 simp
theorem vT:∀(vs xs A B:List Value) (w:World),Blk w g t (A++(xs++B)).toArray->vs.length=xs.length->Blk (w.setCells g A.length vs) g t (A++(vs++B)).toArray
 |[],[],A,B,w,h,_=>by simpa[World.setCells] using h
 |v::vs,x::xs,A,B,w,h,hl=>by
  have h1:=Blk.set_ h A.length v
  rw[List.cons_append,aeu rfl] at h1
  have h2:=vT vs xs (A++[v]) B (w.setCell ⟨g,A.length,none⟩ v) qo vu
  simpa[World.setCells] using h2
theorem iM{B b:Nat}{a:World}(hb:B<=b):∀(vs:List Value) (o:Nat) (w:World),Below B a w->Below B a (w.setCells b o vs)
 |[],_,_,h=>h
 |v::vs,o,w,h=>iM hb vs (o+1) _ (h.setCell hb v)
theorem dh{k b:Nat}{tt:TypeId}{cs:Array Value}(hk:k≠b):∀(vs:List Value) (o:Nat) (w:World),Blk w k tt cs->Blk (w.setCells b o vs) k tt cs
 |[],_,_,h=>h
 |v::vs,o,w,h=>dh hk vs (o+1) _ (Blk.far h (p:=⟨b,o,none⟩) hk v)
end
section
variable {w w':World} {g:Nat} {m:Mm}
theorem MB.R(h:MB w g m)(_:m.ok):w.rangeAt g 0 (aj m.r):=gI h [] (aj m.r) _ rfl rfl
theorem MB.P(h:MB w g m)(k:m.ok):w.rangeAt g 8 (aj m.p):=gI h (aj m.r) (aj m.p) (aj m.e++m.tl) rfl Oe
theorem MB.E(h:MB w g m)(k:m.ok):w.rangeAt g 16 (aj m.e):=gI h (aj m.r++aj m.p) (aj m.e) m.tl Uo Us
theorem MB.T(h:MB w g m)(k:m.ok):w.rangeAt g 96 m.tl:=gI h (aj m.r++(aj m.p++aj m.e)) m.tl [] (by unfold Mm.cs Mm.tl;simp only[mG,wQ]) Ul
theorem MB.cga(h:MB w g m)(k:m.ok):w.cell? ⟨g,96,none⟩=some (.int .i64 m.ga):=h.T k 0 _ rfl
theorem MB.cpi(h:MB w g m)(k:m.ok):w.cell? ⟨g,97,none⟩=some (.int .i64 m.pi):=h.T k 1 _ rfl
theorem MB.cla(h:MB w g m)(k:m.ok):w.cell? ⟨g,98,none⟩=some (.int .i64 m.la):=h.T k 2 _ rfl
theorem MB.cer(h:MB w g m)(k:m.ok):w.cell? ⟨g,99,none⟩=some (.int .i64 m.er):=h.T k 3 _ rfl
theorem MB.cse(h:MB w g m)(k:m.ok):w.cell? ⟨g,100,none⟩=some (.int .i64 m.se):=h.T k 4 _ rfl
theorem MB.csi(h:MB w g m)(k:m.ok):w.cell? ⟨g,101,none⟩=some (.bool m.si):=h.T k 5 _ rfl
theorem MB.whole(h:MB w g m):w.rangeAt g 0 m.cs:=gI h [] m.cs [] az rfl
theorem MB.frozen(h:MB w g m)(i:Nat):w.frozen? ⟨g,i,none⟩=false:=Blk.frozen h i
theorem MB.new(w:World)(m:Mm):MB (w.alloc (.cells m.ag 25)) w.heap.size m:=Blk.new w _ _
theorem Mm.len(m:Mm)(k:m.ok):m.cs.length=102:=by unfold Mm.cs;simp only[gu,aQ,k.r,k.p,k.e,y9,List.length_nil]
theorem Mm.size(m:Mm)(k:m.ok):m.ag.size=102:=by unfold Mm.ag;rw[List.size_toArray,m.len k]
theorem Mm.one(m:Mm):m.ag.all (·.oneCell')=true:=by
 rw[Array.all_eq_true_iff_forall_mem]
 intro v hv
 have:v∈m.cs:=by simpa[Mm.ag] using hv
 unfold Mm.cs at this
 simp only[List.mem_append,zf,zg,or_false] at this
 rcases this with h|h|h|h|h|h|h|h|h
 ·exact mQ _ _ h
 ·exact mQ _ _ h
 ·exact mQ _ _ h
 all_goals (subst h;rfl)
theorem MB.there(h:MB w g m)(k:m.ok):w.there g 0 102:=fun j hj=>by
 refine⟨?_,Blk.frozen h _⟩
 rw[Blk.cell h]
 have:0+j<m.ag.size:=by rw[m.size k];omega
 rw[Array.getElem?_eq_getElem this];rfl
theorem MB.thereE(h:MB w g m)(k:m.ok):w.there g 16 80:=fun j hj=>by
 have h1:=h.there k (16+j) ah
 rwa [Nat.zero_add] at h1
theorem MB.set_e(h:MB w g m)(k:m.ok)(e:List Int)(he:e.length=80):MB (w.setCells g 16 (aj e)) g {m with e:=e}:=by
 have h0:Blk w g 25 ((aj m.r++aj m.p)++(aj m.e++m.tl)).toArray:=by
  have e1:m.ag=((aj m.r++aj m.p)++(aj m.e++m.tl)).toArray:=Ug
  rw[<-e1];exact h
 have h1:=vT (aj e) (aj m.e) _ _ w h0 (by rw[aQ,aQ,he,k.e])
 have hl:(aj m.r++aj m.p).length=16:=Us
 rw[hl] at h1
 have e2:({m with e:=e}:Mm).ag=((aj m.r++aj m.p)++(aj e++m.tl)).toArray:=Ug
 unfold MB;rw[e2];exact h1
theorem MB.set_tl(h:MB w g m)(k:m.ok)(j:Nat)(v:Value)(m':Mm)(hr:m'.r=m.r)(hp:m'.p=m.p)(he:m'.e=m.e)(ht:m'.tl=m.tl.set j v)(hj:j<6):MB (w.setCell ⟨g,96+j,none⟩ v) g m':=by
 have h1:=Blk.set_ h (96+j) v
 have e0:∀m:Mm,m.ag=((aj m.r++(aj m.p++aj m.e))++m.tl).toArray:=fun m=>Ug
 have hl:(aj m.r++(aj m.p++aj m.e)).length=96:=Ul
 have e1:m.ag.setIfInBounds (96+j) v=m'.ag:=by
  rw[e0 m,e0 m',hr,hp,he,ht]
  simp only[iZ]
  rw[List.set_append_right _ _ ah,hl,Nat.add_sub_cancel_left]
 rw[e1] at h1
 exact h1
theorem MB.set_se(h:MB w g m)(k:m.ok)(x:Int):MB (w.setCell ⟨g,100,none⟩ (.int .i64 x)) g {m with se:=x}:=h.set_tl k 4 (.int .i64 x) _ rfl rfl rfl rfl ah
theorem MB.set_er(h:MB w g m)(k:m.ok)(x:Int):MB (w.setCell ⟨g,99,none⟩ (.int .i64 x)) g {m with er:=x}:=h.set_tl k 3 (.int .i64 x) _ rfl rfl rfl rfl ah
theorem Mm.ok.se{m:Mm}(k:m.ok)(x:Int):({m with se:=x}:Mm).ok:=⟨k.r,k.p,k.e⟩
theorem Mm.ok.ex{m:Mm}(k:m.ok){e:List Int}(he:e.length=80):({m with e:=e}:Mm).ok:=⟨k.r,k.p,he⟩
end
theorem yg:(Tryz.prog.info? 25).map (·.size)=some 102:=au
theorem aev{P:Program}{w:World}{r:Reach}{b:Nat}{t:TypeId}{v:Value}{d:TypeDesc}{n:Nat}{ti tb:TypeId}(ht:P.underlying t=some d)(hd:mV d=true)(hc:P.cellTypes P.depth t=some (List.replicate n ti++[tb]))(hn:P.cellsOf t=n+1)
 (hti:P.underlying ti=some (.int .i64)) (htb:P.underlying tb=some .bool)
 (h:Value.okWide P w r b t v):∃xs q,v=.agg (aj xs++[Value.bool q]).toArray/\xs.length=n/\W64 xs:=by
 unfold Value.okWide at h
 rw[ht] at h
 have h':∃cs,v=.agg cs/\cs.size=P.cellsOf t/\Row.okWide P w r b t cs:=by
  cases d<;>first|exact h|(simp[mV] at hd)
 obtain⟨cs,rfl,hs,ts,hts,_,hall⟩:=h'
 rw[hc] at hts
 obtain rfl:List.replicate n ti++[tb]=ts:=by simpa using hts
 rw[hn] at hs
 have each:∀(i:Nat) (u:Value),i<n->cs[i]?=some u->∃z,u=Value.int .i64 z/\IntKind.i64.has z:=by
  intro i u hi hu
  obtain⟨q,hq,hk⟩:=hall i u hu
  have hq2:q=ti:=by
   rw[Nat.mod_eq_of_lt abd,mF (by rw[nM];exact hi)] at hq
   exact(List.mem_replicate.1 (List.mem_of_getElem? hq)).2
  subst hq2
  exact acL hti hk
 obtain⟨q,hq⟩:∃q,cs[n]?=some (.bool q):=by
  have hu:cs[n]?=some cs[n]:=Array.getElem?_eq_getElem ah
  obtain⟨q,hq,hk⟩:=hall n _ hu
  have hq2:q=tb:=by
   rw[Nat.mod_eq_of_lt abd,uY (by rw[nM];exact al0z _)] at hq
   simpa using hq.symm
  subst hq2
  obtain⟨z,hz⟩:=Vh htb hk
  exact⟨z,by rw[hu,hz]⟩
 have hl:cs.toList.length=n+1:=by simpa using hs
 refine⟨(cs.toList.take n).map intOf,q,?_,by rw[tX,fL,hl];omega,?_⟩
 ·have:cs.toList=aj ((cs.toList.take n).map intOf)++[Value.bool q]:=by
   apply List.ext_getElem?
   intro i
   rcases Nat.lt_trichotomy i n with hi|hi|hi
   ·rw[mF (by simp[aj];omega)]
    unfold aj
    rw[List.map_map,rq,wR,if_pos hi]
    have hu:cs.toList[i]?=some (cs.toList[i]' ah):=jO _
    rw[hu]
    obtain⟨z,hz,_⟩:=each i _ hi (by rw[<-Array.getElem?_toList];exact hu)
    rw[hz];rfl
   ·subst hi
    rw[uY (by rw[aQ,tX,fL];omega)]
    have:(aj ((cs.toList.take i).map intOf)).length=i:=by rw[aQ,tX,fL,hl];omega
    rw[this,Nat.sub_self]
    simpa using hq
   rw[List.getElem?_eq_none ah,List.getElem?_eq_none (by rw[gu,aQ,tX,fL,hl];simp;omega)]
  rw[<-this]
 ·intro x hx
  obtain⟨u,hu,rfl⟩:=List.mem_map.1 hx
  obtain⟨i,hi⟩:=List.getElem?_of_mem hu
  rw[wR] at hi
  split at hi
  ·next hlt=>
   obtain⟨z,rfl,hz⟩:=each i u hlt Fj
   exact acK hz
  cases hi
theorem aew{xs:List Int}(h:xs.length=101)(q:Bool):∃m:Mm,m.ok/\m.nums=xs/\(aj xs++[Value.bool q]).toArray=m.ag:=by
 obtain⟨a,b,ha,hl,rfl⟩:∃a b:List Int,a.length=8/\b.length=93/\xs=a++b:=⟨xs.take 8,xs.drop 8,vg,Bf,(qh 8 xs).symm⟩
 obtain⟨p,c,hp,hl2,rfl⟩:∃p c:List Int,p.length=8/\c.length=85/\b=p++c:=⟨b.take 8,b.drop 8,vg,Bf,(qh 8 b).symm⟩
 obtain⟨e,f,he,hl3,rfl⟩:∃e f:List Int,e.length=80/\f.length=5/\c=e++f:=⟨c.take 80,c.drop 80,vg,Bf,(qh 80 c).symm⟩
 match f,hl3 with
 |[x0,x1,x2,x3,x4],_=>exact⟨⟨a,p,e,x0,x1,x2,x3,x4,q⟩,⟨ha,hp,he⟩,rfl,by unfold Mm.ag Mm.cs;simp[aj]⟩
section
variable {w:World} {g:Nat} {m:Mm}
theorem iO{ops:Array Oper}{rest:List Oper}{o:Oper}{a:Act}{Q:Exit->Act->World->Prop}(hgd:o.guard=none)(x y:Operand)(ho:o.op=.store 25 x y)
 (g:Nat) (m0:Mm) (m:Mm) (hx:a.eval x=.pointer (some ⟨g,0,none⟩)) (hy:a.eval y=.agg m.ag) (h:MB w g m0) (k0:m0.ok) (k:m.ok)
 (kk:wpList Tryz.prog ops Q rest (a.put o.dst undef) (w.setRow g m.ag)):wpList Tryz.prog ops Q (o::rest) a w:=
 wpList_store_row hgd 25 x y ho g m.ag hx hy 25 m0.ag h Nz (by rw[m.size k,m0.size k0]) m.one kk
theorem oU{ops:Array Oper}{rest:List Oper}{o:Oper}{a:Act}{Q:Exit->Act->World->Prop}(hw:Region.wanted o (yielded ops a.tmps)=true)(x:Operand)(ho:o.op=.load 25 x)
 (g:Nat) (m:Mm) (hx:a.eval x=.pointer (some ⟨g,0,none⟩)) (h:MB w g m) (k0:m.ok)
 (kk:wpList Tryz.prog ops Q rest (a.put o.dst (.agg m.ag)) w):wpList Tryz.prog ops Q (o::rest) a w:=
 Go.BigFrame.wpList_want hw fun K hK=>wp_load_row 25 x ho g hx 25 m.ag (0,0) _ h Tryz.underlying25 rfl (by rw[yg,m.size k0]) (hK _ _ kk)
theorem MB.setRow{m0:Mm}(h:MB w g m0)(m:Mm):MB (w.setRow g m.ag) g m:=setRow_heap w g _ _ _ _ h
theorem Wq{fn:Func}{p:Tmp}(h:fn.results= #[.cell p 25])(tmps:Array Value)(w:World)(g:Nat)(m:Mm)
 (hp:tmps.getD p undef=.pointer (some ⟨g,0,none⟩)) (hg:MB w g m) (k:m.ok):
 (results fn tmps).run Tryz.prog w=.ok (.agg m.ag) w:=by
 have hp':tmps[p]?.getD undef=.pointer (some ⟨g,0,none⟩):=uu
 have hr:=run_loadVar_row (P:=Tryz.prog) w g 25 25 m.ag (0,0) _ hg Tryz.underlying25 rfl Nz
 simp[results,h,hp',asAddr,hr]
theorem Ws{fn:Func}{p q r:Tmp}(h:fn.results= #[.cell p 25,.tmp q,.tmp r])(tmps:Array Value)(w:World)(g:Nat)(m:Mm)
 (hp:tmps.getD p undef=.pointer (some ⟨g,0,none⟩)) (hg:MB w g m) (k:m.ok):
 (results fn tmps).run Tryz.prog w=.ok (.tuple #[.agg m.ag,tmps.getD q undef,tmps.getD r undef]) w:=by
 have hp':tmps[p]?.getD undef=.pointer (some ⟨g,0,none⟩):=uu
 have hr:=run_loadVar_row (P:=Tryz.prog) w g 25 25 m.ag (0,0) _ hg Tryz.underlying25 rfl Nz
 simp[results,h,hp',asAddr,hr]
end
def bZ:Mm:=⟨List.replicate 8 0,List.replicate 8 0,List.replicate 80 0,0,0,0,0,0,false⟩
theorem jF:bZ.ok:=⟨rfl,rfl,rfl⟩
theorem Gm:Tryz.zeroCells25=bZ.ag:=au
def yu(w:World)(a b:List Int)(num:Int)(e:Ending)(w':World):Prop:=e=.returned (.tuple #[.agg (agi (je a b num)),.int .i64 (aZ (jK a b num))])/\Below w.heap.size w w'
def Z8:List Int:=List.replicate 8 0
def Z9:List Int:=List.replicate 9 0
theorem bW:agi Z8= #[.int .i64 0,.int .i64 0,.int .i64 0,.int .i64 0,.int .i64 0,.int .i64 0,.int .i64 0,.int .i64 0]:=rfl
theorem jq:agi Z9= #[.int .i64 0,.int .i64 0,.int .i64 0,.int .i64 0,.int .i64 0,.int .i64 0,.int .i64 0,.int .i64 0,.int .i64 0]:=rfl
theorem aH:(Tryz.prog.info? 22).map (·.size)=some 8:=au
theorem bC:(Tryz.prog.info? 90).map (·.size)=some 9:=au
theorem CZ{w w':World}{a b:List Int}{num:Int}(h:jK a b num=false)(hB:Below w.heap.size w w'):yu w a b num (.returned (.tuple #[.agg (agi Z8),.int .i64 2])) w':=by
 refine⟨?_,hB⟩
 unfold je aZ
 rw[h]
 rfl
theorem WP{w w':World}{a b ys:List Int}{num:Int}(h:jK a b num=true)(hl:ys.length=8)(hy:∀j,j<8->ys.getD j 0=oh a b num j)(hB:Below w.heap.size w w'):yu w a b num (.returned (.tuple #[.agg (agi ys),.int .i64 0])) w':=by
 refine⟨?_,hB⟩
 have e:ys=je a b num:=by
  apply bV (by rw[hl,CJ])
  intro j hj
  rw[hy j ah]
  unfold je
  rw[if_pos h,bi,rq,List.getElem?_range ah]
  rfl
 unfold aZ
 rw[h,e]
 rfl
theorem aeD{a b:List Int}{num:Int}{k:Nat}(hk:k<a.length)(h:a.getD k 0<= -32768\/32768<=a.getD k 0):jK a b num=false:=by
 unfold jK bM;rw[iL hk (CC h)];simp
theorem aeE{a b:List Int}{num:Int}{k:Nat}(hk:k<b.length)(h:b.getD k 0<= -32768\/32768<=b.getD k 0):jK a b num=false:=by
 unfold jK bM;rw[iL hk (CC h)];simp
structure MixInv(w wr:World)(a b ys:List Int):Prop where
 A:IB wr w.heap.size 22 a
 B:IB wr (w.heap.size+1) 22 b
 R:IB wr (w.heap.size+1+1) 22 Z8
 O:IB wr (w.heap.size+1+1+1) 22 ys
 bel:Below w.heap.size w wr
theorem MixInv.start(w:World)(a b:List Int):MixInv w ((((w.alloc (.cells (agi a) 22)).alloc (.cells (agi b) 22)).alloc (.cells (agi Z8) 22)).alloc (.cells (agi Z8) 22)) a b Z8:=by
 have h1:=IB.new w 22 a
 have h2:=IB.new (w.alloc (.cells (agi a) 22)) 22 b
 have h3:=IB.new ((w.alloc (.cells (agi a) 22)).alloc (.cells (agi b) 22)) 22 Z8
 have h4:=IB.new (((w.alloc (.cells (agi a) 22)).alloc (.cells (agi b) 22)).alloc (.cells (agi Z8) 22)) 22 Z8
 simp only[bU] at h2 h3 h4
 exact⟨((Blk.alloc h1 _).alloc _).alloc _,(Blk.alloc h2 _).alloc _,Blk.alloc h3 _,h4,((((aA _ _).alloc (al0z _) _).alloc az _).alloc aJ _).alloc aJ _⟩
theorem aeF(a b:List Int)(num:Int)(w:World)(ha:a.length=8)(hb:b.length=8):Calls Tryz.prog 88 #[.agg (agi a),.agg (agi b),.int .i64 num] w (yu w a b num):=by
 have S0:=hid (MixInv.start w a b)
 by_cases h1:num<0\/4<num
 ·have FIN:=hid ((((((aA _ w).alloc (al0z _) (.cells (agi a) 22)).alloc az (.cells (agi b) 22)).alloc aJ (.cells (agi Z8) 22))))
  have h3:=IB.new ((w.alloc (.cells (agi a) 22)).alloc (.cells (agi b) 22)) 22 Z8
  simp only[bU] at h3
  have hRow:=hid h3
  have hRow2:=hid (h3.setRow Z8)
  have FIN:=hid (CZ (a:=a) (b:=b) (num:=num) (by unfold jK;simp;omega) (aS FIN.out (g:=w.heap.size+1+1) ah (agi Z8)))
  clear h3
  have hR:=oL (fn:=Tryz.f88) (p:=6) (q:=7) (ty:=22) rfl
  rcases h1 with h1|h1
  ·have d1:decide (num<0)=true:=qo
   go_enter Tryz.func88,Tryz.ntmps88
   go_wp2_with(refine aP rfl 22 (.tmp 6) (.tmp 16) rfl _ 22 Z8 Z8 8 rfl rfl hRow.out aH rfl rfl ?_)
   exact l61
  have d1:decide (num<0)=false:=aJ
  have d2:decide (4<num)=true:=qo
  go_enter Tryz.func88,Tryz.ntmps88
  go_wp2_with(refine aP rfl 22 (.tmp 6) (.tmp 16) rfl _ 22 Z8 Z8 8 rfl rfl hRow.out aH rfl rfl ?_)
  exact l61
 have h0:0<=num:=ah
 have h4:num<=4:=ah
 have d1:decide (num<0)=false:=aJ
 have d2:decide (4<num)=false:=aJ
 clear h1
 rw[bW] at S0
 have HA:=hid ha
 have HB:=hid hb
 clear ha hb
 go_enter Tryz.func88,Tryz.ntmps88
 go_wp2
 go_loopw[17] (fun iv wr=> ∃(k:Nat) (ys:List Int),k<=8/\iv=.int .i64 k/\Hid (ys.length=8/\(allTo okR a k/\allTo okR b k)/\∀j,j<k->ys.getD j 0=oh a b num j)/\Hid (MixInv w wr a b ys)) (fun iv _=>8-(intOf iv).toNat)
 case atStart=>exact⟨0,Z8,ah,rfl,hid ⟨rfl,⟨allTo.zero,allTo.zero⟩,fun j h=>ah⟩,S0⟩
 case round=>
  clear S0
  obtain⟨k,ys,hk,rfl,HY,HI⟩:=hrel
  by_cases hlt:k<8
  ·have ca:=HI.out.A.cell k uk
   have cb:=HI.out.B.cell k (by rw[HB.out];exact hlt)
   have co:=HI.out.O.cell k rG
   have fo:=HI.out.O.frozen k
   obtain⟨x,hx⟩:∃x,x=a.getD k 0:=⟨_,rfl⟩
   obtain⟨y,hy⟩:∃y,y=b.getD k 0:=⟨_,rfl⟩
   rw[<-hx] at ca
   rw[<-hy] at cb
   have HX:=hid hx
   have HYY:=hid hy
   clear hx hy
   by_cases hbad:(x<= -32768\/32768<=x)\/(y<= -32768\/32768<=y)
   ·have FIN:=hid (fun(w1:World)=>CZ (w:=w) (w':=w1) (a:=a) (b:=b) (num:=num) (by
     rcases hbad with h|h
     ·exact aeD (k:=k) uk (by rw[<-HX.out];exact h)
     ·exact aeE (k:=k) (by rw[HB.out];exact hlt) (by rw[<-HYY.out];exact h)))
    have hB:=hid (aS HI.out.bel (g:=w.heap.size+1+1) ah (agi Z8))
    have hRow:=hid (HI.out.R.setRow Z8)
    have hR:=oL (fn:=Tryz.f88) (p:=6) (q:=7) (ty:=22) rfl
    by_cases b1:x<= -32768
    ·exact l35
    by_cases b2:32768<=x
    ·exact l35
    by_cases b3:y<= -32768
    ·exact l35
    have b4:32768<=y:=ah
    exact l35
   have b1: -32768<x:=ah
   have b2:x<32768:=ah
   have b3: -32768<y:=ah
   have b4:y<32768:=ah
   obtain⟨m1,m2,m3,m4⟩:=VS ⟨b1,b2⟩ ⟨b3,b4⟩ ⟨h0,h4⟩
   have NEXT:=hid (show Hid ((ys.set k ((x*(4-num)+y*num).tdiv 4)).length=8/\(allTo okR a (k+1)/\allTo okR b (k+1))/\∀j,j<k+1->(ys.set k ((x*(4-num)+y*num).tdiv 4)).getD j 0=oh a b num j) from by
    obtain⟨q1,⟨q2,q3⟩,q4⟩:=HY.out
    refine⟨xu,⟨q2.succ (by rw[<-HX.out];exact zC b1 b2),q3.succ (by rw[<-HYY.out];exact zC b3 b4)⟩,fun j hj=>?_⟩
    by_cases he:k=j
    ·subst he
     rw[gQ _ _ _ ah,oh,<-HX.out,<-HYY.out]
    ·rw[iw _ _ he]
     exact q4 j ah)
   have NI:=hid (fun v=>show MixInv w (wr.setCell ⟨w.heap.size+1+1+1,k,none⟩ (.int .i64 v)).drew a b (ys.set k v) from
    ⟨Blk.far HI.out.A (by simp;try omega) _,Blk.far HI.out.B (by simp;try omega) _,Blk.far HI.out.R (by simp;try omega) _,HI.out.O.set_ k v,Below.drew (HI.out.bel.setCell (p:=⟨w.heap.size+1+1+1,k,none⟩) (show w.heap.size<=w.heap.size+1+1+1 from ah) _)⟩)
   clear hbad
   go_wp2
   go_region
   all_goals
    go_wp2
    go_roundw
    case rel=>exact⟨k+1,_,ah,aO,NEXT.out,NI.out _⟩
    case measure=>simp[intOf]<;>omega
  obtain rfl:k=8:=ah
  have hg:jK a b num=true:=by
   unfold jK bM
   rw[HY.out.2.1.1.all EG,HY.out.2.1.2.all (by rw[HB.out];exact al0z _)]
   simp;omega
  have FIN:=hid (fun(w1:World)=>WP (w:=w) (w':=w1) hg HY.out.1 HY.out.2.2)
  have hB:=hid (aS HI.out.bel (g:=w.heap.size+1+1) ah (agi ys))
  have hRow:=hid (HI.out.R.setRow ys)
  have hR:=oL (fn:=Tryz.f88) (p:=6) (q:=7) (ty:=22) rfl
  clear hlt hg
  go_wp2_with(first
   |(refine aK rfl 22 (.tmp 8) rfl _ 22 ys 8 _ rfl HI.out.O Tryz.underlying22 rfl aH HY.out.1 ?_)
   |(refine aP rfl 22 (.tmp 6) (.tmp 59) rfl _ 22 Z8 ys 8 rfl rfl HI.out.R aH rfl HY.out.1 ?_))
  refine bg (v:=_) (hR _ _ _ 22 ys _ 8 rfl hRow.out Tryz.underlying22 rfl aH HY.out.1) rfl ?_
  exact FIN.out _ hB.out
def iz(ops:Array Oper):List Nat->List Oper
 |[]=>[]
 |i::r=>match ops[i]? with
  |some o=>o::iz ops r
  |none=>iz ops r
def JC(ops:Array Oper)(l:List Nat):Bool:=l.all (fun i=>decide (i<ops.size))
theorem Td{ops:Array Oper}{i:Nat}{o:Oper}(h:ops[i]?=some o)(r:List Nat):iz ops (i::r)=o::iz ops r:=by simp only[iz,h]
def uQ(md:Region.Mode)(ops:Array Oper)(s:Nat):List Nat->Bool
 |[]=>true
 |i::r=>(Region.waitsFor md ops s i||r.any (fun j=>Region.waitsFor md ops j i))&&uQ md ops s r
def uS(md:Region.Mode)(ops:Array Oper):List Nat->List Nat->Bool
 |_,[]=>true
 |seen,t::r=>seen.any (fun j=>Region.waitsFor md ops t j)&&uS md ops (t::seen) r
def Tf(ops:Array Oper)(i:Nat):Bool:=match ops[i]? with
 |some o=>match o.op with
  |.move _=>true
  |.assign _=>true
  |.extract _ _=>true
  |_=>false
 |none=>false
def yY(md:Region.Mode)(ops:Array Oper):List Nat->Array Bool->Bool
 |[],listed=>(Region.ready md ops listed).isEmpty
 |k::r,listed=>decide (Region.ready md ops listed=[k])&&yY md ops r (listed.setIfInBounds k true)||
   ((Region.ready md ops listed).contains k&&Region.free md ops listed k&&Tf ops k)&&yY md ops r (listed.setIfInBounds k true)
def Ep(md:Region.Mode)(ops:Array Oper)(tl:List Nat):List Nat->Array Bool->Bool
 |[],listed=>(Region.ready md ops listed).all (fun j=>tl.contains j)&&yY md ops tl listed
 |k::r,listed=>(Region.ready md ops listed).contains k&&Region.free md ops listed k&&Ep md ops tl r (listed.setIfInBounds k true)
def Es(md:Region.Mode)(ops:Array Oper)(hd tl:List Nat):List Nat->Array Bool->Bool
 |[],listed=>(List.range ops.size).all (fun i=>listed.getD i true||hd.contains i||tl.contains i)&&tl.all (fun t=>!listed.getD t true)&&Ep md ops tl hd listed
 |k::r,listed=>(Region.ready md ops listed).contains k&&Region.free md ops listed k&&Es md ops hd tl r (listed.setIfInBounds k true)
def aan(md:Region.Mode)(ops:Array Oper)(fl hd tl:List Nat):Bool:=
 Region.noSelect ops&&(match tl with|[]=>false|s::r=>uQ md ops s hd&&uS md ops [s] r)&&hd.all (fun i=>!tl.contains i)&&JC ops fl&&JC ops hd&&JC ops tl&&Es md ops hd tl fl (Array.replicate ops.size false)
section
variable {P:Program} {ops:Array Oper} {md:Region.Mode} {C:World->Prop} {Q:Exit->Act->World->Prop}
structure HInv(md:Region.Mode)(ops:Array Oper)(tl:List Nat)(listed:Array Bool):Prop where
 size:listed.size=ops.size
 closed:∀j oj,ops[j]?=some oj->listed.getD j false=true->∀e∈oj.after,Region.binds md e=true->listed.getD e.on false=true
 tail:∀t∈tl,listed.getD t true=false
theorem HInv.set{tl:List Nat}{i:Nat}{listed:Array Bool}(inv:HInv md ops tl listed)(hi:i∈Region.ready md ops listed)(hin:i∉tl):HInv md ops tl (listed.setIfInBounds i true):=by
 obtain⟨_,oi,hoi,hall⟩:=mem_ready.1 hi
 refine⟨by simp[inv.size],fun j oj hj hl e he hb=>?_,fun t ht=>by rw[getD_set_ne true (by rintro rfl;exact hin ht)];exact inv.tail t ht⟩
 by_cases hij:i=j
 ·subst hij
  have:oj=oi:=nP (hj.symm.trans hoi)
  subst this
  exact getD_set_true (hall e he hb)
 rw[getD_set_ne false hij] at hl
 exact getD_set_true (inv.closed j oj hj hl e he hb)
theorem aao{listed:Array Bool}{t i:Nat}(h:Region.waitsFor md ops t i=true)(hun:listed.getD i true=false):t∉Region.ready md ops listed:=by
 intro hr
 obtain⟨ot,hot,e,he,hb,hon⟩:=Region.waitsFor_spec h
 obtain⟨_,o',ho',hall⟩:=mem_ready.1 hr
 have:o'=ot:=nP (ho'.symm.trans hot)
 subst this
 have h2:=hall e he hb
 rw[hon,getD_both hun] at h2
 cases h2
theorem Tj{s:Nat}{tl:List Nat}{listed:Array Bool}(inv:HInv md ops tl listed):∀l:List Nat,uQ md ops s l=true->∀i∈l,listed.getD i true=false->s∉Region.ready md ops listed
 |[],_,i,hi,_=>by cases hi
 |k::r,h,i,hi,hun=>by
  simp only[uQ,Bool.and_eq_true,Bool.or_eq_true] at h
  rcases List.mem_cons.1 hi with rfl|hi
  ·rcases h.1 with h1|h1
   ·exact aao h1 hun
   obtain⟨j,hj,hw⟩:=List.any_eq_true.1 h1
   cases hl:listed.getD j true with
   |false=>exact Tj inv r h.2 j hj hl
   |true=>
    obtain⟨oj,hoj,e,he,hb,hon⟩:=Region.waitsFor_spec hw
    have hj':j<listed.size:=by rw[inv.size];exact(Array.getElem?_eq_some_iff.1 hoj).1
    have hjs:listed.getD j false=true:=by simp[hj'] at hl|-;exact hl
    have h2:=inv.closed j oj hoj hjs e he hb
    rw[hon,getD_both hun] at h2
    cases h2
  exact Tj inv r h.2 i hi hun
theorem aap{tl:List Nat}{listed:Array Bool}(inv:HInv md ops tl listed):∀(l seen:List Nat),uS md ops seen l=true->(∀j∈seen,j∈tl)->(∀j∈l,j∈tl)->∀t∈l,t∉Region.ready md ops listed
 |[],_,_,_,_,t,ht=>by cases ht
 |k::r,seen,h,hs,hl,t,ht=>by
  simp only[uS,Bool.and_eq_true] at h
  rcases List.mem_cons.1 ht with rfl|ht
  ·obtain⟨j,hj,hw⟩:=List.any_eq_true.1 h.1
   exact aao hw (inv.tail j (hs j hj))
  refine aap inv r (k::seen) h.2 (fun j hj=>?_) (fun j hj=>hl j (List.mem_cons_of_mem _ hj)) t ht
  rcases List.mem_cons.1 hj with rfl|hj
  ·exact hl _ (List.mem_cons_self ..)
  exact hs j hj
theorem aiy{s:Nat}{r hd:List Nat}{listed:Array Bool}(inv:HInv md ops (s::r) listed)(h1:uQ md ops s hd=true)(h2:uS md ops [s] r=true){i:Nat}(hi:i∈hd)(hun:listed.getD i true=false):
 ∀t∈s::r,t∉Region.ready md ops listed:=fun t ht=>by
 rcases List.mem_cons.1 ht with rfl|ht
 ·exact Tj inv hd h1 i hi hun
 ·exact aap inv r [s] h2 (fun j hj=>by rw[List.mem_singleton.1 hj];exact List.mem_cons_self ..) (fun j hj=>List.mem_cons_of_mem _ hj) t ht
def Et(P:Program)(md:Region.Mode)(ops:Array Oper)(C:World->Prop)(hd:List Nat)(L:Array Bool->Act->Prop):Nat->Array Bool->Act->Prop
 |0,listed,a=>L listed a
 |f+1,listed,a=>
  Region.ready md ops listed≠[]/\∀i∈Region.ready md ops listed,i∈hd/\qOp P ops C i (Et P md ops C hd L f (listed.setIfInBounds i true)) a
theorem aaq{hd:List Nat}{g:Nat}{L:Array Bool->Act->Prop}(hL:∀listed a w,C w->L listed a->wpAny P md ops Q g listed a w):
 ∀(f:Nat) (listed:Array Bool) (a:Act) (w:World),C w->Et P md ops C hd L f listed a->wpAny P md ops Q (f+g) listed a w
 |0,listed,a,w,hw,h=>by rw[Nat.zero_add];exact hL _ _ _ hw h
 |f+1,listed,a,w,hw,h=>by
  rw[show f+1+g=(f+g)+1 from ah]
  exact⟨fun h0=>absurd h0 h.1,fun i hi=>wpOp_of_qOp hw (fun a' w' hw' h'=>aaq hL f _ a' w' hw' h') (h.2 i hi).2⟩
theorem aiz{listed:Array Bool}{i k:Nat}(h:listed.getD i true=true):(listed.setIfInBounds k true).getD i true=true:=by
 by_cases e:k=i
 ·subst e
  rcases Nat.lt_or_ge k listed.size with h'|h'
  ·simp[h']
  simp[Array.getElem?_eq_none h']
 rw[getD_set_ne true e];exact h
def covers(ops:Array Oper)(hd tl:List Nat)(listed:Array Bool):Prop:=∀i,i<ops.size->listed.getD i true=true\/i∈hd\/i∈tl
theorem covers.set{hd tl:List Nat}{listed:Array Bool}(h:covers ops hd tl listed)(k:Nat):covers ops hd tl (listed.setIfInBounds k true):=fun i hi=>by
 rcases h i hi with h|h
 ·exact .inl (aiz h)
 exact .inr h
theorem aar{s:Nat}{r hd:List Nat}{listed:Array Bool}(inv:HInv md ops (s::r) listed)(hc:covers ops hd (s::r) listed)(h1:uQ md ops s hd=true)(h2:uS md ops [s] r=true){i:Nat}(hi:i∈hd)(hun:listed.getD i true=false)
 {j:Nat} (hj:j∈Region.ready md ops listed):j∈hd:=by
 obtain⟨hjun,oj,hoj,_⟩:=mem_ready.1 hj
 rcases hc j (Array.getElem?_eq_some_iff.1 hoj).1 with h|h|h
 ·rw[hjun] at h;cases h
 ·exact h
 ·exact absurd hj (aiy inv h1 h2 hi hun j h)
theorem aiA{s i:Nat}{r hd:List Nat}{oi:Oper}{v:Value}{L:Array Bool->Act->Prop}(hi:ops[i]?=some oi)(hsel:∀(j:Nat) (o:Oper) cs b,ops[j]?=some o->o.op≠ .select cs b)
 (h1:uQ md ops s hd=true) (h2:uS md ops [s] r=true) (hdis:∀j∈hd,j∉s::r) (hin:i∈hd)
 (hdone:∀listed a,L listed a->∀j∈Region.ready md ops listed,j∈s::r):
 ∀(f:Nat) (listed:Array Bool) (a:Act),HInv md ops (s::r) listed->covers ops hd (s::r) listed->
  (∀j oj,ops[j]?=some oj->j≠i->listed.getD j true=false->(∀e∈oj.after,Region.binds md e=true->e.on≠i)->oi.apart ops oj=true)->
  i∈Region.ready md ops listed->YieldsIn P ops C oi v a->
  Et P md ops C hd L f (listed.setIfInBounds i true) (a.put oi.dst v)->Et P md ops C hd L (f+1) listed a:=by
 intro f
 induction f with
 |zero=>
  intro listed a inv hc _ hr hy H
  have hun:=(mem_ready.1 hr).1
  refine⟨fun h=>(by rw[h] at hr;cases hr),fun j hj=>?_⟩
  have hjn:=aar inv hc h1 h2 hin hun hj
  refine⟨hjn,?_⟩
  by_cases hji:j=i
  ·subst hji;exact hy.qOp hi H
  ·exact absurd (hdone _ _ H j (ready_mono hj hji)) (hdis j hjn)
 |succ f ih=>
  intro listed a inv hc hfree hr hy H
  have hun:=(mem_ready.1 hr).1
  refine⟨fun h=>(by rw[h] at hr;cases hr),fun j hj=>?_⟩
  have hjn:=aar inv hc h1 h2 hin hun hj
  refine⟨hjn,?_⟩
  by_cases hji:j=i
  ·subst hji;exact hy.qOp hi H
  ·have h3:=(H.2 j (ready_mono hj hji)).2
   obtain⟨hjun,oj,hoj,hall⟩:=mem_ready.1 hj
   have hnot:∀e∈oj.after,Region.binds md e=true->e.on≠i:=fun e he hb heq=>by
    have h1:=hall e he hb
    rw[heq,getD_both hun] at h1
    cases h1
   have h4:=qOp_put hoj (hfree j oj hoj hji hjun hnot) (fun cs b=>hsel i oi cs b hi) (fun cs b=>hsel j oj cs b hoj) hy h3
   have hfree':∀k ok,ops[k]?=some ok->k≠i->(listed.setIfInBounds j true).getD k true=false->
    (∀e∈ok.after,Region.binds md e=true->e.on≠i)->oi.apart ops ok=true:=fun k ok hk hki hun hno=>by
    refine hfree k ok hk hki ?_ hno
    by_cases hjk:j=k
    ·subst hjk;exact hjun
    ·rw[getD_set_ne true hjk] at hun;exact hun
   refine qOp_mono (fun a' h5=>ih (listed.setIfInBounds j true) a' (inv.set hj (hdis j hjn)) (hc.set j) hfree' (ready_mono hr (Ne.symm hji)) h5.1 ?_) h4
   rw[Array.setIfInBounds_comm _ _ hji]
   exact h5.2
theorem aas{s:Nat}{r hd:List Nat}{Lq:Act->Prop}(hsel:Region.noSelect ops=true)(h1:uQ md ops s hd=true)(h2:uS md ops [s] r=true)(hdis:∀j∈hd,j∉s::r):
 ∀(l:List Nat) (listed:Array Bool) (a:Act),(∀j∈l,j∈hd)->(∀j∈l,j<ops.size)->HInv md ops (s::r) listed->covers ops hd (s::r) listed->
 Ep md ops (s::r) l listed=true->wpQuiet P ops C Lq (iz ops l) a->
 Et P md ops C hd (fun listed' a'=>((Region.ready md ops listed').all (fun j=>(s::r).contains j)&&yY md ops (s::r) listed')=true/\Lq a') l.length listed a
 |[],listed,a,_,_,_,_,hB,h=>⟨by simpa[Ep] using hB,h⟩
 |k::l,listed,a,hl,hlt,inv,hc,hB,h=>by
  obtain⟨ok,hok⟩:∃ok,ops[k]?=some ok:=⟨ops[k]'(hlt k (List.mem_cons_self ..)),Array.getElem?_eq_getElem _⟩
  simp only[Ep,Bool.and_eq_true] at hB
  obtain⟨⟨hr,hf⟩,hB'⟩:=hB
  have hr':k∈Region.ready md ops listed:=by simpa using hr
  rw[Td hok] at h
  have hst:qOp P ops C k (wpQuiet P ops C Lq (iz ops l)) a:=by unfold qOp;simp only[hok];exact h
  obtain⟨v,hy,hK⟩:=yieldsIn_of_qOp hok hst
  exact aiA hok (Region.noSelect_spec hsel) h1 h2 hdis (hl k (List.mem_cons_self ..)) (fun listed' a' hL j hj=>by
   have:=hL.1
   simp only[Bool.and_eq_true] at this
   simpa using List.all_eq_true.1 this.1 j hj) l.length listed a inv hc (Region.free_spec hok hf) hr' hy
   (aas hsel h1 h2 hdis l _ _ (fun j hj=>hl j (List.mem_cons_of_mem _ hj)) (fun j hj=>hlt j (List.mem_cons_of_mem _ hj)) (inv.set hr' (hdis k (hl k (List.mem_cons_self ..)))) (hc.set k) hB' hK)
theorem aiB{i:Nat}{o:Oper}(ho:ops[i]?=some o)(h:Tf ops i=true){K:Act->World->Prop}{a:Act}{w:World}(hw:wpOp P ops Q i K a w):∃v,Yields P ops o v a/\K (a.put o.dst v) w:=by
 unfold Tf at h
 rw[ho] at h
 have key:∃r:Result Next,(∃v,r=.ok (.value v) w/\∀w,(execOp a.eval o).run P w=.ok (.value v) w)\/(r=.halt (.stuck "") w/\∀K':Act->World->Prop,¬o.wp P a w K' Q):=by
  cases e:o.op<;>simp only[e] at h<;>first|(cases h;done)|skip
  case move x=>exact⟨_,.inl ⟨_,rfl,fun w=>BigFrame.run_move x e w⟩⟩
  case assign x=>exact⟨_,.inl ⟨_,rfl,fun w=>BigFrame.run_assign x e w⟩⟩
  case extract x k=>
   have hrun:∀w,(execOp a.eval o).run P w=((Instr.extract (a.eval x) k).run P w).andThen fun v w=>.ok (.value v) w:=fun w=>by unfold execOp;simp only[e,nR,rD]
   cases hv:a.eval x with
   |tuple vs=>
    cases hk:vs[k]? with
    |some v=>exact⟨_,.inl ⟨v,rfl,fun w=>by rw[hrun,hv];simp[Instr.extract,hk]⟩⟩
    |none=>
     refine⟨_,.inr ⟨rfl,fun K' hw=>?_⟩⟩
     unfold Oper.wp at hw
     rw[hrun,hv] at hw
     simp[Instr.extract,hk,Oper.upon] at hw
   |_=>
    refine⟨_,.inr ⟨rfl,fun K' hw=>?_⟩⟩
    unfold Oper.wp at hw
    rw[hrun,hv] at hw
    simp[Instr.extract,Oper.upon] at hw
 have hevt:((execOp a.eval o).runT P w #[]).2= #[]:=by
  cases e:o.op<;>simp only[e] at h<;>first|(cases h;done)|skip
  case move x=>unfold execOp;rw[e];rfl
  case assign x=>unfold execOp;rw[e];rfl
  case extract x k=>
   unfold execOp
   rw[e]
   simp only[Instr.extract]
   split
   ·split<;>rfl
   rfl
 unfold wpOp at hw
 simp only[ho] at hw
 split at hw
 ·next hwant=>
  rcases hw with hw|⟨hasks,_⟩
  ·obtain⟨_,⟨v,_,hrun⟩|⟨_,hno⟩⟩:=key
   ·unfold Oper.wp at hw
    rw[hrun w] at hw
    exact⟨_,.inl ⟨hwant,hrun⟩,hw⟩
   exact absurd hw (hno _)
  unfold Oper.asks at hasks
  rw[hevt] at hasks
  simp at hasks
 next hwant=>exact⟨_,.inr ⟨by simpa using hwant,rfl⟩,hw⟩
theorem Tm(hs:Region.noSelect ops=true)(hQ:∀c a d v w,Q (.panic c) (a.put d v) w->Q (.panic c) a w):∀(l:List Nat) (listed:Array Bool) (a:Act) (w:World),(∀j∈l,j<ops.size)->
 yY md ops l listed=true->wpList P ops Q (iz ops l) a w->wpAny P md ops Q l.length listed a w
 |[],_,_,_,_,hB,h=>⟨by simpa[yY] using hB,h⟩
 |k::l,listed,a,w,hlt,hB,h=>by
  obtain⟨ok,hok⟩:∃ok,ops[k]?=some ok:=⟨ops[k]'(hlt k (List.mem_cons_self ..)),Array.getElem?_eq_getElem _⟩
  rw[Td hok] at h
  have hw:wpOp P ops Q k (wpList P ops Q (iz ops l)) a w:=by unfold wpOp;simp only[hok];exact h
  have hlt':∀j∈l,j<ops.size:=fun j hj=>hlt j (List.mem_cons_of_mem _ hj)
  simp only[yY,Bool.or_eq_true,Bool.and_eq_true,decide_eq_true_eq] at hB
  rcases hB with⟨hr,hB'⟩|⟨⟨⟨hr,hf⟩,hh⟩,hB'⟩
  ·refine⟨fun h1=>(by rw[hr] at h1;cases h1),fun i hi=>?_⟩
   rw[hr] at hi
   have hik:i=k:=Fj
   subst hik
   exact wpOp_mono (fun a' w' h'=>Tm hs hQ l _ a' w' hlt' hB' h') hw
  obtain⟨v,hy,hK⟩:=aiB hok hh hw
  exact wpAny_take hok hs hf hr (fun c a w=>hQ c a _ _ w) hy (Tm hs hQ l _ _ _ hlt' hB' hK)
def Ah(P:Program)(ops:Array Oper)(L:Act->Prop):List Oper->Act->Prop
 |[],a=>L a
 |o::r,a=> ∃v,Yields P ops o v a/\Ah P ops L r (a.put o.dst v)
theorem mr{L:Act->Prop}{a:Act}(h:L a):Ah P ops L [] a:=h
theorem bY{L:Act->Prop}{a:Act}{o:Oper}{r:List Oper}{v:Value}(hw:Region.wanted o (yielded ops a.tmps)=true)(hr:∀w,(execOp a.eval o).run P w=.ok (.value v) w)(h:Ah P ops L r (a.put o.dst v)):Ah P ops L (o::r) a:=
 ⟨v,.inl ⟨hw,hr⟩,h⟩
theorem aat{s:Nat}{r hd:List Nat}(hs:Region.noSelect ops=true)(hQ:∀c a d v w,Q (.panic c) (a.put d v) w->Q (.panic c) a w)(h1:uQ md ops s hd=true)(h2:uS md ops [s] r=true)(hdis:∀j∈hd,j∉s::r)
 (hhd:∀j∈hd,j<ops.size) (htl:∀j∈s::r,j<ops.size):∀(l:List Nat) (listed:Array Bool) (a:Act) (w:World),(∀j∈l,j<ops.size)->listed.size=ops.size->
 (∀j oj,ops[j]?=some oj->listed.getD j false=true->∀e∈oj.after,Region.binds md e=true->listed.getD e.on false=true)->Es md ops hd (s::r) l listed=true->C w->
 Ah P ops (fun a1=>wpQuiet P ops C (fun a2=> ∀w',C w'->wpList P ops Q (iz ops (s::r)) a2 w') (iz ops hd) a1) (iz ops l) a->wpAny P md ops Q (l.length+(hd.length+(s::r).length)) listed a w
 |[],listed,a,w,_,hsz,hcl,hB,hC,h=>by
  simp only[Es,Bool.and_eq_true] at hB
  obtain⟨⟨hc,ht⟩,hB'⟩:=hB
  have inv:HInv md ops (s::r) listed:=⟨hsz,hcl,fun t ht'=>by
   have:=List.all_eq_true.1 ht t ht'
   simpa using this⟩
  have cov:covers ops hd (s::r) listed:=fun i hi=>by
   have:=List.all_eq_true.1 hc i (List.mem_range.2 hi)
   simp only[Bool.or_eq_true] at this
   rcases this with(h|h)|h
   ·exact .inl h
   ·exact .inr (.inl (by simpa using h))
   exact .inr (.inr (by simpa using h))
  have H:=aas (P:=P) (C:=C) hs h1 h2 hdis hd listed a (fun j hj=>hj) hhd inv cov hB' h
  rw[List.length_nil,Nat.zero_add]
  exact aaq (fun listed' a' w' hw' hL=>Tm hs hQ (s::r) listed' a' w' htl (by have:=hL.1;simp only[Bool.and_eq_true] at this;exact this.2) (hL.2 w' hw')) _ _ _ _ hC H
 |k::l,listed,a,w,hlt,hsz,hcl,hB,hC,h=>by
  obtain⟨ok,hok⟩:∃ok,ops[k]?=some ok:=⟨ops[k]'(hlt k (List.mem_cons_self ..)),Array.getElem?_eq_getElem _⟩
  simp only[Es,Bool.and_eq_true] at hB
  obtain⟨⟨hr,hf⟩,hB'⟩:=hB
  rw[Td hok] at h
  obtain⟨v,hy,hK⟩:=h
  have hr':k∈Region.ready md ops listed:=by simpa using hr
  have hcl':=(HInv.set (tl:=[]) ⟨hsz,hcl,fun t ht=>by cases ht⟩ hr' (fun h=>qA)).closed
  rw[show(k::l).length+(hd.length+(s::r).length)=(l.length+(hd.length+(s::r).length))+1 by simp only[y9];omega]
  exact wpAny_take hok hs hf hr (fun c a w=>hQ c a _ _ w) hy (aat hs hQ h1 h2 hdis hhd htl l _ _ _ (fun j hj=>hlt j (List.mem_cons_of_mem _ hj)) (by simpa using hsz) hcl' hB' hC hK)
theorem mD(fl hd:List Nat)(s:Nat)(r:List Nat)(C:World->Prop){id:Nat}{a:Act}{w:World}{l:List Oper}(hm:P.follows .mixedOrders=true)(hB:aan .any l.toArray fl hd (s::r)=true)(hn:fl.length+(hd.length+(s::r).length)=l.length)(hC:C w.drew)
 (hQ:∀c a d v w,Q (.panic c) (a.put d v) w->Q (.panic c) a w)
 (h:Ah P l.toArray (fun a1=>wpQuiet P l.toArray C (fun a2=> ∀w',C w'->wpList P l.toArray Q (iz l.toArray (s::r)) a2 w') (iz l.toArray hd) a1) (iz l.toArray fl) a):(Code.region id l.toArray true).wp P Q a w:=by
 simp only[aan,Bool.and_eq_true] at hB
 obtain⟨⟨⟨⟨⟨⟨hs,h1,h2⟩,hdis⟩,hfl⟩,hhd⟩,htl⟩,hF⟩:=hB
 have lt:∀{l':List Nat},JC l.toArray l'=true->∀j∈l',j<l.toArray.size:=fun h j hj=>by
  have:=List.all_eq_true.1 h j hj
  simpa using this
 refine wp_region_any hm ?_
 have H:=aat (P:=P) (md:=.any) (C:=C) hs hQ h1 h2 (fun j hj hj2=>by
  have:=List.all_eq_true.1 hdis j hj
  rw[List.contains_iff_mem.2 hj2] at this
  cases this) (lt hhd) (lt htl) fl (Array.replicate l.toArray.size false) a {w with drawn:=w.drawn+1} (lt hfl) az (fun j oj _ hl=>by rw[getD_replicate_false] at hl;cases hl) hF hC h
 rw[hn] at H
 simpa using H
end
section
variable {P:Program} {ops:Array Oper} {C:World->Prop} {o:Oper} {a:Act} {K:Act->Prop}
theorem iD(hw:Region.wanted o (yielded ops a.tmps)=true)(ty:TypeId)(x:Operand)(ho:o.op=.load ty x)(b f:Nat)(hx:a.eval x=.pointer (some ⟨b,f,none⟩))(cs:List Value)(d:TypeDesc)(hC:∀W,C W->W.rangeAt b f cs)
 (hu:P.underlying ty=some d) (hd:d.isRow=true) (hi:(P.info? ty).map (·.size)=some cs.length) (k:K (a.put o.dst (.agg cs.toArray))):if Region.wanted o (yielded ops a.tmps) then o.quiet P a C K else K (a.put o.dst undef):=by
 rw[if_pos hw]
 refine⟨_,fun W hW=>?_,k⟩
 unfold Oper.quietAt execOp
 simp only[ho,hx,Instr.loadAt,Instr.sureAddr,nR,rD,nU,run_loadVar_mid W b f ty cs d (hC W hW) hu hd hi]
 exact⟨rfl,rfl⟩
end
theorem aiC{ops:Array Oper}{o:Oper}{a:Act}{w:World}{K:Act->World->Prop}{Q:Exit->Act->World->Prop}{E:Prop}(hgd:o.guard=none)(s x:Operand)
 (ho:o.op=.call {callee:=.builtin .append,args:= #[s,x],argTypes:= #[27,27]})
 (base:Nat) (A:Option Addr) (c:Nat) (xs:List Int) (hs:a.eval s=.slice A xs.length c) (hown:Own w base A c xs)
 (B:Nat) (A2:Option Addr) (c2:Nat) (ys:List Int) (hx:a.eval x=.slice A2 ys.length c2) (hr:Rs w B A2 ys) (hlen:xs.length+ys.length<=17592186044416) (hbase:base<=w.heap.size)
 (h:∀A' c' w',Own w' base A' c' (xs++ys)->w.grownBy w' (A.map (·.block))->(A'=A\/∃g,A'=some ⟨g,0,none⟩/\w.heap.size<=g)->K (a.put o.dst (.slice A' (xs.length+ys.length) c')) w'):if Region.wanted o (yielded ops a.tmps)=true then Oper.wp Tryz.prog o a w K Q else E:=by
 have hw:Region.wanted o (yielded ops a.tmps)=true:=Na
 rw[if_pos hw]
 obtain⟨i0,hi,hz0,hz1,hz2⟩:=info_parts BZ
 obtain⟨v',w',hrun,h2,h3,h4⟩:=xE (P:=Tryz.prog) w base 27 o.type 3 i0 (.int .i64 0) 1 8 Tryz.underlying27 hi hz0 hz1 hz2 rfl ah _ _ _ hown B A2 ys.length c2 (aj ys) hr (mQ ys) iT ah hbase
 have hlt:=fun a ha=>Own.lt hown a ha
 obtain⟨A',c',rfl,hO⟩:=OU h2 (BU xs ys)
 have hl:(xs++ys).length=xs.length+ys.length:=az
 unfold Oper.wp execOp
 simp only[ho,resolve,invoke,builtin,nR,rD,nU,List.map_toArray,List.map_cons,List.map_nil,hs,hx,hrun]
 rw[hl]
 refine h A' c' w' hO zk ?_
 have hn:=hO.2
 rcases hn with⟨hv,h0⟩|⟨g,cap,cur,hv,_⟩
 ·injection hv with hA _ _
  exact ab1
 ·injection hv with hA _ _
  exact l60
theorem uT{ops:Array Oper}{o:Oper}{a:Act}{w:World}{K:Act->World->Prop}{Q:Exit->Act->World->Prop}{E:Prop}(hgd:o.guard=none)(s x:Operand)
 (ho:o.op=.call {callee:=.builtin .append,args:= #[s,x],argTypes:= #[27,27]})
 (base:Nat) (A:Option Addr) (c n:Nat) (xs:List Int) (hs:a.eval s=.slice A n c) (hn:xs.length=n) (hown:Own w base A c xs)
 (B:Nat) (A2:Option Addr) (c2 m q:Nat) (ys:List Int) (hx:a.eval x=.slice A2 m c2) (hm:ys.length=m) (hq:n+m=q) (hr:Rs w B A2 ys) (hlen:q<=17592186044416) (hbase:base<=w.heap.size)
 (h:∀A' c' w',Own w' base A' c' (xs++ys)->w.grownBy w' (A.map (·.block))->(A'=A\/∃g,A'=some ⟨g,0,none⟩/\w.heap.size<=g)->K (a.put o.dst (.slice A' q c')) w'):if Region.wanted o (yielded ops a.tmps)=true then Oper.wp Tryz.prog o a w K Q else E:=by
 subst hn
 subst hm
 subst hq
 exact aiC hgd s x ho base A c xs hs hown B A2 c2 ys hx hr hlen hbase h
theorem pY{w:World}{p:Addr}{v:Value}(o:Obj)(h:w.cell? p=some v):(w.alloc o).cell? p=some v:=by
 have hlt:p.block<w.heap.size:=by
  exact l56
 exact(((aA w.heap.size w).alloc (al0z _) o).cell hlt).trans h
def Lits(n0:Nat)(w w':World):Prop:=∀(p:Addr) v,n0<=p.block->w.cell? p=some v->w'.cell? p=some v
theorem Tt{w w':World}{n0:Nat}{A:Option Addr}(hG:w.grownBy w' (A.map (·.block)))(hA:∀a,A=some a->a.block<n0):Lits n0 w w':=fun p v hp h=>by
 have hlt:p.block<w.heap.size:=by
  exact l56
 have hb:=hG.block p.block hlt (by
  cases A with
  |none=>simp
  |some a=>
   have:=hA a rfl
   simp
   omega)
 unfold World.cell? at*
 rw[hb]
 exact h
theorem Lits.cell{n0:Nat}{w w':World}{p:Addr}{v:Value}(h:Lits n0 w w')(hp:n0<=p.block)(hc:w.cell? p=some v):w'.cell? p=some v:=h p v hp hc
theorem JD{w:World}{p:Addr}{v:Value}(h:w.cell? p=some v):p.block<w.heap.size:=by
 exact l56
theorem JE{w:World}{g:Nat}{v:Value}{t:TypeId}(h:g=w.heap.size):(w.alloc (.cells #[v] t)).cell? ⟨g,0,none⟩=some v:=by rw[h];exact mW w v t
theorem uU{w:World}{g i:Nat}{v:Value}{cs:Array Value}{t:TypeId}(h:g=w.heap.size)(hv:cs[i]?=some v):(w.alloc (.cells cs t)).cell? ⟨g,i,none⟩=some v:=by rw[h];exact(Blk.cell (Blk.new w t cs) i).trans hv
theorem JF{w:World}{p:Addr}{v:Value}(h:w.cell? p=some v):w.drew.cell? p=some v:=h
theorem JG{w:World}{B g:Nat}{a b:Int}(h0:w.cell? ⟨g,0,none⟩=some (.int .i64 a))(h1:w.cell? ⟨g,1,none⟩=some (.int .i64 b))(hg:g<B):Rs w B (some ⟨g,0,none⟩) [a,b]:=
 ⟨nZ,fun _=>⟨_,rfl,hg,fun j u hj=>by
   match j,hj with
   |0,hj=>simp[aj] at hj;subst hj;rw[lI];exact h0
   |1,hj=>simp[aj] at hj;subst hj;rw[lI];exact h1⟩⟩
theorem JH(g i:Nat):(⟨g,2,none⟩:Addr).add i=⟨g,2+i,none⟩:=by unfold Addr.add;split<;>simp_all
theorem aiD{w:World}{B g:Nat}{a b c d:Int}(h0:w.cell? ⟨g,2,none⟩=some (.int .i64 a))(h1:w.cell? ⟨g,3,none⟩=some (.int .i64 b))(h2:w.cell? ⟨g,4,none⟩=some (.int .i64 c))(h3:w.cell? ⟨g,5,none⟩=some (.int .i64 d))(hg:g<B):Rs w B (some ⟨g,2,none⟩) [a,b,c,d]:=
 ⟨nZ,fun _=>⟨_,rfl,hg,fun j u hj=>by
   match j,hj with
   |0,hj=>simp[aj] at hj;subst hj;rw[JH];exact h0
   |1,hj=>simp[aj] at hj;subst hj;rw[JH];exact h1
   |2,hj=>simp[aj] at hj;subst hj;rw[JH];exact h2
   |3,hj=>simp[aj] at hj;subst hj;rw[JH];exact h3⟩⟩
def Hop(w:World)(A:Option Addr)(w':World):Prop:=∀(p:Addr) v,(∀a,A=some a->a.block≠p.block)->w.cell? p=some v->w'.cell? p=some v
theorem Ai{w w':World}{A:Option Addr}(hG:w.grownBy w' (A.map (·.block))):Hop w A w':=fun p v hp h=>by
 have hb:=hG.block p.block (JD h) (by
  cases A with
  |none=>simp
  |some a=>
   have:=hp a rfl
   simp
   omega)
 unfold World.cell? at*
 rw[hb]
 exact h
theorem Hop.cell{w w':World}{A:Option Addr}{p:Addr}{v:Value}(h:Hop w A w')(hp:∀a,A=some a->a.block≠p.block)(hc:w.cell? p=some v):w'.cell? p=some v:=h p v hp hc
abbrev Box8(g:Nat)(W:World)(a b c d e f x y:Int):Prop:=W.cell? ⟨g,0,none⟩=some (.int .i64 a)/\W.cell? ⟨g,1,none⟩=some (.int .i64 b)/\W.cell? ⟨g,2,none⟩=some (.int .i64 c)/\W.cell? ⟨g,3,none⟩=some (.int .i64 d)/\W.cell? ⟨g,4,none⟩=some (.int .i64 e)/\W.cell? ⟨g,5,none⟩=some (.int .i64 f)/\W.cell? ⟨g,6,none⟩=some (.int .i64 x)/\W.cell? ⟨g,7,none⟩=some (.int .i64 y)
theorem Box8.alloc{g:Nat}{W:World}{a b c d e f x y:Int}(h:Box8 g W a b c d e f x y)(o:Obj):Box8 g (W.alloc o) a b c d e f x y:=
 ⟨pY o h.1,pY o h.2.1,pY o h.2.2.1,pY o h.2.2.2.1,pY o h.2.2.2.2.1,pY o h.2.2.2.2.2.1,pY o h.2.2.2.2.2.2.1,pY o h.2.2.2.2.2.2.2⟩
theorem Box8.drew{g:Nat}{W:World}{a b c d e f x y:Int}(h:Box8 g W a b c d e f x y):Box8 g W.drew a b c d e f x y:=h
theorem Box8.hop{g:Nat}{W W':World}{A:Option Addr}{a b c d e f x y:Int}(h:Box8 g W a b c d e f x y)(k:Hop W A W')(hne:∀ad,A=some ad->ad.block≠g):Box8 g W' a b c d e f x y:=
 ⟨k _ _ hne h.1,k _ _ hne h.2.1,k _ _ hne h.2.2.1,k _ _ hne h.2.2.2.1,k _ _ hne h.2.2.2.2.1,k _ _ hne h.2.2.2.2.2.1,k _ _ hne h.2.2.2.2.2.2.1,k _ _ hne h.2.2.2.2.2.2.2⟩
theorem Box8.new(w:World)(t:TypeId)(a b c d e f x y:Int):Box8 w.heap.size (w.alloc (.cells #[.int .i64 a,.int .i64 b,.int .i64 c,.int .i64 d,.int .i64 e,.int .i64 f,.int .i64 x,.int .i64 y] t)) a b c d e f x y:=
 ⟨uU rfl rfl,uU rfl rfl,uU rfl rfl,uU rfl rfl,uU rfl rfl,uU rfl rfl,uU rfl rfl,uU rfl rfl⟩
theorem Box8.lt{g:Nat}{W:World}{a b c d e f x y:Int}(h:Box8 g W a b c d e f x y):g<W.heap.size:=JD (p:=⟨g,0,none⟩) h.1
theorem Box8.rs{g B:Nat}{W:World}{a b c d e f x y:Int}(h:Box8 g W a b c d e f x y)(hg:g<B):Rs W B (some ⟨g,2,none⟩) [c,d,e,f]:=aiD h.2.2.1 h.2.2.2.1 h.2.2.2.2.1 h.2.2.2.2.2.1 hg
theorem Tu{w:World}{B g:Nat}{y:Int}(h:w.cell? ⟨g,0,none⟩=some (.int .i64 y))(hg:g<B):Rs w B (some ⟨g,0,none⟩) [y]:=
 ⟨nZ,fun _=>⟨_,rfl,hg,fun j u hj=>by
   match j,hj with
   |0,hj=>simp[aj] at hj;subst hj;rw[lI];exact h⟩⟩
structure N3(w wr:World)(ps:List Int)(A1:Option Addr)(c1:Nat)(v:List Int)(A2:Option Addr)(c2:Nat)(u:List Int)(A3:Option Addr)(c3:Nat)(m:List Int):Prop where
 P:IB wr w.heap.size 38 ps
 O1:Own wr (w.heap.size+1) A1 c1 v
 O2:Own wr (w.heap.size+1) A2 c2 u
 O3:Own wr (w.heap.size+1) A3 c3 m
 d12:∀a b,A1=some a->A2=some b->a.block≠b.block
 d13:∀a b,A1=some a->A3=some b->a.block≠b.block
 d23:∀a b,A2=some a->A3=some b->a.block≠b.block
 B:Below w.heap.size w wr
theorem Aj{w:World}{base c:Nat}{A:Option Addr}{xs:List Int}(h:Own w base A c xs):∀k,A.map (·.block)=some k->base<=k:=fun k hk=>by
 exact acz
theorem Ak{A D:Option Addr}(h:∀a b,A=some a->D=some b->a.block≠b.block):∀a,D=some a->some a.block≠A.map (·.block):=fun b hb e=>by
 cases A with
 |none=>cases e
 |some a=>
  injection e with e
  exact h a b rfl hb e.symm
theorem Am{w:World}{base c:Nat}{A A' D:Option Addr}{xs:List Int}(hD:Own w base D c xs)(hA:A'=A\/∃g,A'=some ⟨g,0,none⟩/\w.heap.size<=g)(h:∀a b,A=some a->D=some b->a.block≠b.block):∀a b,A'=some a->D=some b->a.block≠b.block:=fun a b ha hb=>by
 rcases hA with rfl|⟨g,rfl,hg⟩
 ·exact h a b ha hb
 injection ha with ha
 subst ha
 have:=(hD.lt b hb).2
 show g≠b.block
 omega
section
variable {w wr w':World} {ps v u m x:List Int} {A1 A2 A3 A':Option Addr} {c1 c2 c3 c':Nat}
theorem N3.size(s:N3 w wr ps A1 c1 v A2 c2 u A3 c3 m):w.heap.size+1<=wr.heap.size:=Blk.lt s.P
theorem N3.alloc(s:N3 w wr ps A1 c1 v A2 c2 u A3 c3 m)(o:Obj):N3 w (wr.alloc o) ps A1 c1 v A2 c2 u A3 c3 m:=⟨Blk.alloc s.P o,s.O1.alloc o,s.O2.alloc o,s.O3.alloc o,s.d12,s.d13,s.d23,s.B.alloc s.B.size o⟩
theorem N3.drew(s:N3 w wr ps A1 c1 v A2 c2 u A3 c3 m):N3 w wr.drew ps A1 c1 v A2 c2 u A3 c3 m:=⟨Blk.drew s.P,s.O1.drew,s.O2.drew,s.O3.drew,s.d12,s.d13,s.d23,s.B.drew⟩
theorem N3.app1(s:N3 w wr ps A1 c1 v A2 c2 u A3 c3 m)(hO:Own w' (w.heap.size+1) A' c' x)(hG:wr.grownBy w' (A1.map (·.block)))(hA:A'=A1\/∃g,A'=some ⟨g,0,none⟩/\wr.heap.size<=g):N3 w w' ps A' c' x A2 c2 u A3 c3 m:=
 ⟨Blk.grown s.P hG (fun e=>by have:=Aj s.O1 _ e.symm;omega),hO,s.O2.kept hG (Ak s.d12),s.O3.kept hG (Ak s.d13),Am s.O2 hA s.d12,Am s.O3 hA s.d13,s.d23,s.B.grown hG s.B.size (fun k hk=>by have:=Aj s.O1 k hk;omega)⟩
theorem N3.app2(s:N3 w wr ps A1 c1 v A2 c2 u A3 c3 m)(hO:Own w' (w.heap.size+1) A' c' x)(hG:wr.grownBy w' (A2.map (·.block)))(hA:A'=A2\/∃g,A'=some ⟨g,0,none⟩/\wr.heap.size<=g):N3 w w' ps A1 c1 v A' c' x A3 c3 m:=
 ⟨Blk.grown s.P hG (fun e=>by have:=Aj s.O2 _ e.symm;omega),s.O1.kept hG (Ak fun a b ha hb=>(s.d12 b a hb ha).symm),hO,s.O3.kept hG (Ak s.d23),fun a b ha hb=>(Am s.O1 hA (fun a b ha hb=>(s.d12 b a hb ha).symm) b a hb ha).symm,s.d13,Am s.O3 hA s.d23,s.B.grown hG s.B.size (fun k hk=>by have:=Aj s.O2 k hk;omega)⟩
theorem N3.app3(s:N3 w wr ps A1 c1 v A2 c2 u A3 c3 m)(hO:Own w' (w.heap.size+1) A' c' x)(hG:wr.grownBy w' (A3.map (·.block)))(hA:A'=A3\/∃g,A'=some ⟨g,0,none⟩/\wr.heap.size<=g):N3 w w' ps A1 c1 v A2 c2 u A' c' x:=
 ⟨Blk.grown s.P hG (fun e=>by have:=Aj s.O3 _ e.symm;omega),s.O1.kept hG (Ak fun a b ha hb=>(s.d13 b a hb ha).symm),s.O2.kept hG (Ak fun a b ha hb=>(s.d23 b a hb ha).symm),hO,s.d12,fun a b ha hb=>(Am s.O1 hA (fun a b ha hb=>(s.d13 b a hb ha).symm) b a hb ha).symm,fun a b ha hb=>(Am s.O2 hA (fun a b ha hb=>(s.d23 b a hb ha).symm) b a hb ha).symm,s.B.grown hG s.B.size (fun k hk=>by have:=Aj s.O3 k hk;omega)⟩
end
end Go.Proofs.YthoiikkjjaldnaaGreatDoor
