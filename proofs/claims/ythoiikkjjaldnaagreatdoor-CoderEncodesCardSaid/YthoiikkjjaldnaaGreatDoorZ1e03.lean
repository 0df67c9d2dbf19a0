/- Texts that the law rests on. -/
import Derived.Test.YthoiikkjjaldnaaGreatDoorZ1e00
namespace Go.Proofs.YthoiikkjjaldnaaGreatDoor
set_option linter.unusedVariables false
set_option linter.unusedSimpArgs false
set_option maxRecDepth 100000
set_option maxHeartbeats 8000000
open Go.RowKit
theorem gG(xs:List Int):(agi xs).all (·.oneCell')=true:=by
 rw[Array.all_eq_true_iff_forall_mem]
 intro v hv
 exact mQ xs v (by simpa[agi] using hv)
section
variable {w:World} {g:Nat} {t ty:TypeId} {xs ys:List Int} {d:TypeDesc} {n:Nat}
theorem IB.setRow(h:IB w g t xs)(ys:List Int):IB (w.setRow g (agi ys)) g t ys:=setRow_heap w g _ _ t _ h
theorem Blk.rowFar{k:Nat}{cs c2:Array Value}(h:Blk w k t cs)(hne:k≠g):Blk (w.setRow g c2) k t cs:=(setRow_other w g k c2 hne).trans h
theorem aS{B:Nat}{a:World}(h:Below B a w)(hg:B<=g)(cs:Array Value):Below B a (w.setRow g cs):=
 ⟨h.os,h.tape,h.output,by simpa using h.size,fun k hk=>(setRow_other w g k cs ah).trans (h.block k hk)⟩
end
theorem oL{fn:Func}{p q:Tmp}{ty:TypeId}(h:fn.results= #[.cell p ty,.tmp q])(tmps:Array Value)(w:World)(g:Nat)(t:TypeId)(xs:List Int)(d:TypeDesc)(n:Nat)
 (hp:tmps.getD p undef=.pointer (some ⟨g,0,none⟩)) (hg:IB w g t xs) (hu:Tryz.prog.underlying ty=some d) (hd:mV d=true) (hi:(Tryz.prog.info? ty).map (·.size)=some n) (hl:xs.length=n):
 (results fn tmps).run Tryz.prog w=.ok (.tuple #[.agg (agi xs),tmps.getD q undef]) w:=by
 have hp':tmps[p]?.getD undef=.pointer (some ⟨g,0,none⟩):=uu
 have hr:=run_loadVar_row (P:=Tryz.prog) w g t ty (agi xs) (0,0) d hg hu (by cases d<;>first|rfl|(simp[mV] at hd)) Bv
 simp[results,h,hp',asAddr,hr]
theorem qC{fn:Func}{p q r:Tmp}{ty:TypeId}(h:fn.results= #[.cell p ty,.tmp q,.tmp r])(tmps:Array Value)(w:World)(g:Nat)(t:TypeId)(xs:List Int)(d:TypeDesc)(n:Nat)
 (hp:tmps.getD p undef=.pointer (some ⟨g,0,none⟩)) (hg:IB w g t xs) (hu:Tryz.prog.underlying ty=some d) (hd:mV d=true) (hi:(Tryz.prog.info? ty).map (·.size)=some n) (hl:xs.length=n):
 (results fn tmps).run Tryz.prog w=.ok (.tuple #[.agg (agi xs),tmps.getD q undef,tmps.getD r undef]) w:=by
 have hp':tmps[p]?.getD undef=.pointer (some ⟨g,0,none⟩):=uu
 have hr:=run_loadVar_row (P:=Tryz.prog) w g t ty (agi xs) (0,0) d hg hu (by cases d<;>first|rfl|(simp[mV] at hd)) Bv
 simp[results,h,hp',asAddr,hr]
theorem aP{ops:Array Oper}{rest:List Oper}{o:Oper}{a:Act}{w:World}{Q:Exit->Act->World->Prop}(hgd:o.guard=none)(ty:TypeId)(x y:Operand)(ho:o.op=.store ty x y)
 (g:Nat) (t:TypeId) (xs ys:List Int) (n:Nat) (hx:a.eval x=.pointer (some ⟨g,0,none⟩)) (hy:a.eval y=.agg (agi ys)) (h:IB w g t xs)
 (hi:(Tryz.prog.info? ty).map (·.size)=some n) (hl:xs.length=n) (hl2:ys.length=n)
 (k:wpList Tryz.prog ops Q rest (a.put o.dst undef) (w.setRow g (agi ys))):wpList Tryz.prog ops Q (o::rest) a w:=
 wpList_store_row hgd ty x y ho g (agi ys) hx hy t (agi xs) h (by rw[hi,dV,hl2]) (by rw[dV,dV,hl,hl2]) (gG ys) k
theorem aK{ops:Array Oper}{rest:List Oper}{o:Oper}{a:Act}{w:World}{Q:Exit->Act->World->Prop}(hw:Region.wanted o (yielded ops a.tmps)=true)(ty:TypeId)(x:Operand)(ho:o.op=.load ty x)
 (g:Nat) (t:TypeId) (xs:List Int) (n:Nat) (d:TypeDesc) (hx:a.eval x=.pointer (some ⟨g,0,none⟩)) (h:IB w g t xs) (hu:Tryz.prog.underlying ty=some d) (hd:mV d=true)
 (hi:(Tryz.prog.info? ty).map (·.size)=some n) (hl:xs.length=n)
 (k:wpList Tryz.prog ops Q rest (a.put o.dst (.agg (agi xs))) w):wpList Tryz.prog ops Q (o::rest) a w:=
 Go.BigFrame.wpList_want hw fun K hK=>wp_load_row ty x ho g hx t (agi xs) (0,0) d h hu (by cases d<;>first|rfl|(simp[mV] at hd)) Bv (hK _ _ k)
theorem jp{t:TypeId}{n:Nat}(ht:Tryz.prog.underlying t=some (.array n 3))(xs:List Int)(hl:xs.length=n)(k:Nat)(hk:k<n)(w:World):
 (Instr.index t (.agg (agi xs)) (.int .i64 (k:Nat))).run Tryz.prog w=.ok (.int .i64 (xs.getD k 0)) w:=by
 have hs:∀w,(sizeOf 3).run Tryz.prog w=.ok 1 w:=fun w=>au
 have ha:∀w,(isAgg 3).run Tryz.prog w=.ok false w:=fun w=>au
 have hg:=Fq xs k ah
 simp[Instr.index,asIntOf,run_underlying ht,hk,part,hs,ha,hg]
theorem Own.ne_{w:World}{base c g:Nat}{A:Option Addr}{xs:List Int}(h:Own w base A c xs)(hg:g<base):∀ad,A=some ad->ad.block≠g:=fun ad e=>by
 have:=(h.lt ad e).1
 omega
theorem Own.setRow{w:World}{base c g:Nat}{A:Option Addr}{xs:List Int}(h:Own w base A c xs)(hg:g<base)(cs:Array Value):Own (w.setRow g cs) base A c xs:=
 h.kept (row:=some g) ⟨rfl,rfl,rfl,by simp[World.setRow],fun i _ hn=>setRow_other w g i cs UK⟩ (fun ad e h2=>by
  injection h2 with h2
  exact h.ne_ hg ad e h2)
theorem Own.setC{w:World}{base c g:Nat}{A:Option Addr}{xs:List Int}(h:Own w base A c xs)(hg:g<base)(i:Nat)(v:Value):Own (w.setCell ⟨g,i,none⟩ v) base A c xs:=
 h.kept (row:=some g) ⟨rfl,rfl,rfl,zi,fun j _ hn=>Below.heap_setCell _ _ _ j vp⟩ (fun ad e h2=>by
  injection h2 with h2
  exact h.ne_ hg ad e h2)
def aI(f:Nat->Int):Nat->Int
 |0=>0
 |n+1=>aI f n+f n
theorem lL{f g:Nat->Int}(n:Nat)(h:∀i,i<n->f i=g i):aI f n=aI g n:=by
 induction n with
 |zero=>rfl
 |succ n ih=>simp only[aI];rw[ih (fun i hi=>h i ah),h n ah]
theorem ad7{f:Nat->Int}{B:Int}(n:Nat)(h:∀i,i<n-> -B<=f i/\f i<=B): -(B*n)<=aI f n/\aI f n<=B*n:=by
 induction n with
 |zero=>simp[aI]
 |succ n ih=>
  have h1:=ih (fun i hi=>h i ah)
  have h2:=h n ah
  have e:B*((n+1:Nat):Int)=B*(n:Int)+B:=by rw[Int.natCast_succ,Int.mul_add,Int.mul_one]
  rw[e]
  simp only[aI]
  omega
theorem ja{x y X Y:Int}(hX:0<=X)(hY:0<=Y)(hx: -X<=x/\x<=X)(hy: -Y<=y/\y<=Y): -(X*Y)<=x*y/\x*y<=X*Y:=by
 have h:(x*y).natAbs<=X.natAbs*Y.natAbs:=by
  rw[Int.natAbs_mul]
  exact Nat.mul_le_mul ah ah
 have e:((X.natAbs*Y.natAbs:Nat):Int)=X*Y:=by
  rw[Int.natCast_mul,Int.natAbs_of_nonneg hX,Int.natAbs_of_nonneg hY]
 omega
def lV(a:List Int)(q:Int)(m:Nat):List Int:=(List.range (m+1)).map fun i=>if i=0 then a.getD 0 0 else a.getD i 0+q*a.getD (m-i) 0/32768
theorem vO(a:List Int)(q:Int)(m:Nat):(lV a q m).length=m+1:=by simp[lV]
theorem xP(a:List Int)(q:Int)(m i:Nat)(h:i<=m):(lV a q m).getD i 0=if i=0 then a.getD 0 0 else a.getD i 0+q*a.getD (m-i) 0/32768:=by
 unfold lV
 rw[bi,rq,List.getElem?_range ah]
 rfl
def Within(B:Int)(a:List Int):Prop:=∀i,-B<=a.getD i 0/\a.getD i 0<=B
theorem Within.grow{B:Int}{a:List Int}{q:Int}{m:Nat}(hB:0<=B)(h:Within B a)(hq: -32768<=q/\q<=32768):Within (2*B) (lV a q m):=by
 intro i
 by_cases hi:i<=m
 ·rw[xP a q m i hi]
  have h0:=h 0
  have h1:=h i
  have h2:=h (m-i)
  split
  ·omega
  have h3:=ja (X:=32768) ah hB hq h2
  omega
 rw[bi,List.getElem?_eq_none (by rw[vO];omega)]
 simp
 omega
def kQ(a r:List Int)(m:Nat):Int:=aI (fun i=>a.getD i 0/512*r.getD (m-i) 0/32768) m
def lev(r:List Int):Nat->Nat->List Int->Int->List Int->List Int×Int×Bool
 |0,_,_,e,k=>(k,e,true)
 |f+1,m,a,e,k=>
  if(-kQ a r m*32768).tdiv e<= -32000\/32000<=(-kQ a r m*32768).tdiv e then(k,e,false)
  else if e-e*(-kQ a r m*32768).tdiv e/32768*(-kQ a r m*32768).tdiv e/32768<=0 then(k++[(-kQ a r m*32768).tdiv e],0,false)
  else lev r f (m+1) (lV a ((-kQ a r m*32768).tdiv e) m) (e-e*(-kQ a r m*32768).tdiv e/32768*(-kQ a r m*32768).tdiv e/32768) (k++[(-kQ a r m*32768).tdiv e])
theorem ad8(r:List Int)(m:Nat)(a:List Int)(e:Int)(k:List Int):lev r 0 m a e k=(k,e,true):=rfl
theorem FV(r:List Int)(f m:Nat)(a:List Int)(e:Int)(k:List Int)(q e':Int)(hq:q=(-kQ a r m*32768).tdiv e)(he:e'=e-e*q/32768*q/32768):
 lev r (f+1) m a e k=if q<= -32000\/32000<=q then(k,e,false) else if e'<=0 then(k++[q],0,false) else lev r f (m+1) (lV a q m) e' (k++[q]):=by
 subst he hq
 rfl
theorem Pq{x e:Int}(he:0<e): -(x.natAbs:Int)<=x.tdiv e/\x.tdiv e<=x.natAbs:=by
 have h:(x.tdiv e).natAbs<=x.natAbs:=by rw[Int.natAbs_tdiv];exact Nat.div_le_self _ _
 omega
theorem ad9{e q:Int}(he:0<=e):0<=e*q/32768*q/32768:=by
 have h:0<=e*q/32768*q:=by
  rcases Int.le_total 0 q with hq|hq
  ·exact Int.mul_nonneg (by have:=Int.mul_nonneg he hq;omega) hq
  have h1:e*q<=0:=Int.mul_nonpos_of_nonneg_of_nonpos he hq
  have h2:e*q/32768<=0:=ah
  have h3:e*q/32768*q=(-(e*q/32768))*(-q):=by rw[Int.neg_mul_neg]
  rw[h3]
  exact Int.mul_nonneg ah ah
 omega
theorem Pv{e q:Int}(h0:0<e)(h1:e<=2147483647)(hq: -32000<q)(hq2:q<32000):
 (-70368744144896<=e*q/\e*q<=70368744144896)/\(-70368744144896<=e*q/32768*q/\e*q/32768*q<=70368744144896)/\e-e*q/32768*q/32768<=e/\ -2147483648<=e-e*q/32768*q/32768:=by
 have h2:=ja (x:=e) (X:=2147483647) (y:=q) (Y:=32000) ah ah ah ah
 have h3:=ja (x:=e*q/32768) (X:=2147483648) (y:=q) (Y:=32000) ah ah ah ah
 have h4:=ad9 (e:=e) (q:=q) ah
 omega
def bQ(n:Nat)(k:List Int):List Int:=k++List.replicate (n-k.length) 0
theorem Cm{n:Nat}{k:List Int}(h:k.length<=n):(bQ n k).length=n:=by simp[bQ];omega
theorem VR{n:Nat}{k:List Int}(q:Int)(h:k.length<n):bQ n (k++[q])=(bQ n k).set k.length q:=by
 unfold bQ
 obtain⟨d,hd⟩:∃d,n-k.length=d+1:=⟨n-k.length-1,ah⟩
 rw[gu,List.length_singleton,hd,show n-(k.length+1)=d from ah,List.replicate_succ,List.set_append_right _ _ (al0z _)]
 simp
def okR(q:Int):Bool:=decide (-32768<q/\q<32768)
def bM(k:List Int):Bool:=k.all okR
theorem zC{q:Int}(h1: -32768<q)(h2:q<32768):okR q=true:=by unfold okR;simp;omega
theorem CC{q:Int}(h:q<= -32768\/32768<=q):okR q=false:=by unfold okR;simp;omega
theorem xQ{k:List Int}(h:bM k=true)(i:Nat): -32768<k.getD i 0/\k.getD i 0<32768:=by
 unfold bM at h
 rw[bi]
 cases hi:k[i]? with
 |none=>simp
 |some x=>
  have:=List.all_eq_true.1 h x (List.mem_of_getElem? hi)
  unfold okR at this
  simpa using this
def allTo(p:Int->Bool)(l:List Int)(i:Nat):Prop:=∀j,j<i->p (l.getD j 0)=true
theorem allTo.zero{p:Int->Bool}{l:List Int}:allTo p l 0:=fun j h=>ah
theorem allTo.succ{p:Int->Bool}{l:List Int}{i:Nat}(h:allTo p l i)(h2:p (l.getD i 0)=true):allTo p l (i+1):=fun j hj=>by
 by_cases he:j=i
 ·subst he;exact h2
 exact h j ah
theorem allTo.all{p:Int->Bool}{l:List Int}{i:Nat}(h:allTo p l i)(hl:l.length<=i):l.all p=true:=by
 rw[kF]
 intro x hx
 obtain⟨j,hj⟩:=List.getElem?_of_mem hx
 have hlt:=(List.getElem?_eq_some_iff.1 hj).1
 have:=h j ah
 rw[bi,hj] at this
 exact this
theorem iL{p:Int->Bool}{l:List Int}{i:Nat}(hi:i<l.length)(h:p (l.getD i 0)=false):l.all p=false:=by
 rw[Bool.eq_false_iff]
 intro hc
 have:=List.all_eq_true.1 hc (l.getD i 0) aa7
 rw[h] at this
 cases this
theorem FW{p:Int->Bool}{l:List Int}(h:l.all p=true)(i:Nat)(hi:i<l.length):p (l.getD i 0)=true:=
 List.all_eq_true.1 h _ aa7
def oh(a b:List Int)(num:Int)(i:Nat):Int:=(a.getD i 0*(4-num)+b.getD i 0*num).tdiv 4
def jK(a b:List Int)(num:Int):Bool:=decide (0<=num/\num<=4)&&(bM a&&bM b)
def je(a b:List Int)(num:Int):List Int:=if jK a b num then(List.range 8).map (oh a b num) else List.replicate 8 0
def aZ(b:Bool):Int:=if b then 0 else 2
theorem CJ(a b:List Int)(num:Int):(je a b num).length=8:=by unfold je;split<;>simp
theorem VS{x y n:Int}(hx: -32768<x/\x<32768)(hy: -32768<y/\y<32768)(hn:0<=n/\n<=4): -262144<=x*(4-n)/\x*(4-n)<=262144/\ -262144<=y*n/\y*n<=262144:=by
 have h1:=ja (x:=x) (X:=32768) (y:=4-n) (Y:=4) ah ah ah ah
 have h2:=ja (x:=y) (X:=32768) (y:=n) (Y:=4) ah ah ah ah
 omega
def exF(g:Int):Nat->Int
 |0=>32768
 |i+1=>(exF g i*g+16384)/32768
def cH(k:List Int):Nat->List Int
 |0=>[16777216]
 |m+1=>lV (cH k m) (k.getD m 0) (m+1)
theorem Px(k:List Int)(m:Nat):(cH k m).length=m+1:=by
 cases m with
 |zero=>rfl
 |succ m=>simp[cH,vO]
theorem aea{k:List Int}(h:∀i,-32768<=k.getD i 0/\k.getD i 0<=32768)(m:Nat):Within (16777216*2^m) (cH k m):=by
 induction m with
 |zero=>
  intro i
  simp only[cH]
  match i with
  |0=>simp
  |i+1=>simp
 |succ m ih=>
  have h2:=Within.grow (m:=m+1) (by have:(0:Int)<2^m:=Int.pow_pos aB;omega) ih (h m)
  have e:(16777216:Int)*2^(m+1)=2*(16777216*2^m):=by rw[Int.pow_succ];omega
  rw[e]
  exact h2
def lW(k:List Int):List Int:=if bM k then(List.range 9).map (fun i=>((cH k 8).getD i 0+2048)/4096) else List.replicate 9 0
theorem Pz(k:List Int):(lW k).length=9:=by unfold lW;split<;>simp
theorem Gj:(Tryz.prog.info? 3).map (·.size)=some 1:=au
theorem VY{ops:Array Oper}{o:Oper}{a:Act}{w:World}{K:Act->World->Prop}{Q:Exit->Act->World->Prop}{E:Prop}(hgd:o.guard=none)(d s:Operand)(dT sT:TypeId)
 (ho:o.op=.call {callee:=.builtin .copy,args:= #[d,s],argTypes:= #[dT,sT]}) (hu:Tryz.prog.underlying dT=some (.slice 3))
 (g off dLen dCap:Nat) (ad:Addr) (sLen sCap:Nat) (hd:a.eval d=.slice (some ⟨g,off,none⟩) dLen dCap) (hs:a.eval s=.slice (some ad) sLen sCap)
 (t:TypeId) (xs ys zs:List Int) (hg:IB w g t xs) (hn:ys.length=Nat.min sLen dLen) (hsrc:∀j,j<ys.length->w.cell? (ad.add j)=some (.int .i64 (ys.getD j 0)))
 (hfit:off+ys.length<=xs.length) (hz:zs=xs.take off++ys++xs.drop (off+ys.length))
 (h:K (a.put o.dst (goInt ys.length)) (w.setRow g (agi zs))):
 if Region.wanted o (yielded ops a.tmps)=true then Oper.wp Tryz.prog o a w K Q else E:=by
 have hw:Region.wanted o (yielded ops a.tmps)=true:=Na
 rw[if_pos hw]
 have hrun:=run_copy_row (P:=Tryz.prog) w dT sT o.type 3 g off dLen dCap ad sLen sCap (agi xs) t (aj ys) hu Gj hg (by rw[aQ];exact hn)
  (fun j v hv=>by
    have hj:j<ys.length:=by
     have:=(List.getElem?_eq_some_iff.mp hv).1
     rwa [aQ] at this
    rw[rJ ys j hj] at hv
    rw[<-hv]
    exact hsrc j hj) (by rw[aQ,dV];exact hfit) (mQ ys)
 have e:((agi xs).toList.take off++aj ys++(agi xs).toList.drop (off+(aj ys).length)).toArray=agi zs:=by
  subst hz
  simp[agi,aj,List.map_take,List.map_drop]
 rw[e,aQ] at hrun
 unfold Oper.wp
 simp[execOp,ho,resolve,invoke,builtin,hd,hs,hrun,Result.andThen]
 exact h
theorem x8{fn:Func}{p:Tmp}{ty:TypeId}(h:fn.results= #[.cell p ty])(tmps:Array Value)(w:World)(g:Nat)(t:TypeId)(xs:List Int)(d:TypeDesc)(n:Nat)
 (hp:tmps.getD p undef=.pointer (some ⟨g,0,none⟩)) (hg:IB w g t xs) (hu:Tryz.prog.underlying ty=some d) (hd:mV d=true) (hi:(Tryz.prog.info? ty).map (·.size)=some n) (hl:xs.length=n):
 (results fn tmps).run Tryz.prog w=.ok (.agg (agi xs)) w:=by
 have hp':tmps[p]?.getD undef=.pointer (some ⟨g,0,none⟩):=uu
 have hr:=run_loadVar_row (P:=Tryz.prog) w g t ty (agi xs) (0,0) d hg hu (by cases d<;>first|rfl|(simp[mV] at hd)) Bv
 simp[results,h,hp',asAddr,hr]
theorem vP{ops:Array Oper}{rest:List Oper}{o:Oper}{a:Act}{w:World}{Q:Exit->Act->World->Prop}(hgd:o.guard=none)(s x:Operand)
 (ho:o.op=.call {callee:=.builtin .append,args:= #[s,x],argTypes:= #[27,27]})
 (base:Nat) (A:Option Addr) (c n:Nat) (xs:List Int) (hs:a.eval s=.slice A n c) (hn:xs.length=n) (hown:Own w base A c xs)
 (ad:Addr) (y:Int) (hx:a.eval x=.slice (some ad) 1 1) (hc:w.cell? ad=some (.int .i64 y)) (hlen:n+1<=17592186044416) (hbase:base<=w.heap.size)
 (h:∀A' c' w',Own w' base A' c' (xs++[y])->w.grownBy w' (A.map (·.block))->(A'=A\/∃g,A'=some ⟨g,0,none⟩/\w.heap.size<=g)->wpList Tryz.prog ops Q rest (a.put o.dst (.slice A' (n+1) c')) w'):wpList Tryz.prog ops Q (o::rest) a w:=by
 subst hn
 exact Vj hgd s x ho base A c xs hs hown ad y hx hc hlen hbase h
theorem oQ{ops:Array Oper}{rest:List Oper}{o:Oper}{a:Act}{w:World}{Q:Exit->Act->World->Prop}(hgd:o.guard=none)(s x:Operand)
 (ho:o.op=.call {callee:=.builtin .append,args:= #[s,x],argTypes:= #[27,27]})
 (base:Nat) (A:Option Addr) (c n:Nat) (xs:List Int) (hs:a.eval s=.slice A n c) (hn:xs.length=n) (hown:Own w base A c xs)
 (B:Nat) (A2:Option Addr) (c2 m:Nat) (ys:List Int) (hx:a.eval x=.slice A2 m c2) (hm:ys.length=m) (hr:Rs w B A2 ys) (hlen:n+m<=17592186044416) (hbase:base<=w.heap.size)
 (h:∀A' c' w',Own w' base A' c' (xs++ys)->w.grownBy w' (A.map (·.block))->(A'=A\/∃g,A'=some ⟨g,0,none⟩/\w.heap.size<=g)->wpList Tryz.prog ops Q rest (a.put o.dst (.slice A' (n+m) c')) w'):wpList Tryz.prog ops Q (o::rest) a w:=by
 subst hn
 subst hm
 exact Fv hgd s x ho base A c xs hs hown B A2 c2 ys hx hr hlen hbase h
theorem uB{a w w':World}{base:Nat}{A:Option Addr}{c:Nat}{xs:List Int}(hB:Below base a w)(hO:Own w base A c xs)(hG:w.grownBy w' (A.map (·.block)))(hb:base<=w.heap.size):Below base a w':=
 hB.grown hG hb (fun k hk=>by
  cases A with
  |none=>cases hk
  |some ad=>simp at hk;subst hk;exact(hO.lt ad rfl).1)
theorem Blk.grownA{w w':World}{g:Nat}{t:TypeId}{cs:Array Value}{A:Option Addr}(h:Blk w g t cs)(hG:w.grownBy w' (A.map (·.block)))(hne:∀ad,A=some ad->ad.block≠g):Blk w' g t cs:=
 Blk.grown h hG (fun e=>by
  cases A with
  |none=>cases e
  |some ad=>simp at e;exact hne ad rfl e.symm)
theorem vS{w:World}{A A':Option Addr}{g:Nat}(h:A'=A\/∃g',A'=some ⟨g',0,none⟩/\w.heap.size<=g')(hne:∀ad,A=some ad->ad.block≠g)(hg:g<w.heap.size):∀ad,A'=some ad->ad.block≠g:=by
 rcases h with rfl|⟨g',rfl,hg'⟩
 ·exact hne
 intro ad had
 injection had with had
 subst had
 show g'≠g
 omega
def yA(l:List (List Int)):List Value:=l.flatMap aj
theorem afZ(l:List (List Int))(x:List Int):yA l++aj x=yA (l++[x]):=by
 unfold yA
 rw[List.flatMap_append]
 simp
theorem XR:∀{l:List (List Int)} (_:∀x∈l,x.length=4) (i j:Nat) (_:i<l.length) (_:j<4),(yA l)[4*i+j]?=(aj (l.getD i []))[j]?
 |[],_,i,j,hi,_=>by simp at hi
 |x::l,h,0,j,_,hj=>by
  have h2:=h x (List.mem_cons_self ..)
  unfold yA
  rw[List.flatMap_cons,mF (by rw[aQ];omega)]
  simp
 |x::l,h,i+1,j,hi,hj=>by
  have h2:=h x (List.mem_cons_self ..)
  have ih:=XR (l:=l) (fun y hy=>h y (List.mem_cons_of_mem _ hy)) i j Fj hj
  unfold yA at*
  rw[List.flatMap_cons,uY (by rw[aQ];omega),aQ,h2,show 4*(i+1)+j-4=4*i+j from ah,ih]
  simp
def Own4(w:World)(base:Nat)(A:Option Addr)(c:Nat)(l:List (List Int)):Prop:=w.ownsRow base 33 4 (.slice A l.length c) l.length (yA l)/\∀x∈l,x.length=4
theorem af0:(Tryz.prog.info? 33).map (fun i=>(i.zero,i.size,i.bytes))=some (some (.agg #[.int .i64 0,.int .i64 0,.int .i64 0,.int .i64 0]),4,32):=au
section
variable {w w':World} {base c:Nat} {A:Option Addr} {l:List (List Int)}
theorem Own4.nil:Own4 w base none 0 []:=⟨World.ownsRow_nil w base _ _,fun x hx=>by simp at hx⟩
theorem Own4.lt(h:Own4 w base A c l):∀a,A=some a->base<=a.block/\a.block<w.heap.size:=fun a ha=>by
 subst ha
 exact World.ownsRow.lt h.1 a.block rfl
theorem Own4.below(h:Own4 w base A c l)(hb:Below w.heap.size w w'):Own4 w' base A c l:=
 ⟨World.ownsRow.kept h.1 (row:=none) ⟨hb.os,hb.tape,hb.output,hb.size,fun k hk _=>hb.block k hk⟩ UJ,h.2⟩
theorem Own4.ne_{g:Nat}(h:Own4 w base A c l)(hg:g<base):∀ad,A=some ad->ad.block≠g:=fun ad e=>by
 have:=(h.lt ad e).1
 omega
def Rs4(w:World)(g:Nat)(l:List (List Int)):Prop:=g<w.heap.size/\∀i,i<l.length->w.rangeAt g (4*i) (aj (l.getD i []))
theorem Own4.reads(h:Own4 w base A c l)(hn:0<l.length):∃g,A=some ⟨g,0,none⟩/\Rs4 w g l:=by
 have hr:=Reads.of_own h.1
 rcases h.1.2 with⟨_,h0⟩|⟨g,cap,cur,hv,_⟩
 ·omega
 injection hv with hA _ _
 subst hA
 obtain⟨ad,e,hb,hc⟩:=hr.2 hn
 injection e with e
 subst e
 refine⟨g,rfl,hb,fun i hi j v hv=>?_⟩
 have hj:j<4:=by
  have:=(List.getElem?_eq_some_iff.1 hv).1
  rw[aQ] at this
  have h4:(l.getD i []).length=4:=by
   rw[bi,jO hi]
   exact h.2 _ (List.getElem_mem hi)
  omega
 have:=hc (4*i+j) v (by rw[XR h.2 i j hi hj];exact hv)
 rwa [lI] at this
theorem Rs4.below{g:Nat}(h:Rs4 w g l)(hb:Below w.heap.size w w'):Rs4 w' g l:=
 ⟨lF h.1 hb.size,fun i hi j v hv=>(hb.cell (p:=⟨g,4*i+j,none⟩) h.1).trans (h.2 i hi j v hv)⟩
theorem Rs4.rowFar{g b:Nat}(h:Rs4 w g l)(hne:g≠b)(cs:Array Value):Rs4 (w.setRow b cs) g l:=
 ⟨by simpa[World.setRow] using h.1,fun i hi j v hv=>by
   have:=h.2 i hi j v hv
   unfold World.cell? at*
   rw[setRow_other w b g cs hne]
   exact this⟩
end
theorem af1{ops:Array Oper}{rest:List Oper}{o:Oper}{a:Act}{w:World}{Q:Exit->Act->World->Prop}(hgd:o.guard=none)(s x:Operand)
 (ho:o.op=.call {callee:=.builtin .append,args:= #[s,x],argTypes:= #[193,193]})
 (base:Nat) (A:Option Addr) (c n:Nat) (l:List (List Int)) (hs:a.eval s=.slice A n c) (hn:l.length=n) (hown:Own4 w base A c l)
 (g:Nat) (y:List Int) (hx:a.eval x=.slice (some ⟨g,0,none⟩) 1 1) (hy:IB w g 33 y) (h4:y.length=4) (hlen:n+1<=1000000) (hbase:base<=w.heap.size)
 (h:∀A' c' w',Own4 w' base A' c' (l++[y])->w.grownBy w' (A.map (·.block))->wpList Tryz.prog ops Q rest (a.put o.dst (.slice A' (n+1) c')) w'):wpList Tryz.prog ops Q (o::rest) a w:=by
 subst hn
 obtain⟨i0,hi,hz0,hz1,hz2⟩:=info_parts af0
 refine wpList_plain hgd fun K hK=>?_
 obtain⟨v',w',hrun,h2,h3,h4'⟩:=xE (P:=Tryz.prog) w base 193 o.type 33 i0 _ 4 32 Tryz.underlying193 hi hz0 hz1 hz2 rfl ah _ _ _ hown.1 (g+1) (some ⟨g,0,none⟩) 1 1 (aj y)
  ⟨by rw[aQ,h4],fun _=>⟨_,rfl,by show g<g+1;omega,fun j u hj=>by
    have hj4:j<y.length:=by
     have:=(List.getElem?_eq_some_iff.1 hj).1
     rwa [aQ] at this
    rw[lI,IB.cell hy j hj4,<-hj,rJ y j hj4]⟩⟩ (mQ y) iT ah hbase
 rw[afZ] at h2
 have hl:(l++[y]).length=l.length+1:=az
 obtain⟨A',c',hv'⟩:∃A' c',v'=.slice A' (l.length+1) c':=by
  rcases h2.2 with⟨_,h0⟩|⟨g',cap,cur,hv,_⟩
  ·omega
  exact⟨_,_,hv⟩
 subst hv'
 unfold Oper.wp execOp
 simp only[ho,resolve,invoke,builtin,nR,rD,nU,List.map_toArray,List.map_cons,List.map_nil,hs,hx,hrun]
 refine hK _ _ ?_
 refine h A' c' w' ⟨by rw[hl];exact h2,fun z hz=>?_⟩ zk
 rcases List.mem_append.1 hz with hz|hz
 ·exact hown.2 z hz
 ·obtain rfl:=List.mem_singleton.1 hz
  exact h4
def pkB:List Int:=[2,6,6,5,5,4,4,3,3,6,3,4,4,4,4,4,5,6,3,4,4,4,4,4,5]
def pkT:List Int:=[2,63,63,31,31,15,15,7,7,59,7,9,9,9,9,15,31,59,7,9,9,9,9,15,31]
def fld(g i:Nat):List Value:=[.pointer (some ⟨g,i,none⟩),.int .i64 (pkB.getD i 0),.int .i64 (pkT.getD i 0)]
def kY(g n:Nat):List Value:=(List.range n).flatMap (fld g)
theorem Du(g n:Nat):kY g n++fld g n=kY g (n+1):=by
 unfold kY
 rw[List.range_succ,List.flatMap_append]
 simp
theorem Dv(g n:Nat):(kY g n).length=n*3:=by
 induction n with
 |zero=>rfl
 |succ n ih=>rw[<-Du,gu,ih];simp[fld];omega
theorem af2(g:Nat){n i j:Nat}(hi:i<n)(hj:j<3):(kY g n)[3*i+j]?=(fld g i)[j]?:=by
 induction n with
 |zero=>omega
 |succ n ih=>
  rw[<-Du]
  by_cases h:i<n
  ·rw[mF (by rw[Dv];omega),ih h]
  obtain rfl:i=n:=ah
  rw[uY (by rw[Dv];omega),Dv]
  congr 1
  omega
theorem af4(g i:Nat):∀u∈fld g i,u.oneCell'=true:=by
 intro u hu
 unfold fld at hu
 simp only[zf,zg,or_false] at hu
 rcases hu with rfl|rfl|rfl<;>rfl
theorem XT(g:Nat){i a:Nat}{b t:Int}(ha:a=i)(hb:pkB.getD i 0=b)(ht:pkT.getD i 0=t):[Value.pointer (some ⟨g,a,none⟩),.int .i64 b,.int .i64 t]=fld g i:=by
 unfold fld
 rw[hb,ht,ha]
theorem XU(g n:Nat){l:List Value}(h:l=fld g n):kY g n++l=kY g (n+1):=by rw[h];exact Du g n
theorem Ie(g n:Nat){l:List Value}(h:l=fld g n++fld g (n+1)):kY g n++l=kY g (n+2):=by rw[h,<-mG,Du,Du]
theorem XV(g n:Nat)(u:Value)(hu:u∈kY g n):u.oneCell'=true:=by
 unfold kY at hu
 obtain⟨i,_,h⟩:=List.mem_flatMap.1 hu
 exact af4 g i u h
theorem Qq:pkB.length=25:=rfl
theorem Qr:pkT.length=25:=rfl
def OwnF(w:World)(base:Nat)(A:Option Addr)(c g n:Nat):Prop:=w.ownsRow base 122 3 (.slice A n c) n (kY g n)
theorem XY:(Tryz.prog.info? 122).map (fun i=>(i.zero,i.size,i.bytes))=some (some (.agg #[.pointer none,.int .i64 0,.int .i64 0]),3,24):=au
section
variable {w w':World} {base c g n:Nat} {A:Option Addr}
theorem OwnF.lt(h:OwnF w base A c g n):∀a,A=some a->base<=a.block/\a.block<w.heap.size:=fun a ha=>by
 subst ha
 exact World.ownsRow.lt h a.block rfl
theorem OwnF.alloc(h:OwnF w base A c g n)(o:Obj):OwnF (w.alloc o) base A c g n:=World.ownsRow.alloc h o
theorem OwnF.drew(h:OwnF w base A c g n):OwnF w.drew base A c g n:=h
theorem OwnF.at_(h:OwnF w base A c g n)(hn:0<n):∃b,A=some ⟨b,0,none⟩/\b<w.heap.size/\base<=b/\∀i,i<n->w.cell? ⟨b,3*i,none⟩=some (.pointer (some ⟨g,i,none⟩))/\w.cell? ⟨b,3*i+1,none⟩=some (.int .i64 (pkB.getD i 0))/\w.cell? ⟨b,3*i+2,none⟩=some (.int .i64 (pkT.getD i 0)):=by
 have hr:=Reads.of_own h
 have hlt:=h.lt
 rcases h.2 with⟨_,h0⟩|⟨b,cap,cur,hv,_⟩
 ·omega
 injection hv with hA _ _
 subst hA
 obtain⟨ad,e,hb,hc⟩:=hr.2 hn
 injection e with e
 subst e
 refine⟨b,rfl,hb,(hlt _ rfl).1,fun i hi=>?_⟩
 have f:=fun j (hj:j<3) v (hv:(fld g i)[j]?=some v)=>hc (3*i+j) v (by rw[af2 g hi hj];exact hv)
 have f0:=f 0 ah _ rfl
 have f1:=f 1 ah _ rfl
 have f2:=f 2 ah _ rfl
 rw[lI] at f0 f1 f2
 exact⟨f0,f1,f2⟩
end
theorem XZ{ops:Array Oper}{rest:List Oper}{o:Oper}{a:Act}{w:World}{Q:Exit->Act->World->Prop}(hgd:o.guard=none)(s x:Operand)
 (ho:o.op=.call {callee:=.builtin .append,args:= #[s,x],argTypes:= #[117,117]})
 (base:Nat) (A:Option Addr) (c g n m q:Nat) (hq:n+m=q) (hs:a.eval s=.slice A n c) (hown:OwnF w base A c g n)
 (h:Nat) (cs:Array Value) (hx:a.eval x=.slice (some ⟨h,0,none⟩) m m) (hy:Blk w h 122 cs) (hcs:kY g n++cs.toList=kY g (n+m)) (hlen:n+m<=1000000) (hbase:base<=w.heap.size)
 (k:∀A' c' w',OwnF w' base A' c' g q->w.grownBy w' (A.map (·.block))->wpList Tryz.prog ops Q rest (a.put o.dst (.slice A' q c')) w'):wpList Tryz.prog ops Q (o::rest) a w:=by
 subst hq
 obtain⟨i0,hi,hz0,hz1,hz2⟩:=info_parts XY
 have hcl:cs.toList.length=m*3:=by
  exact acB
 refine wpList_plain hgd fun K hK=>?_
 obtain⟨v',w',hrun,h2,h3,h4'⟩:=xE (P:=Tryz.prog) w base 117 o.type 122 i0 _ 3 24 Tryz.underlying117 hi hz0 hz1 hz2 rfl ah _ _ _ hown (h+1) (some ⟨h,0,none⟩) m m cs.toList
  ⟨hcl,fun _=>⟨_,rfl,by show h<h+1;omega,fun j u hj=>by rw[lI,Blk.cell hy j];simpa using hj⟩⟩ (fun u hu=>XV g (n+m) u (by rw[<-hcs];exact List.mem_append_right _ hu)) iT ah hbase
 rw[hcs] at h2
 obtain⟨A',c',hv'⟩:∃A' c',v'=.slice A' (n+m) c':=by
  exact acn
 subst hv'
 unfold Oper.wp execOp
 simp only[ho,resolve,invoke,builtin,nR,rD,nU,List.map_toArray,List.map_cons,List.map_nil,hs,hx,hrun]
 exact hK _ _ (k A' c' w' h2 zk)
theorem Ig{ops:Array Oper}{o:Oper}{a:Act}{w:World}{K:Act->World->Prop}{Q:Exit->Act->World->Prop}{E:Prop}(hgd:o.guard=none)(s x:Operand)
 (ho:o.op=.call {callee:=.builtin .append,args:= #[s,x],argTypes:= #[117,117]})
 (base:Nat) (A:Option Addr) (c g n m q:Nat) (hq:n+m=q) (hs:a.eval s=.slice A n c) (hown:OwnF w base A c g n)
 (h:Nat) (cs:Array Value) (hx:a.eval x=.slice (some ⟨h,0,none⟩) m m) (hy:Blk w h 122 cs) (hcs:kY g n++cs.toList=kY g (n+m)) (hlen:n+m<=1000000) (hbase:base<=w.heap.size)
 (k:∀A' c' w',OwnF w' base A' c' g q->w.grownBy w' (A.map (·.block))->K (a.put o.dst (.slice A' q c')) w'):if Region.wanted o (yielded ops a.tmps)=true then Oper.wp Tryz.prog o a w K Q else E:=by
 have hw:Region.wanted o (yielded ops a.tmps)=true:=Na
 rw[if_pos hw]
 subst hq
 obtain⟨i0,hi,hz0,hz1,hz2⟩:=info_parts XY
 have hcl:cs.toList.length=m*3:=by
  exact acB
 obtain⟨v',w',hrun,h2,h3,h4'⟩:=xE (P:=Tryz.prog) w base 117 o.type 122 i0 _ 3 24 Tryz.underlying117 hi hz0 hz1 hz2 rfl ah _ _ _ hown (h+1) (some ⟨h,0,none⟩) m m cs.toList
  ⟨hcl,fun _=>⟨_,rfl,by show h<h+1;omega,fun j u hj=>by rw[lI,Blk.cell hy j];simpa using hj⟩⟩ (fun u hu=>XV g (n+m) u (by rw[<-hcs];exact List.mem_append_right _ hu)) iT ah hbase
 rw[hcs] at h2
 obtain⟨A',c',hv'⟩:∃A' c',v'=.slice A' (n+m) c':=by
  exact acn
 subst hv'
 unfold Oper.wp execOp
 simp only[ho,resolve,invoke,builtin,nR,rD,nU,List.map_toArray,List.map_cons,List.map_nil,hs,hx,hrun]
 exact(k A' c' w' h2 zk)
section
open Go.Shelf
def agM:Go.Shelf.Ren:=⟨fun|264=>200|n=>n,fun|53=>171|46=>82|n=>n,fun|n=>n⟩
theorem agN:Go.Proofs.Lays.n264 Tryz.prog agM:={
 mixed:=au
 f264:=Tryz.func200.trans (congrArg some au)
 t46:=Tryz.underlying82
 a46:=Tryz.isAgg82
 z46:=Tryz.sizeOf82
 v46:=Tryz.zeroValue82
 t53:=Tryz.underlying171
 a53:=Tryz.isAgg171
 z53:=Tryz.sizeOf171
 v53:=Tryz.zeroValue171}
theorem QP(x y:Nat)(hx:x<18446744073709551616)(hy:y<18446744073709551616)(w:World):
 Calls Tryz.prog 200 #[.int .u64 x,.int .u64 y] w fun e w'=>e=.returned (.tuple #[.int .u64 ((x*y/18446744073709551616:Nat):Int),.int .u64 ((x*y%18446744073709551616:Nat):Int)])/\w'=w:=
 Any.bits_Mul64 agN x y hx hy w
end
theorem agO(c f:Nat)(hc:c<18446744073709551616)(hf:f<18446744073709551616):
 c*c/18446744073709551616*f/18446744073709551616+(c*c%18446744073709551616*f/18446744073709551616+c*c/18446744073709551616*f%18446744073709551616)/18446744073709551616=c*c*f/340282366920938463463374607431768211456/\
 (c*c%18446744073709551616*f/18446744073709551616+c*c/18446744073709551616*f%18446744073709551616)%18446744073709551616=c*c*f/18446744073709551616%18446744073709551616/\
 c*c%18446744073709551616*f%18446744073709551616=c*c*f%18446744073709551616/\
 c*c*f/340282366920938463463374607431768211456<18446744073709551616:=by
 have h2:c*c<=18446744073709551615*18446744073709551615:=Nat.mul_le_mul ah ah
 have h3:c*c*f<=18446744073709551615*18446744073709551615*18446744073709551615:=Nat.mul_le_mul h2 ah
 have hd:=Nat.div_add_mod (c*c) 18446744073709551616
 have hN:c*c*f=18446744073709551616*(c*c/18446744073709551616*f)+c*c%18446744073709551616*f:=by
  rw[<-Nat.mul_assoc,<-Nat.add_mul,hd]
 clear hd h2
 generalize c*c/18446744073709551616*f=q at*
 generalize c*c%18446744073709551616*f=p at*
 generalize c*c*f=N at*
 omega
theorem agP(x y:Int)(hx:0<=x)(hy:0<=y)(w:World):(callFunc 201 #[.int .u64 x,.int .u64 y,.int .u64 0]).run Tryz.prog w=
 .ok (.value (.tuple #[.int .u64 ((x+y)%18446744073709551616),.int .u64 ((x+y)/18446744073709551616)])) w:=by
 have h:=run_add64 (P:=Tryz.prog) x y 0 hx hy ah ah w
 rw[run_callFunc_extern (e:=add64Entry) Tryz.func201 au au au au _ w,h,Int.add_zero]
 rfl
def Yx(w:World)(n:Nat)(e:Ending)(w':World):Prop:=
 e=.returned (.agg #[.int .u64 ((n/340282366920938463463374607431768211456:Nat):Int),.int .u64 ((n/18446744073709551616%18446744073709551616:Nat):Int),.int .u64 ((n%18446744073709551616:Nat):Int)])/\Below w.heap.size w w'
theorem agQ(c f:Nat)(hc:c<18446744073709551616)(hf:f<18446744073709551616)(w:World):
 Calls Tryz.prog 190 #[.int .u64 c,.int .u64 f] w (Yx w (c*c*f)):=by
 have hl:c*c%18446744073709551616<18446744073709551616:=Nat.mod_lt _ ah
 have hh:c*c/18446744073709551616<18446744073709551616:=by
  have h2:c*c<=18446744073709551615*18446744073709551615:=Nat.mul_le_mul ah ah
  omega
 obtain⟨D1,D2,D3,D4⟩:=agO c f hc hf
 have M1:=fun w1=>QP c c hc hc w1
 have M2:=fun w1=>QP (c*c%18446744073709551616) f hl hf w1
 have M3:=fun w1=>QP (c*c/18446744073709551616) f hh hf w1
 have l1:c*c%18446744073709551616*f%18446744073709551616<18446744073709551616:=Nat.mod_lt _ ah
 clear hl hh hc hf
 have FIN:=fun(w1:World) (e:Ending)=>show e=_/\Below w.heap.size w w1->Yx w (c*c*f) e w1 from id
 rw[<-D1] at D4
 rw[<-D1,<-D2,<-D3] at FIN
 clear D1 D2 D3
 generalize c*c%18446744073709551616*f%18446744073709551616=p0 at*
 generalize c*c%18446744073709551616*f/18446744073709551616=p1 at*
 generalize c*c/18446744073709551616*f%18446744073709551616=q0 at*
 generalize c*c/18446744073709551616*f/18446744073709551616=q1 at*
 generalize c*c%18446744073709551616=l at*
 generalize c*c/18446744073709551616=h at*
 have hA:=agP (p1:Nat) (q0:Nat) ah ah
 obtain⟨m,hm⟩:∃m:Nat,m=(p1+q0)%18446744073709551616:=⟨_,rfl⟩
 obtain⟨k,hk⟩:∃k:Nat,k=(p1+q0)/18446744073709551616:=⟨_,rfl⟩
 rw[show(((p1:Nat):Int)+(q0:Nat))%18446744073709551616=(m:Nat) from ah,show(((p1:Nat):Int)+(q0:Nat))/18446744073709551616=(k:Nat) from ah] at hA
 rw[<-hk] at D4 FIN
 rw[<-hm] at FIN
 have hw:IntKind.u64.wrap (((q1:Nat):Int)+(k:Nat))=((q1+k:Nat):Int):=by
  simp only[IntKind.wrap,IntKind.signed,IntKind.bits]
  simp
  omega
 have M1:=hid M1
 have M2:=hid M2
 have M3:=hid M3
 have FIN:=hid FIN
 clear hm hk D4 l1
 go_enter Tryz.func190,Tryz.ntmps190
 go_wp2_with fail
 refine(M1.out _).mono ?_
 rintro e w1 ⟨rfl,rfl⟩
 go_wp2_with fail
 refine(M2.out _).mono ?_
 rintro e w1 ⟨rfl,rfl⟩
 go_wp2_with fail
 refine(M3.out _).mono ?_
 rintro e w1 ⟨rfl,rfl⟩
 go_wp2_with fail
 refine bg (v:=.agg #[.int .u64 ((q1+k:Nat):Int),.int .u64 (m:Nat),.int .u64 (p0:Nat)]) ?_ rfl (FIN.out _ _ ⟨rfl,(aA _ _).alloc (al0z _) _⟩)
 simp[results,Tryz.results190,go_sem]
def dO(c e d f:Int):Bool:=if e<=0 then false else if f<=0 then true else decide (max d 0*max d 0*e<max c 0*max c 0*f)
theorem Yy{c e d f:Int}(h:e<=0):dO c e d f=false:=by unfold dO;rw[if_pos h]
theorem QQ{c e d f:Int}(h:0<e)(h2:f<=0):dO c e d f=true:=by unfold dO;rw[if_neg ah,if_pos h2]
theorem agR{c e d f:Int}(h:0<e)(h2:0<f):dO c e d f=decide (max d 0*max d 0*e<max c 0*max c 0*f):=by unfold dO;rw[if_neg ah,if_neg ah]
def dg(n k:Nat):Nat:=if k=0 then n/340282366920938463463374607431768211456 else if k=1 then n/18446744073709551616%18446744073709551616 else n%18446744073709551616
theorem dg0(n:Nat):dg n 0=n/340282366920938463463374607431768211456:=rfl
theorem dg1(n:Nat):dg n 1=n/18446744073709551616%18446744073709551616:=rfl
theorem dg2(n:Nat):dg n 2=n%18446744073709551616:=rfl
theorem IK(x y:Nat):
 (dg x 0≠dg y 0->(dg y 0<dg x 0↔y<x))/\(dg x 0=dg y 0->dg x 1≠dg y 1->(dg y 1<dg x 1↔y<x))/\
 (dg x 0=dg y 0->dg x 1=dg y 1->dg x 2≠dg y 2->(dg y 2<dg x 2↔y<x))/\(dg x 0=dg y 0->dg x 1=dg y 1->dg x 2=dg y 2->x=y):=by
 simp only[dg0,dg1,dg2]
 refine⟨?_,?_,?_,?_⟩<;>omega
end Go.Proofs.YthoiikkjjaldnaaGreatDoor
