/- Lemmas. -/
import Derived.Test.YtaahbkbnfpajdaaGreatDoorZef0l
import Derived.Test.YtaahbkbnfpajdaaGreatDoorZef0r
namespace Go.Proofs.YtaahbkbnfpajdaaGreatDoor
set_option linter.all false
set_option maxRecDepth 100000
set_option maxHeartbeats 8000000
open Go.RowKit
variable{g:Nat}{ps:List MemPlace}{e:En}{m:Mm}{s:Int}{D:DataW Unit}
section
open Go.Maps (Keyed)
def Bg:Value->Option (DataW Unit×List MemPlace)
 |.pointer (some a)=>if a.off=0/\a=⟨a.block,0,none⟩ then some (.lit (.int .i64 (a.block:Nat)),[]) else none
 |.pointer none=>some (.nil,[])
 |_=>none
theorem apx(g:Nat):Bg (.pointer (some ⟨g,0,none⟩))=some (.lit (.int .i64 (g:Nat)),[]):=by
 show(if(⟨g,0,none⟩:Addr).off=0/\(⟨g,0,none⟩:Addr)=⟨(⟨g,0,none⟩:Addr).block,0,none⟩ then _ else _)=_;rw[if_pos ⟨rfl,rfl⟩]
theorem apy{v:Value}(h:Bg v=some (.lit (.int .i64 (g:Nat)),ps)):v=.pointer (some ⟨g,0,none⟩):=by
 unfold Bg at h;split at h
 ·next a=>
  split at h
  ·next h1=>
   simp only[Fe,Fa,DataW.lit.injEq,Lit.int.injEq,true_and] at h;have b:a.block=g:=(by exact_mod_cast h.1);rw[h1.2,b]
  cases h
 ·cases h
 cases h
theorem apz{v:Value}(h:Bg v=some (.nil,ps)):v=.pointer none:=by
 unfold Bg at h;split at h
 ·split at h
  ·cases h
  cases h
 ·rfl
 cases h
def eF(v:Int):Lit:=.int .i64 v
theorem QI:Keyed Tryz.prog 3:=Go.Maps.int_keyed Bo
theorem QJ{v:Int}(h: -9223372036854775808<=v/\v<=9223372036854775807):keyOf Tryz.prog 3 (.int .i64 v)=some (eF v):=by
 have a:(Lit.int .i64 v).wf=true:=by simp[Lit.wf,IntKind.has,IntKind.min,IntKind.max,IntKind.signed,IntKind.bits];omega
 simp[keyOf,mapKey,Bo,a,eF]
def MpAt(W:Wd)(b n:Nat)(D:DataW Unit):Prop:=W.ownsMap Tryz.prog 3 Bg b n D
theorem aga:∀w,(zeroValue 45).run Tryz.prog w=.ok (.pointer none) w:=fun _=>aB
section
variable {W W':Wd} {b n:Nat} {D:DataW Unit}
theorem MpAt.below(h:MpAt W b n D)(a:Bw W W'):MpAt W' b n D:=
 World.ownsMap.kept (row:=none) h ⟨a.os,a.tape,a.output,a.size,fun k c _=>a.block k c⟩ ay
theorem MpAt.far(h:MpAt W b n D)(G:b≠g):∀(vs:List Value) (o:Nat),MpAt (W.setCells g o vs) b n D:=by
 intro vs;induction vs generalizing W with
 |nil=>exact fun _=>h
 |cons v vs ih=>exact fun o=>ih (World.ownsMap.setCell (a:=⟨g,o,none⟩) h G v) (o+1)
theorem MpAt.hit(h:MpAt W b n D){v:Int}{g:Nat}(f: -9223372036854775808<=v/\v<=9223372036854775807)(d:Maps.has D (eF v)=true)(e:D.atKey (eF v) .nil=.lit (.int .i64 (g:Nat))):
 (Instr.lookup 41 (.map (some b)) (.int .i64 v) true).run Tryz.prog W=.ok (.tuple #[.pointer (some ⟨g,0,none⟩),.bool true]) W:=by
 obtain⟨x,ps,a,c⟩:=World.ownsMap.look_ok h QI JU (aga W) (zd:=.nil) (zp:=[]) rfl (QJ f);rw[e] at c;rw[a,d,apy c]
theorem MpAt.miss(h:MpAt W b n D){v:Int}(e: -9223372036854775808<=v/\v<=9223372036854775807)(c:Maps.has D (eF v)=false):
 (Instr.lookup 41 (.map (some b)) (.int .i64 v) true).run Tryz.prog W=.ok (.tuple #[.pointer none,.bool false]) W:=by
 obtain⟨x,ps,a,d⟩:=World.ownsMap.look_ok h QI JU (aga W) (zd:=.nil) (zp:=[]) rfl (QJ e);rw[Maps.atKey_of_not_has c] at d;rw[a,c,apz d]
theorem MpAt.size(h:MpAt W b n D)(ty:TypeId):(Builtin.len_ #[41] ty #[.map (some b)]).run Tryz.prog W=.ok (.int .i64 (Maps.size D)) W:=World.ownsMap.len h JU ty
theorem MpAt.put(h:MpAt W b n D){v:Int}(c: -9223372036854775808<=v/\v<=9223372036854775807)(a:n<maxLen)(g:Nat):
 ∃w',(Instr.mapUpdate 41 (.map (some b)) (.int .i64 v) (.pointer (some ⟨g,0,none⟩))).run Tryz.prog W=.ok () w'/\MpAt w' b (n+1) (D.put (eF v) (.lit (.int .i64 (g:Nat))))/\W.mapTurned w' b:=
 World.ownsMap.store h QI JU a (QJ c) (apx g)
theorem MpAt.del(h:MpAt W b n D){v:Int}(a: -9223372036854775808<=v/\v<=9223372036854775807)(ty:TypeId):
 ∃w',(Builtin.delete_ #[41,3] ty #[.map (some b),.int .i64 v]).run Tryz.prog W=.ok (.tuple #[]) w'/\MpAt w' b n (D.del (eF v))/\W.mapTurned w' b:=
 World.ownsMap.drop h QI JU (QJ a) ty
end
end
def LB(w:Wd)(g:Nat)(e:En)(m:Mm):Prop:=Blk w g 61 (e.cs++m.cs).toArray
section
variable {w:Wd} {g:Nat} {e e':En} {m m':Mm}
theorem LB.E(h:LB w g e m):w.rangeAt g 0 e.cs:=iP h [] e.cs m.cs rfl rfl
theorem LB.M(h:LB w g e m)(k:e.ok):w.rangeAt g 226 m.cs:=iP h e.cs m.cs [] ay (e.len k)
theorem LB.there(h:LB w g e m)(k:e.ok)(a:m.ok)(o n:Nat)(c:o+n<=328):w.there g o n:=fun j b=>by
 refine⟨?_,Blk.frozen h _⟩;rw[Blk.cell h];have:o+j<(e.cs++m.cs).toArray.size:=by rw[zk,dN,e.len k,m.len a];omega
 rw[xP this];rfl
theorem LB.setE(h:LB w g e m)(k:e.ok)(b:e'.ok):LB (w.setCells g 0 e'.cs) g e' m:=by
 have a:Blk w g 61 ([]++(e.cs++m.cs)).toArray:=h;exact qR e'.cs e.cs [] m.cs w a (by rw[e'.len b,e.len k])
theorem LB.setM(h:LB w g e m)(k:e.ok)(d:m.ok)(c:m'.ok):LB (w.setCells g 226 m'.cs) g e m':=by
 have b:Blk w g 61 (e.cs++(m.cs++[])).toArray:=aa2;have a:=qR m'.cs m.cs e.cs [] w b (by rw[m'.len c,m.len d]);rw[xU,e.len k] at a;exact a
end
structure Dd(W:Wd)(gK gM n:Nat)(D:DataW Unit):Prop where
 K:Blk W gK 43 #[.map (some gM)]
 M:MpAt W gM n D
section
variable {W W':Wd} {gK gM n:Nat} {D:DataW Unit}
theorem Dd.below(h:Dd W gK gM n D)(a:Bw W W'):Dd W' gK gM n D:=⟨Blk.below' h.K a,h.M.below a⟩
theorem Dd.ne(h:Dd W gK gM n D):gK≠gM:=fun e=>by
 subst e;obtain⟨d,a,c,_⟩:=h.M;have b:=h.K;unfold Blk at b;rw[c] at b;cases b
theorem Dd.lt(h:Dd W gK gM n D):gM<W.heap.size:=World.ownsMap.lt h.M
end
theorem apA(w:Wd):Cl 4 #[] w (fun e w'=> ∃gK gM,e=.returned (.pointer (some ⟨gK,0,none⟩))/\w.heap.size<=gM/\gM<gK/\Dd w' gK gM 0 (.map [])/\Bw w w'):=by
 have f:= @run_makeMap Tryz.prog;have d:=aj (MpAt (w.alloc (.map #[] 0)) w.heap.size 0 (.map [])) (World.ownsMap_made w Tryz.prog 3 Bg);have b:=af (baqq w (.map #[] 0));go_enter Tryz.func4,Tryz.ntmps4;go_wp2_with fail;go_ret;have a:=Blk.new (w.alloc (.map #[] 0)) 43 #[.map (some w.heap.size)];simp only[bT] at a;have c:=(aP (w.alloc (.map #[] 0)).heap.size (w.alloc (.map #[] 0))).alloc (ax _) (.cells #[.map (some w.heap.size)] 43);exact⟨w.heap.size+1,w.heap.size,rfl,ax _,mP _,⟨a,d.o.below c⟩,b.o.alloc ay _⟩
theorem apB(gK gM n:Nat)(D:DataW Unit)(w:Wd)(h:Dd w gK gM n D):Cl 9 #[.pointer (some ⟨gK,0,none⟩)] w (fun e w'=>e=.returned (.int .i64 (Maps.size D))/\w=w'):=by
 have a:w.cell? ⟨gK,0,none⟩=some (.map (some gM)):=Blk.cell h.K 0;have b:=fun ty=>h.M.size ty;clear h;go_enter Tryz.func9,Tryz.ntmps9;go_wp2_with fail;go_ret;exact⟨rfl,rfl⟩
def jD(D:DataW Unit)(v:Int)(a:Bool):Int:=if v<0 then 2 else if a then 10 else if 32<=Maps.size D then 7 else 0
theorem agb(gK gM n:Nat)(D:DataW Unit)(v:Int)(a:Bool)(w:Wd)(h:Dd w gK gM n D)(b:jD D v a≠0):Cl 11 #[.pointer (some ⟨gK,0,none⟩),.int .i64 v,.bool a] w (fun e w'=>e=.returned (.int .i64 (jD D v a))/\w=w'):=by
 have j:w.cell? ⟨gK,0,none⟩=some (.map (some gM)):=Blk.cell h.K 0;have k:=fun ty=>h.M.size ty;clear h;unfold jD at*
 by_cases h1:v<0
 ·rw[if_pos h1]
  have d:decide (v<0)=true:=ja;exact abB
 rw[if_neg h1] at b|-;have d:decide (v<0)=false:=ja;cases a with
 |true=>
  exact abB
 |false=>
  rw[if_neg ay] at b|-;by_cases c:32<=Maps.size D
  ·rw[if_pos c]
   have f:decide ((32:Int)<=(Maps.size D:Nat))=true:=aC;have i:(32:Int)<=(Maps.size D:Nat):=ah;exact abB
  rw[if_neg c] at b;exact absurd rfl b
theorem apC(gK gM n:Nat)(D:DataW Unit)(v:Int)(b:Bool)(w:Wd)(h:Dd w gK gM n D)(P: -9223372036854775808<=v/\v<=9223372036854775807)(c:jD D v b=0)(O:n<maxLen):
 Cl 11 #[.pointer (some ⟨gK,0,none⟩),.int .i64 v,.bool b] w (fun e w'=> ∃g,e=.returned (.int .i64 0)/\w.heap.size<=g/\Dd w' gK gM (n+1) (D.put (eF v) (.lit (.int .i64 (g:Nat))))/\LB w' g enB eQ/\w.grownBy w' (some gM)):=by
 have c0:w.cell? ⟨gK,0,none⟩=some (.map (some gM)):=Blk.cell h.K 0;have hl:=fun ty=>h.M.size ty;have V:=af h;have X:=af O;have Y:=af P;have Z:=af (fun W=>apw W);have KF:=af (fun W=>N7 W);clear h O;unfold jD at c;by_cases h1:v<0
 ·rw[if_pos h1] at c;cases c
 rw[if_neg h1] at c;cases b with
 |true=>rw[if_pos rfl] at c;cases c
 |false=>
  rw[if_neg ay] at c;by_cases h2:32<=Maps.size D
  ·rw[if_pos h2] at c;cases c
  have b1:decide (v<0)=false:=ja;have b2:decide ((32:Int)<=(Maps.size D:Nat))=false:=aC;have b3: ¬(32:Int)<=(Maps.size D:Nat):=ah;clear c P;go_enter Tryz.func11,Tryz.ntmps11;go_upto_region 7 with fail;refine xQ (S:=fun W=>Blk W gK 43 #[.map (some gM)]) aB ?_;have j:=af (V.o.below (bY _));have E:=af ((aP w.heap.size w).drew);change wpAnyH _ _ _ _ _ _ _ _ (World.drew _);obtain⟨t,a⟩:=ak (World.drew w);rw[<-a] at j E|-;clear a;refine aI 0 (.pointer (some ⟨gK,0,none⟩)) rfl (.inl ⟨az,fun W q=>by(first|rfl|go_simp)⟩) j.o.K ?_;refine aI 1 (.pointer (some ⟨gK,0,none⟩)) rfl (.inl ⟨az,fun W q=>by(first|rfl|go_simp)⟩) j.o.K ?_;refine aI 2 (.pointer (some ⟨gK,0,none⟩)) rfl (.inl ⟨az,fun W q=>by(first|rfl|go_simp)⟩) j.o.K ?_;refine aI 3 (.map (some gM)) rfl (.inl ⟨az,fun W q=>by have h:=Blk.cell q 0;go_simp⟩) j.o.K ?_;refine aI 4 (.int .i64 v) rfl (.inl ⟨az,fun W q=>by(first|rfl|go_simp)⟩) j.o.K ?_;refine di (rs:=[5]) aB ay (bU rfl (fun K l=>?_) dA);go_simp;with_reducible refine(Z.o t).mono ?_
  rintro e N ⟨rfl,k⟩;have I:=af (j.o.below k);have Q:=af (aH E.o k);clear k;go_simp;refine l.out _ _ I.o.K (fun _=>?_);refine di (rs:=[6]) aB ay (bU rfl (fun K l=>?_) dA);go_simp;with_reducible refine(KF.o N).mono ?_
  rintro e r ⟨rfl,k⟩;have z:=af (I.o.below k);have F:=af (aH Q.o k);clear k;go_simp;refine l.out _ _ z.o.K (fun _=>?_);refine aI 7 (.agg (enB.cs++eQ.cs).toArray) rfl (.inl ⟨az,fun W q=>aB⟩) z.o.K ?_;refine di (rs:=[8]) aB ay (bU rfl (fun K l=>?_) dA);go_simp;have A:=baqq r (.cells (enB.cs++eQ.cs).toArray 61);have p:=af (z.o.below A);have d:=af (aH F.o A);have y:=aj (LB (r.alloc (.cells (enB.cs++eQ.cs).toArray 61)) r.heap.size enB eQ) (Blk.new _ _ _);obtain⟨W4,u⟩:=ak (r.alloc (.cells (enB.cs++eQ.cs).toArray 61));rw[<-u] at p d y|-;obtain⟨g,G⟩:=ak (r.heap.size);have T:=aj (w.heap.size<=g) (by rw[G];exact F.o.size);have U:=aj (gM<g) (by rw[G];exact z.o.lt);rw[<-G] at y|-;clear u A G;refine l.out _ _ p.o.K (fun _=>?_);refine di (rs:=[9]) aB ay (bU rfl (fun K l=>?_) dA);obtain⟨B,x,J,L⟩:=p.o.M.put Y.o X.o g;have s:=af J;have f:=af (World.mapTurned.grown L);clear J L;go_simp;have H:=af (show Blk B gK 43 #[.map (some gM)] from(f.o.block gK (Blk.lt p.o.K) (fun e=>p.o.ne (fQ e))).trans p.o.K);have L5:=af (show LB B g enB eQ from(f.o.block g (Blk.lt y.o) (fun e=>by have:=U.o;have:=fQ e;omega)).trans y.o);have R:=af (show w.grownBy B (some gM) from⟨f.o.os.trans d.o.os,f.o.tape.trans d.o.tape,f.o.output.trans d.o.output,dL d.o.size f.o.size,fun i hi C=>(f.o.block i (je hi d.o.size) C).trans (d.o.block i hi)⟩);clear x;refine l.out _ _ H.o (fun _=>?_);refine mO aB ?_ _;go_wp2_with fail;go_ret;exact⟨rfl,g,T.o,⟨H.o,s.o⟩,L5.o,R.o⟩
theorem apD{P:Program}(w:Wd)(p:Addr)(ty:TypeId)(a:List Value)(d:TypeDesc)(c:∀j v,a[j]?=some v->w.cell? (p.add j)=some v)
 (f:P.underlying ty=some d) (U:d.isRow=true) (hi:(P.info? ty).map (·.size)=some a.length):
 (loadVar ty p).run P w=.ok (.agg a.toArray) w:=by
 have e:(loadCells p a.length).run P w=.ok a.toArray w:=run_loadCells_list (P:=P) w p a c;cases hq:P.info? ty with
 |none=>simp[hq] at hi
 |some i=>
  have Z:i.size=a.length:=by simpa[hq] using hi
  have b:(isAgg ty).run P w=.ok true w:=by
   unfold isAgg;rw[ng,QV f w];cases d<;>simp_all
  simp[loadVar,ng,b,sizeOf,typeInfo,hq,Z,e]
theorem EB.setAll{W:Wd}{e0:En}(h:EB W g e0)(k0:e0.ok)(k:e.ok):EB (W.setCells g 0 e.cs) g e:=by
 have h0:Blk W g 57 ([]++(e0.cs++[])).toArray:=aa2;exact ai5
theorem QK{W:Wd}{e0 e:Mm}(h:MB W g e0)(k0:e0.ok)(k:e.ok):MB (W.setCells g 0 e.cs) g e:=by
 have h0:Blk W g 55 ([]++(e0.cs++[])).toArray:=aa2;exact ai5
theorem apE(g:aO m=true):kw (mg m):=by
 have h:=adR (Ji (jr g).1);have j:=yB m.r;have c:exB (jZ m.r) 32440=true:=by
  unfold exB;rw[rV,lM];refine⟨aA,fun x a=>?_⟩;obtain⟨i,hi,rfl⟩:=aaB a;have b:=Xn h.1 i;rw[bK,jU hi,aap] at b;unfold okA;simp;omega
 have e:mg m=(List.range 9).map (exE (jZ m.r) 32440):=by unfold mg exL;rw[if_pos c]
 rw[e];constructor
 ·unfold okP
  rw[lM];intro x a;obtain⟨i,_,rfl⟩:=List.mem_map.1 a;have b:=Xn h.1 i;have d:=WJ (g:=32440) ah ah i;unfold exE;have f:=iU (x:=(jZ m.r).getD i 0) (X:=1048576) (y:=exF 32440 i) (Y:=32768) ah ah ah ah;exact Oc ah ah
 rw[IV _ ah];unfold exE;rw[h.2];rfl
theorem apF(m:Mm):aG (jP m)=true:=Xd _ _ _ _ _
theorem agc(g:aO m=true)(a:0<=s)(b:s<=1):ku m s=true:=by
 unfold ku;rw[g];simp;omega
theorem agd(g:aO m=true)(s:Int):aO (nM m s)=true:=by
 obtain⟨a,c,d,e,f,h,i,b⟩:=jr g;refine Ai a c d ⟨e,f,h,i,?_⟩;show 0<=er1 m s/\er1 m s<=6;unfold er1;split<;>omega
theorem apG(g:aO m=true):aO (iq m)=true:=by
 exact aip
theorem apH(g:aO m=true)(a:0<=s)(b:s<=1):aO (jQ m s)=true:=by
 unfold jQ;rw[if_pos (agc g a b)];exact apG (agd g s)
theorem apI(g:aO m=true)(a:0<=s)(b:s<=1):(lg m s).length=40/\aG (lg m s)=true:=by
 unfold lg;rw[if_pos (agc g a b)];exact⟨sZ (jr (agd g s)).2.2.2.1,apF _⟩
theorem age{a:Lz}(g:aO m=true)(f:kw a)(c:0<=s)(d:s<=1):aO (stM a m s)=true/\(stY a m s).length=40:=by
 have b:=apH g c d;obtain⟨h,hi⟩:=apI g c d;obtain⟨e,S⟩:=adS (p:=(jQ m s).p) f (jr b).2.1 hi h;unfold stM stY;rw[e,S];exact⟨adT b _ _ _,yF _ _ _ _⟩
theorem JO(g:aO m=true):aO (coM m)=true/\(coY m).length=80:=by
 have b:=apE g;obtain⟨c,e⟩:=age (a:=mg m) g b (s:=0) ah ah;obtain⟨d,f⟩:=age (a:=mg m) c b (s:=1) ah ah;unfold coM coY;rw[if_pos g,if_pos g];exact⟨d,by rw[dN,e,f]⟩
structure Cq where
 k:Int
 v:Int
 r:Bool
 A:Oz
 n:Nat
 c:Nat
 A2:Oz
 n2:Nat
 c2:Nat
def Cq.cs(q:Cq):Array Value:=wU q.k q.v q.r q.A q.n q.c q.A2 q.n2 q.c2
structure Dj(w W:Wd)(gK gM n:Nat)(D:DataW Unit)(g:Nat)(e:En)(m:Mm)(q:Cq):Prop where
 C:Blk W w.heap.size 37 q.cs
 R:Blk W (w.heap.size+1) 34 (aY 0 0 none 0 0 none 0 0)
 T:Blk W (w.heap.size+2) 34 (aY 0 q.v none 0 0 none 0 0)
 D:Dd W gK gM n D
 L:LB W g e m
 bel:Bw w W
theorem EJ{w W:Wd}{a b n:Nat}{q:Cq}(h:Dj w W a b n D g e m q):∃V,V=W/\Hy (Dj w V a b n D g e m q):=⟨W,rfl,h⟩
section
variable {w W W':Wd} {gK gM n g:Nat} {D:DataW Unit} {e:En} {m:Mm} {q:Cq}
theorem Dj.lt(h:Dj w W gK gM n D g e m q):w.heap.size+3<=W.heap.size:=Blk.lt h.T
theorem Dj.below(h:Dj w W gK gM n D g e m q)(a:Bw W W'):Dj w W' gK gM n D g e m q:=⟨Blk.below' h.C a,Blk.below' h.R a,Blk.below' h.T a,h.D.below a,Blk.below' h.L a,aH h.bel a⟩
theorem Dj.c0(h:Dj w W gK gM n D g e m q):W.cell? ⟨w.heap.size,0,none⟩=some (.int .i64 q.k):=Blk.cell h.C 0
theorem Dj.c1(h:Dj w W gK gM n D g e m q):W.cell? ⟨w.heap.size,1,none⟩=some (.int .i64 q.v):=Blk.cell h.C 1
theorem Dj.c2(h:Dj w W gK gM n D g e m q):W.cell? ⟨w.heap.size,2,none⟩=some (.bool q.r):=Blk.cell h.C 2
theorem Dj.c3(h:Dj w W gK gM n D g e m q):W.cell? ⟨w.heap.size,3,none⟩=some (.slice q.A q.n q.c):=Blk.cell h.C 3
theorem Dj.c4(h:Dj w W gK gM n D g e m q):W.cell? ⟨w.heap.size,4,none⟩=some (.slice q.A2 q.n2 q.c2):=Blk.cell h.C 4
theorem Dj.start(w:Wd)(q:Cq)(h:Dd w gK gM n D)(i:LB w g e m):
 Dj w (((w.alloc (.cells #[.int .i64 q.k,.int .i64 q.v,.bool q.r,.slice q.A q.n q.c,.slice q.A2 q.n2 q.c2] 37)).alloc (.cells #[.int .i64 0,.int .i64 0,.slice none 0 0,.slice none 0 0] 34)).alloc (.cells #[.int .i64 0,.int .i64 q.v,.slice none 0 0,.slice none 0 0] 34)) gK gM n D g e m q:=by
 have f:=Blk.new w 37 #[.int .i64 q.k,.int .i64 q.v,.bool q.r,.slice q.A q.n q.c,.slice q.A2 q.n2 q.c2];have b:=Blk.new (w.alloc (.cells #[.int .i64 q.k,.int .i64 q.v,.bool q.r,.slice q.A q.n q.c,.slice q.A2 q.n2 q.c2] 37)) 34 #[.int .i64 0,.int .i64 0,.slice none 0 0,.slice none 0 0];have d:=Blk.new ((w.alloc (.cells #[.int .i64 q.k,.int .i64 q.v,.bool q.r,.slice q.A q.n q.c,.slice q.A2 q.n2 q.c2] 37)).alloc (.cells #[.int .i64 0,.int .i64 0,.slice none 0 0,.slice none 0 0] 34)) 34 #[.int .i64 0,.int .i64 q.v,.slice none 0 0,.slice none 0 0];simp only[bT] at b d;have a:=((baqq w (.cells #[.int .i64 q.k,.int .i64 q.v,.bool q.r,.slice q.A q.n q.c,.slice q.A2 q.n2 q.c2] 37)).alloc ay (.cells #[.int .i64 0,.int .i64 0,.slice none 0 0,.slice none 0 0] 34)).alloc aC (.cells #[.int .i64 0,.int .i64 q.v,.slice none 0 0,.slice none 0 0] 34);exact⟨Blk.alloc (Blk.alloc f _) _,Blk.alloc b _,d,h.below a,Blk.below' i a,a⟩
end
def Gr(w W:Wd)(g:Nat):Prop:=w.grownBy W (some g)
section
variable {w W W':Wd} {g b:Nat}
theorem Gr.of(h:Bw w W):Gr w W g:=⟨h.os,h.tape,h.output,h.size,fun k a _=>h.block k a⟩
theorem Gr.setC(h:Gr w W g)(a:b=g\/w.heap.size<=b)(o:Nat)(v:Value):Gr w (W.setCell ⟨b,o,none⟩ v) g:=
 ⟨h.os,h.tape,h.output,dL h.size uQ,fun k d c=>(lV _ _ _ k (by
   show k≠b;rcases a with rfl|a
   ·exact fun e=>c (by rw[e])
   ·omega)).trans (h.block k d c)⟩
theorem Gr.setCs(a:b=g\/w.heap.size<=b):∀(vs:List Value) (o:Nat) (W:Wd),Gr w W g->Gr w (W.setCells b o vs) g
 |[],_,_,h=>h
 |v::vs,o,W,h=>Gr.setCs a vs (o+1) _ (h.setC a o v)
theorem Gr.row(h:Gr w W g)(f:w.heap.size<=b)(a:Array Value):Gr w (W.setRow b a) g:=
 ⟨h.os,h.tape,h.output,dL h.size wE,fun k c d=>(oz _ b k a ah).trans (h.block k c d)⟩
theorem LB.neK{gK gM n:Nat}(h:LB W g e m)(c:Dd W gK gM n D):gK≠g:=fun x=>by
 subst x;have a:=c.K;unfold LB Blk at h;unfold Blk at a;rw[h] at a;injection a with a;injection a with h2 h3;exact absurd h3 aA
theorem LB.neM{gK gM n:Nat}(h:LB W g e m)(c:Dd W gK gM n D):gM≠g:=fun x=>by
 subst x;obtain⟨f,a,d,_⟩:=c.M;unfold LB Blk at h;rw[d] at h;cases h
theorem Dd.far{gK gM n:Nat}(h:Dd W gK gM n D)(a:gK≠b)(c:gM≠b)(vs:List Value)(o:Nat):Dd (W.setCells b o vs) gK gM n D:=⟨cZ a _ _ _ h.K,h.M.far c vs o⟩
theorem Dd.row{gK gM n:Nat}(h:Dd W gK gM n D)(c:gK≠b)(d:gM≠b)(a:Array Value):Dd (W.setRow b a) gK gM n D:=
 ⟨Blk.rowFar h.K c,World.ownsMap.kept (row:=some b) h.M ⟨rfl,rfl,rfl,wE,fun k _ hn=>oz _ b k a zB⟩ (by intro e;exact d (fQ e))⟩
end
theorem apJ(gK gM n:Nat)(D:DataW Unit)(g:Nat)(e:En)(m:Mm)(q:Cq)(w:Wd)(hD:Dd w gK gM n D)(hL:LB w g e m)(ke:e.ok)(km:m.ok)(gm:aO m=true)(hv: -9223372036854775808<=q.v/\q.v<=9223372036854775807)
 (hhas:Maps.has D (eF q.v)=true) (hat:D.atKey (eF q.v) .nil=.lit (.int .i64 (g:Nat))) (hk:q.k=4) (hgl:g<w.heap.size) (hgd:gK<w.heap.size/\gM<w.heap.size):
 Cl 6 #[.pointer (some ⟨gK,0,none⟩),.agg #[.int .i64 q.k,.int .i64 q.v,.bool q.r,.slice q.A q.n q.c,.slice q.A2 q.n2 q.c2]] w (fun x w'=> ∃A4 c4,x=.returned (.agg (aY 0 q.v none 0 0 A4 80 c4))/\Own w' w.heap.size A4 c4 (coY m)/\Dd w' gK gM n D/\LB w' g e (coM m)/\w.grownBy w' (some g)):=by
 have hR:=lY (fn:=Tryz.f6) (p:=4) (ty:=34) rfl;obtain⟨V0,Y,P⟩:=EJ (Dj.start w q hD hL);have H:=Y.symm;have KE:=af ke;have KM:=af km;have hrun:=(P.o.D.below (bY _)).M.hit hv hhas hat;have O:=P.o.c0;have k2:=P.o.c1;have I:V0.cell? ⟨gK,0,none⟩=some (.map (some gM)):=Blk.cell P.o.D.K 0;clear Y hD hL ke km;rw[hk] at H O|-;have HVx:=af H;clear H;go_enter uD,uG;go_upto_region 8 with fail;rw[HVx.o];go_region;have Q:=af (P.o.below (bY _));obtain⟨B,Z⟩:=ak (World.drew V0);rw[<-Z] at Q|-;clear O k2 I hrun Z P;have O:=Q.o.c0;rw[hk] at O;have HIM:=aj ((Tryz.prog.info? 55).map (·.size)=some m.cs.length) (UN);have G:=af (fun W=>show Cl 14 #[.agg m.cs.toArray] W (fun e w'=> ∃s t,e=.returned (.tuple #[.agg (coM m).ag,.slice s 80 t,.int .i64 0])/\Own w' W.heap.size s t (coY m)/\Bw W w') from by
  have h1:=aoH m KM.o W;unfold NewM at h1;rw[(JO gm).2,gm] at h1;exact h1)
 have K2:=af (Xu KM.o);obtain⟨J,d⟩:=ak (coM m);rw[<-d] at G K2;obtain⟨ys,f⟩:=ak (coY m);rw[<-f] at G;have F:=af d;have HYS:=af f;clear d f;go_wp2_with(refine bZ rfl 55 (.tmp 115) rfl g 226 rfl m.cs _ (LB.M Q.o.L KE.o) kG rfl HIM.o ?_);with_reducible refine(G.o B).mono ?_
 rintro x w2 ⟨s,t,rfl,hO,hB⟩;have u:=af (Q.o.below hB);have O2:=af hO;have y:=af Q.o.lt;clear hO hB Q G O;have NK:=af (LB.neK u.o.L u.o.D);have NM:=af (LB.neM u.o.L u.o.D);have l:=aj (g<w.heap.size) (hgl);have X:=af (LB.setM u.o.L KE.o KM.o K2.o);have D3:=af (u.o.D.far NK.o NM.o J.cs 226);have G3:=af (Gr.setCs (g:=g) (.inl rfl) J.cs 226 _ (Gr.of u.o.bel));have U:=aj (Blk (w2.setCells g 226 J.cs) (w.heap.size+1+1) 34 (aY 0 q.v none 0 0 none 0 0)) (cZ U9 _ _ _ u.o.T);have R3:=aj (Blk (w2.setCells g 226 J.cs) (w.heap.size+1) 34 (aY 0 0 none 0 0 none 0 0)) (cZ U9 _ _ _ u.o.R);have a:=aj (Blk (w2.setCells g 226 J.cs) w.heap.size 37 q.cs) (cZ U9 _ _ _ u.o.C);have O3:=af (Own.setCs (g:=g) (by have:=l.o;have:=y.o;omega) J.cs 226 _ O2.o);obtain⟨V3,N⟩:=ak (w2.setCells g 226 J.cs);rw[<-N] at X D3 G3 U R3 a O3;have V:=af N;clear N;have t0:=Blk.cell U.o 0;have t3:=Blk.cell U.o 3;have f0:=Blk.frozen U.o 0;have f3:=Blk.frozen U.o 3;have O:V3.cell? ⟨w.heap.size,0,none⟩=some (.int .i64 4):=by have h:=Blk.cell a.o 0;rw[<-hk];exact h
 have T5:=aj (Blk ((V3.setCell ⟨w.heap.size+1+1,3,none⟩ (.slice s 80 t)).setCell ⟨w.heap.size+1+1,0,none⟩ (.int .i64 0)) (w.heap.size+1+1) 34 (aY 0 q.v none 0 0 s 80 t)) (Blk.set_ (Blk.set_ U.o 3 (.slice s 80 t)) 0 (.int .i64 0));have R5:=af (Blk.far (Blk.far R3.o (p:=⟨w.heap.size+1+1,3,none⟩) ni (.slice s 80 t)) (p:=⟨w.heap.size+1+1,0,none⟩) ni (.int .i64 0));have L5:=aj (LB _ g e J) (Blk.far (Blk.far X.o (p:=⟨w.heap.size+1+1,3,none⟩) (by have:=l.o;show g≠w.heap.size+1+1;omega) (.slice s 80 t)) (p:=⟨w.heap.size+1+1,0,none⟩) (by have:=l.o;show g≠w.heap.size+1+1;omega) (.int .i64 0));have z:=aj (gK<w.heap.size/\gM<w.heap.size) (hgd);have D4:=D3.o.far (b:=w.heap.size+1+1) Gg Gg [.slice s 80 t] 3;have D5:=af (D4.far (b:=w.heap.size+1+1) Gg Gg [.int .i64 0] 0);have G5:=af ((G3.o.setC (b:=w.heap.size+1+1) (.inr ah) 3 (.slice s 80 t)).setC (b:=w.heap.size+1+1) (.inr ah) 0 (.int .i64 0));have O5:=af (Own.setC (g:=w.heap.size+1+1) (Own.setC (g:=w.heap.size+1+1) O3.o wz 3 (.slice s 80 t)) wz 0 (.int .i64 0));obtain⟨E,i⟩:=ak ((V3.setCell ⟨w.heap.size+1+1,3,none⟩ (.slice s 80 t)).setCell ⟨w.heap.size+1+1,0,none⟩ (.int .i64 0));have D5:=aj (Dd ((V3.setCell ⟨w.heap.size+1+1,3,none⟩ (.slice s 80 t)).setCell ⟨w.heap.size+1+1,0,none⟩ (.int .i64 0)) gK gM n D) (D5.o);rw[<-i] at T5 R5 L5 D5 G5 O5;have j:=af i.symm;clear i D4;go_wp2_with(first
  |(rw[j.o];clear j t0 t3 f0 f3 O)
  |(refine jY rfl 34 (.tmp 5) rfl _ 34 _ _ rfl T5.o eX rfl bV ?_)
  |(refine jX rfl 34 (.tmp 4) (.tmp 133) rfl _ 34 _ (aY 0 q.v none 0 0 s 80 t) rfl rfl R5.o bV rfl (kM _ _ _ _ _ _ _ _) ?_)
  |(refine iY rfl 55 (.tmp 122) (.tmp 118) rfl g 226 J.ag rfl rfl (by rw[J.size K2.o];exact LB.there u.o.L KE.o KM.o 226 102 ah) (by rw[J.size K2.o];exact sS) (Mm.one _) ?_;rw[show J.ag.toList=J.cs from rfl,<-V.o];clear V))
 refine aX (v:=_) (hR _ _ _ _ _ rfl (Blk.setRow_ R5.o _) eX rfl bV) rfl ?_;have e1:=F.o;have S:=HYS.o;subst e1;subst S;exact⟨s,t,rfl,(O5.o.setRow (g:=w.heap.size+1) wz _).more (base':=w.heap.size) wz,D5.o.row Gg Gg _,Blk.rowFar L5.o U9,G5.o.row ah _⟩
section
variable {w W W':Wd} {gK gM n g:Nat} {D:DataW Unit} {e e':En} {m m':Mm} {q:Cq}
theorem Dj.far{b:Nat}(h:Dj w W gK gM n D g e m q)(G:g<w.heap.size)(U:gK<w.heap.size/\gM<w.heap.size)(a:w.heap.size+3<=b)(vs:List Value)(o:Nat):Dj w (W.setCells b o vs) gK gM n D g e m q:=
 ⟨cZ ah _ _ _ h.C,cZ ah _ _ _ h.R,cZ ah _ _ _ h.T,h.D.far ah ah _ _,cZ ah _ _ _ h.L,iJ ah _ _ _ h.bel⟩
end
structure Dz(w W:Wd)(gK gM n:Nat)(D:DataW Unit)(g:Nat)(e:En)(m:Mm)(q:Cq)(an:Array Value):Prop where
 C:Blk W w.heap.size 37 q.cs
 R:Blk W (w.heap.size+1) 34 (aY 0 0 none 0 0 none 0 0)
 T:Blk W (w.heap.size+1+1) 34 an
 D:Dd W gK gM n D
 L:LB W g e m
 G:Gr w W g
 gl:g<w.heap.size
 gd:gK<w.heap.size/\gM<w.heap.size
section
variable {w W W':Wd} {gK gM n g:Nat} {D:DataW Unit} {e e':En} {m m':Mm} {q:Cq} {an:Array Value}
theorem Dj.z(h:Dj w W gK gM n D g e m q)(G:g<w.heap.size)(U:gK<w.heap.size/\gM<w.heap.size):Dz w W gK gM n D g e m q (aY 0 q.v none 0 0 none 0 0):=⟨h.C,h.R,h.T,h.D,h.L,Gr.of h.bel,G,U⟩
theorem Dz.ans(h:Dz w W gK gM n D g e m q an)(i:Nat)(v:Value):Dz w (W.setCell ⟨w.heap.size+1+1,i,none⟩ v) gK gM n D g e m q (an.setIfInBounds i v):=
 ⟨Blk.far h.C Me v,Blk.far h.R ni v,Blk.set_ h.T i v,h.D.far (b:=w.heap.size+1+1) (by have:=h.gd;omega) (by have:=h.gd;omega) [v] i,Blk.far h.L (by have:=h.gl;show g≠w.heap.size+1+1;omega) v,h.G.setC (.inr ah) i v,h.gl,h.gd⟩
theorem Dz.lineE(h:Dz w W gK gM n D g e m q an)(k:e.ok)(a:e'.ok):Dz w (W.setCells g 0 e'.cs) gK gM n D g e' m q an:=
 ⟨cZ Gn _ _ _ h.C,cZ Gn _ _ _ h.R,cZ Gn _ _ _ h.T,h.D.far (LB.neK h.L h.D) (LB.neM h.L h.D) _ _,LB.setE h.L k a,Gr.setCs (.inl rfl) _ _ _ h.G,h.gl,h.gd⟩
theorem Dz.lineM(h:Dz w W gK gM n D g e m q an)(k:e.ok)(b:m.ok)(a:m'.ok):Dz w (W.setCells g 226 m'.cs) gK gM n D g e m' q an:=
 ⟨cZ Gn _ _ _ h.C,cZ Gn _ _ _ h.R,cZ Gn _ _ _ h.T,h.D.far (LB.neK h.L h.D) (LB.neM h.L h.D) _ _,LB.setM h.L k b a,Gr.setCs (.inl rfl) _ _ _ h.G,h.gl,h.gd⟩
end
theorem apK(gK gM n:Nat)(D:DataW Unit)(g:Nat)(e:En)(m:Mm)(q:Cq)(xs:Lz)(w:Wd)(T1:TabA w 4 dY)(T2:TabA w 1 cO)(T3:TabA w 3 dh)
 (hD:Dd w gK gM n D) (hL:LB w g e m) (ke:e.ok) (km:m.ok) (hv: -9223372036854775808<=q.v/\q.v<=9223372036854775807)
 (hhas:Maps.has D (eF q.v)=true) (hat:D.atKey (eF q.v) .nil=.lit (.int .i64 (g:Nat))) (hk:q.k=2) (hgl:g<w.heap.size) (hgd:gK<w.heap.size/\gM<w.heap.size)
 (hr:Rs w w.heap.size q.A xs) (hn:xs.length=q.n) (hx:q.n<=17592186044000) (h0:dQ e xs=0) (k2:(enE e xs q.r).ok):
 Cl 6 #[.pointer (some ⟨gK,0,none⟩),.agg #[.int .i64 q.k,.int .i64 q.v,.bool q.r,.slice q.A q.n q.c,.slice q.A2 q.n2 q.c2]] w (fun x w'=> ∃J c3 V c4,x=.returned (.agg (aY 0 q.v J (jk e xs q.r).length c3 V (enY e xs q.r).length c4))/\OwnB w' w.heap.size J c3 (jk e xs q.r)/\Own w' w.heap.size V c4 (enY e xs q.r)/\Dd w' gK gM n D/\LB w' g (enE e xs q.r) m/\w.grownBy w' (some g)):=by
 have K2:=af k2;have P:=af hgl;have j:=af hgd;have l:=af (fun W (h:Dj w W gK gM n D g e m q)=>show Cl 12 #[.agg e.cs.toArray,.slice q.A q.n q.c,.bool q.r] W (fun x w'=> ∃J c3 V c4,x=.returned (.tuple #[.agg (enE e xs q.r).ag,.slice J (jk e xs q.r).length c3,.slice V (enY e xs q.r).length c4,.int .i64 0])/\OwnB w' W.heap.size J c3 (jk e xs q.r)/\Own w' W.heap.size V c4 (enY e xs q.r)/\Bw W w') from by
  have h1:=af9 e ke q.A q.c q.n xs q.r W (T1.below h.bel) (T2.below h.bel) (T3.below h.bel) ((hr.below h.bel).more h.bel.size) hn hx;unfold EncOut at h1;rw[h0] at h1;exact h1)
 clear k2 T1 T2 T3 hr hn hx h0;obtain⟨d,hs2⟩:=ak (enE e xs q.r);obtain⟨bs,hbs⟩:=ak (jk e xs q.r);obtain⟨ys,f⟩:=ak (enY e xs q.r);rw[<-hs2] at K2|-;rw[<-hbs,<-f];rw[<-hs2,<-hbs,<-f] at l;clear hs2 hbs f;obtain⟨lb,hlb⟩:=ak (bs.length);obtain⟨ly,hly⟩:=ak (ys.length);rw[<-hlb,<-hly] at l|-;clear hlb hly;obtain⟨er,Y⟩:=ak (0:Int);rw[<-Y] at l;have y:=af Y;clear Y;have hR:=lY (fn:=Tryz.f6) (p:=4) (ty:=34) rfl;obtain⟨V0,hV0,S0⟩:=EJ (Dj.start w q hD hL);have HV0:=hV0.symm;have KE:=af ke;have KM:=af km;have hrun:=(S0.o.D.below (bY _)).M.hit hv hhas hat;have k1:=S0.o.c0;have k2:=S0.o.c1;have I:V0.cell? ⟨gK,0,none⟩=some (.map (some gM)):=Blk.cell S0.o.D.K 0;clear hV0 hD hL ke km;rw[hk] at HV0 k1|-;have HVx:=af HV0;clear HV0;go_enter uD,uG;go_upto_region 8 with fail;rw[HVx.o];go_region;have S1:=af (S0.o.below (bY _));obtain⟨B,hV1⟩:=ak (World.drew V0);rw[<-hV1] at S1|-;clear k1 k2 I hrun hV1 S0;have k1:=S1.o.c0;rw[hk] at k1;go_upto_region 17 with fail;go_cut[8,9,10,11] (fun s7 s8 s9 s10 wx=> ∃(gx:Nat) (J:Oz) (c3:Nat) (V:Oz) (c4:Nat),s7=.pointer (some ⟨gx,0,none⟩)/\s8=.slice J lb c3/\s9=.slice V ly c4/\s10=.int .i64 er/\Hy (w.heap.size+3<=gx)/\Hy (Dj w wx gK gM n D g e m q)/\Hy (EB wx gx d)/\Hy (OwnB wx (w.heap.size+3) J c3 bs)/\Hy (Own wx (w.heap.size+3) V c4 ys))
 case first=>
  have S0:=S1;refine xQ (S:=fun W=>Dj w W gK gM n D g e m q) aB ?_;have L1:=af (Dj.below S0.o (bY _));change wpAnyH _ _ _ _ _ _ _ _ (World.drew _);obtain⟨t,a⟩:=ak (World.drew B);rw[<-a] at L1|-;clear a;refine aI 0 (.pointer (some ⟨g,0,none⟩)) rfl (.inl ⟨az,fun W hW=>jf⟩) L1.o ?_;refine aI 1 (.pointer (some ⟨g,0,none⟩)) rfl (.inl ⟨az,fun W hW=>jf⟩) L1.o ?_;refine aI 2 (.pointer (some ⟨g,0,none⟩)) rfl (.inl ⟨az,fun W hW=>jf⟩) L1.o ?_;refine aI 3 (.agg e.cs.toArray) rfl (pY az 57 (.tmp 63) rfl g 0 rfl e.cs _ (fun W hW=>LB.E hW.L) Bv rfl (by rw[xu,e.len KE.o])) L1.o ?_;refine aI 4 (.pointer (some ⟨w.heap.size,3,none⟩)) rfl (.inl ⟨az,fun W hW=>jf⟩) L1.o ?_;refine aI 5 (.slice q.A q.n q.c) rfl (.inl ⟨az,fun W hW=>by have h:=hW.c3;go_simp⟩) L1.o ?_;refine aI 6 (.pointer (some ⟨w.heap.size,2,none⟩)) rfl (.inl ⟨az,fun W hW=>jf⟩) L1.o ?_;refine aI 7 (.bool q.r) rfl (.inl ⟨az,fun W hW=>by have h:=hW.c2;go_simp⟩) L1.o ?_;refine di (rs:=[8,14]) aB ay (bU rfl (fun K hK=>?_) (bU rfl (fun K hK=>?_) dA))
  ·
   go_simp;(with_reducible refine(l.o t L1.o).mono ?_);rintro e N ⟨J,c3,V,c4,rfl,hP,hR,hB⟩;have H:=aj (w.heap.size+3<=t.heap.size) (L1.o.lt);have O:=af (Dj.below L1.o hB);have Q2:=af hB;have F:=af hP;have R2:=af hR;clear hP hR hB;go_simp;refine hK.out _ _ O.o (fun _=>?_);refine aI 9 (.tuple #[.agg d.ag,.slice J lb c3,.slice V ly c4,.int .i64 er]) rfl (.inl ⟨az,fun W hW=>by(first|rfl|go_simp)⟩) O.o ?_;refine aI 10 (.agg d.ag) rfl (.inl ⟨az,fun W hW=>by(first|rfl|go_simp)⟩) O.o ?_;refine aI 11 (.slice J lb c3) rfl (.inl ⟨az,fun W hW=>by(first|rfl|go_simp)⟩) O.o ?_;refine aI 12 (.slice V ly c4) rfl (.inl ⟨az,fun W hW=>by(first|rfl|go_simp)⟩) O.o ?_;refine aI 13 (.int .i64 er) rfl (.inl ⟨az,fun W hW=>by(first|rfl|go_simp)⟩) O.o ?_;refine di (rs:=[14]) aB ay (bU rfl (fun K hK=>?_) dA);go_simp;have X:=af (Dj.below O.o (baqq _ (.cells Tryz.zeroCells57 57)));have Z3:=af (ui N);obtain⟨W3,Z⟩:=ak (N.alloc (.cells Tryz.zeroCells57 57));have Q3:=aj (Bw N W3) (Mc);rw[<-Z] at X Z3|-;clear Z;obtain⟨gx,s⟩:=ak (N.heap.size);have GX:=aj (w.heap.size+3<=gx) (by rw[s];exact O.o.lt);have GE:=af s;rw[<-s] at Z3|-;clear s;have P3:=af (F.o.below Q3.o);have R3:=af (R2.o.below Q3.o);refine hK.out _ _ X.o (fun _=>?_);refine di (rs:=[15]) aB ay (bU rfl (fun K hK=>?_) dA);rw[if_pos az];simp only[Act.put,bg,bD,bF,bG,bH,bI];refine lF 57 (.tmp 8) (.tmp 70) rfl gx 0 d.ag rfl rfl Fz zA (En.one _) ?_;have u:=af (Dj.far X.o P.o j.o GX.o (d.ag.toList) 0);have i:=af (EB.setAll Z3.o ig K2.o);have PF:=af (F.o.below (iJ (b:=gx) CO d.ag.toList 0 _ Q3.o));have RF:=af (R2.o.below (iJ (b:=gx) CO d.ag.toList 0 _ Q3.o));obtain⟨WF,hWF⟩:=ak (W3.setCells gx 0 d.ag.toList);have i:=aj (EB (W3.setCells gx 0 d.ag.toList) gx d) (i.o);rw[<-hWF] at u i PF RF|-;clear hWF;refine hK.out _ _ u.o (fun _=>?_);refine aI 16 (.slice J lb c3) rfl (.inl ⟨az,fun W hW=>by(first|rfl|go_simp)⟩) u.o ?_;refine aI 17 (.slice V ly c4) rfl (.inl ⟨az,fun W hW=>by(first|rfl|go_simp)⟩) u.o ?_;refine aI 18 (.int .i64 er) rfl (.inl ⟨az,fun W hW=>by(first|rfl|go_simp)⟩) u.o ?_;refine mO aB ?_ _;go_wp2_with fail;go_meet;exact⟨gx,J,c3,V,c4,rfl,rfl,rfl,rfl,GX,u,i,af (PF.o.more H.o),af (RF.o.more H.o)⟩
  
  go_simp;have O:=af (Dj.below L1.o (baqq _ (.cells Tryz.zeroCells57 57)));have Z2:=af (ui t);obtain⟨N,hW2⟩:=ak (t.alloc (.cells Tryz.zeroCells57 57));have Q2:=aj (Bw t N) (Md);rw[<-hW2] at O Z2|-;clear hW2;obtain⟨gx,s⟩:=ak (t.heap.size);have GX:=aj (w.heap.size+3<=gx) (by rw[s];exact L1.o.lt);have GE:=af s;rw[<-s] at Z2|-;clear s;refine hK.out _ _ O.o (fun _=>?_);refine di (rs:=[8]) aB ay (bU rfl (fun K hK=>?_) dA);go_simp;with_reducible refine(l.o N O.o).mono ?_
  rintro e W3 ⟨J,c3,V,c4,rfl,hP,hR,hB⟩;have H:=aj (w.heap.size+3<=N.heap.size) (O.o.lt);have Q:=aj (gx<N.heap.size) (Blk.lt Z2.o);have X:=af (Dj.below O.o hB);have Q3:=af hB;have Z3:=af (Blk.below' Z2.o Q3.o);have P3:=af hP;have R3:=af hR;clear hP hR hB;go_simp;refine hK.out _ _ X.o (fun _=>?_);refine aI 9 (.tuple #[.agg d.ag,.slice J lb c3,.slice V ly c4,.int .i64 er]) rfl (.inl ⟨az,fun W hW=>by(first|rfl|go_simp)⟩) X.o ?_;refine aI 10 (.agg d.ag) rfl (.inl ⟨az,fun W hW=>by(first|rfl|go_simp)⟩) X.o ?_;refine aI 11 (.slice J lb c3) rfl (.inl ⟨az,fun W hW=>by(first|rfl|go_simp)⟩) X.o ?_;refine aI 12 (.slice V ly c4) rfl (.inl ⟨az,fun W hW=>by(first|rfl|go_simp)⟩) X.o ?_;refine aI 13 (.int .i64 er) rfl (.inl ⟨az,fun W hW=>by(first|rfl|go_simp)⟩) X.o ?_;refine di (rs:=[15]) aB ay (bU rfl (fun K hK=>?_) dA);rw[if_pos az];simp only[Act.put,bg,bD,bF,bG,bH,bI];refine lF 57 (.tmp 8) (.tmp 70) rfl gx 0 d.ag rfl rfl Fz zA (En.one _) ?_;have u:=af (Dj.far X.o P.o j.o GX.o (d.ag.toList) 0);have i:=af (EB.setAll Z3.o ig K2.o);have PF:=af (JM (g:=gx) Q.o d.ag.toList 0 _ P3.o);have RF:=af (Own.setCs (g:=gx) Q.o d.ag.toList 0 _ R3.o);obtain⟨WF,hWF⟩:=ak (W3.setCells gx 0 d.ag.toList);have i:=aj (EB (W3.setCells gx 0 d.ag.toList) gx d) (i.o);rw[<-hWF] at u i PF RF|-;clear hWF;refine hK.out _ _ u.o (fun _=>?_);refine aI 16 (.slice J lb c3) rfl (.inl ⟨az,fun W hW=>by(first|rfl|go_simp)⟩) u.o ?_;refine aI 17 (.slice V ly c4) rfl (.inl ⟨az,fun W hW=>by(first|rfl|go_simp)⟩) u.o ?_;refine aI 18 (.int .i64 er) rfl (.inl ⟨az,fun W hW=>by(first|rfl|go_simp)⟩) u.o ?_;refine mO aB ?_ _;go_wp2_with fail;go_meet;exact⟨gx,J,c3,V,c4,rfl,rfl,rfl,rfl,GX,u,i,af (PF.o.more H.o),af (RF.o.more H.o)⟩
 case rest=>
  obtain⟨gx,J,c3,V,c4,rfl,rfl,rfl,rfl,GX,u,i,PF,RF⟩:=hcut;have Y:=y.o;subst Y;have Z0:=af (u.o.z P.o j.o);have Z1:=af (Z0.o.ans 0 (.int .i64 0));have E1:=aj (EB (wc.setCell ⟨w.heap.size+1+1,0,none⟩ (.int .i64 0)) gx d) (Blk.far i.o (by have:=GX.o;show gx≠w.heap.size+1+1;omega) _);have P1:=af (QH (g:=w.heap.size+1+1) PF.o ah 0 (.int .i64 0));have R1:=af (Own.setC (g:=w.heap.size+1+1) RF.o ah 0 (.int .i64 0));obtain⟨VA,C⟩:=ak (wc.setCell ⟨w.heap.size+1+1,0,none⟩ (.int .i64 0));rw[<-C] at Z1 E1 P1 R1;have U:=af C.symm;have Z2:=af (Z1.o.lineE KE.o K2.o);have F:=af (JM (g:=g) Gh d.cs 0 _ P1.o);have R2:=af (Own.setCs (g:=g) Gh d.cs 0 _ R1.o);obtain⟨VB,hVB⟩:=ak (VA.setCells g 0 d.cs);rw[<-hVB] at Z2 F R2;have HVB:=af hVB;have Z4:=af ((Z2.o.ans 2 (.slice J lb c3)).ans 3 (.slice V ly c4));have P4:=af (QH (g:=w.heap.size+1+1) (QH (g:=w.heap.size+1+1) F.o ah 2 (.slice J lb c3)) ah 3 (.slice V ly c4));have R4:=af (Own.setC (g:=w.heap.size+1+1) (Own.setC (g:=w.heap.size+1+1) R2.o ah 2 (.slice J lb c3)) ah 3 (.slice V ly c4));obtain⟨VC,hVC⟩:=ak ((VB.setCell ⟨w.heap.size+1+1,2,none⟩ (.slice J lb c3)).setCell ⟨w.heap.size+1+1,3,none⟩ (.slice V ly c4));rw[<-hVC] at Z4 P4 R4;have HVC:=af hVC.symm;have T4:=aj (Blk VC (w.heap.size+1+1) 34 (aY 0 q.v J lb c3 V ly c4)) (Z4.o.T);have t0:=Blk.cell Z0.o.T 0;have f0:=Blk.frozen Z0.o.T 0;have t2:=Blk.cell Z2.o.T 2;have t3:=Blk.cell Z2.o.T 3;have f2:=Blk.frozen Z2.o.T 2;have f3:=Blk.frozen Z2.o.T 3;clear C hVB hVC k1 l S1;go_wp2_with(first
   |(rw[U.o];clear U t0 f0)
   |(rw[HVC.o];clear HVC t2 t3 f2 f3)
   |(refine YZ rfl (.tmp 8) rfl _ d rfl E1.o K2.o ?_)
   |(refine iY rfl 57 (.tmp 83) (.tmp 79) rfl g 0 d.ag rfl rfl (by rw[En.size _ K2.o];exact LB.there Z1.o.L KE.o KM.o 0 226 ah) zA (En.one _) ?_;rw[show d.ag.toList=d.cs from rfl,<-HVB.o];clear HVB)
   |(refine jY rfl 34 (.tmp 5) rfl _ 34 _ _ rfl T4.o eX rfl bV ?_)
   |(refine jX rfl 34 (.tmp 4) (.tmp 133) rfl _ 34 _ (aY 0 q.v J lb c3 V ly c4) rfl rfl Z4.o.R bV rfl (kM _ _ _ _ _ _ _ _) ?_))
  refine aX (v:=_) (hR _ _ _ _ _ rfl (Blk.setRow_ Z4.o.R _) eX rfl bV) rfl ?_;exact⟨J,c3,V,c4,rfl,(Zo P4.o (g:=w.heap.size+1) ah _).more (base':=w.heap.size) ah,(R4.o.setRow (g:=w.heap.size+1) ah _).more (base':=w.heap.size) ah,Z4.o.D.row iZ iZ _,Blk.rowFar Z4.o.L Gh,Z4.o.G.row ah _⟩
theorem apN(gK gM n:Nat)(D:DataW Unit)(g:Nat)(e:En)(m:Mm)(q:Cq)(xs:Lz)(w:Wd)(T1:TabA w 4 dY)(T2:TabA w 1 cO)(T3:TabA w 3 dh)
 (hD:Dd w gK gM n D) (hL:LB w g e m) (ke:e.ok) (km:m.ok) (hv: -9223372036854775808<=q.v/\q.v<=9223372036854775807)
 (hhas:Maps.has D (eF q.v)=true) (hat:D.atKey (eF q.v) .nil=.lit (.int .i64 (g:Nat))) (hk:q.k=3) (hgl:g<w.heap.size) (hgd:gK<w.heap.size/\gM<w.heap.size)
 (hr:Rb w w.heap.size q.A2 xs) (hn:xs.length=q.n2) (hc:q.n2<=q.c2) (hx:Byts xs) (h0:deE m xs=0):
 Cl 6 #[.pointer (some ⟨gK,0,none⟩),.agg #[.int .i64 q.k,.int .i64 q.v,.bool q.r,.slice q.A q.n q.c,.slice q.A2 q.n2 q.c2]] w (fun x w'=> ∃A4 c4,x=.returned (.agg (aY 0 q.v none 0 0 A4 (deY m xs).length c4))/\Own w' w.heap.size A4 c4 (deY m xs)/\Dd w' gK gM n D/\LB w' g e (deM m xs)/\w.grownBy w' (some g)):=by
 have K2:=af (Pq km xs);have P:=af hgl;have j:=af hgd;have l:=af (fun W (h:Dj w W gK gM n D g e m q)=>show Cl 13 #[.agg m.cs.toArray,.slice q.A2 q.n2 q.c2] W (fun x w'=> ∃A4 c4,x=.returned (.tuple #[.agg (deM m xs).ag,.slice A4 (deY m xs).length c4,.int .i64 0])/\Own w' W.heap.size A4 c4 (deY m xs)/\Bw W w') from by
  have h1:=afK m km q.A2 q.c2 q.n2 xs W (T1.below h.bel) (T2.below h.bel) (T3.below h.bel) ((hr.below h.bel).more h.bel.size) hn hc hx;unfold NewM at h1;rw[h0] at h1;exact h1)
 clear T1 T2 T3 hr hn hc hx h0;obtain⟨J,d⟩:=ak (deM m xs);obtain⟨ys,f⟩:=ak (deY m xs);rw[<-d] at K2|-;rw[<-f];rw[<-d,<-f] at l;clear d f;obtain⟨ly,hly⟩:=ak (ys.length);rw[<-hly] at l|-;clear hly;obtain⟨er,Y⟩:=ak (0:Int);rw[<-Y] at l;have y:=af Y;clear Y;have hR:=lY (fn:=Tryz.f6) (p:=4) (ty:=34) rfl;obtain⟨V0,hV0,S0⟩:=EJ (Dj.start w q hD hL);have E:=hV0.symm;have KE:=af ke;have KM:=af km;have hrun:=(S0.o.D.below (bY _)).M.hit hv hhas hat;have k1:=S0.o.c0;have k2:=S0.o.c1;have I:V0.cell? ⟨gK,0,none⟩=some (.map (some gM)):=Blk.cell S0.o.D.K 0;clear hV0 hD hL ke km;rw[hk] at E k1|-;have HVx:=af E;clear E;go_enter uD,uG;go_upto_region 8 with fail;rw[HVx.o];go_region;have S1:=af (S0.o.below (bY _));obtain⟨B,hV1⟩:=ak (World.drew V0);rw[<-hV1] at S1|-;clear k1 k2 I hrun hV1 S0;have k1:=S1.o.c0;rw[hk] at k1;go_upto_region 22 with fail;go_cut[12,13,14] (fun s7 s9 s10 wx=> ∃(gx:Nat) (A4:Oz) (c4:Nat),s7=.pointer (some ⟨gx,0,none⟩)/\s9=.slice A4 ly c4/\s10=.int .i64 er/\Hy (w.heap.size+3<=gx)/\Hy (Dj w wx gK gM n D g e m q)/\Hy (MB wx gx J)/\Hy (Own wx (w.heap.size+3) A4 c4 ys))
 case first=>
  exact ahD
 case rest=>
  obtain⟨gx,A4,c4,rfl,rfl,rfl,GX,u,i,RF⟩:=hcut;have Y:=y.o;subst Y;have Z0:=af (u.o.z P.o j.o);have Z1:=af (Z0.o.ans 0 (.int .i64 0));have E1:=aj (MB (wc.setCell ⟨w.heap.size+1+1,0,none⟩ (.int .i64 0)) gx J) (Blk.far i.o (by have:=GX.o;show gx≠w.heap.size+1+1;omega) _);have R1:=af (Own.setC (g:=w.heap.size+1+1) RF.o ah 0 (.int .i64 0));obtain⟨VA,C⟩:=ak (wc.setCell ⟨w.heap.size+1+1,0,none⟩ (.int .i64 0));rw[<-C] at Z1 E1 R1;have U:=af C.symm;have Z2:=af (Z1.o.lineM KE.o KM.o K2.o);have R2:=af (Own.setCs (g:=g) Gh J.cs 226 _ R1.o);obtain⟨VB,F⟩:=ak (VA.setCells g 226 J.cs);rw[<-F] at Z2 R2;have HVB:=af F;have Z4:=af (Z2.o.ans 3 (.slice A4 ly c4));have R4:=af (Own.setC (g:=w.heap.size+1+1) R2.o ah 3 (.slice A4 ly c4));obtain⟨VC,V⟩:=ak (VB.setCell ⟨w.heap.size+1+1,3,none⟩ (.slice A4 ly c4));rw[<-V] at Z4 R4;have HVC:=af V.symm;have T4:=aj (Blk VC (w.heap.size+1+1) 34 (aY 0 q.v none 0 0 A4 ly c4)) (Z4.o.T);have t0:=Blk.cell Z0.o.T 0;have f0:=Blk.frozen Z0.o.T 0;have t3:=Blk.cell Z2.o.T 3;have f3:=Blk.frozen Z2.o.T 3;clear C F V k1 l S1;go_wp2_with(first
   |(rw[U.o];clear U t0 f0)
   |(rw[HVC.o];clear HVC t3 f3)
   |(refine iK rfl (.tmp 12) rfl _ J rfl E1.o K2.o ?_)
   |(refine iY rfl 55 (.tmp 107) (.tmp 104) rfl g 226 J.ag rfl rfl (by rw[Mm.size _ K2.o];exact LB.there Z1.o.L KE.o KM.o 226 102 ah) CJ (Mm.one _) ?_;rw[show J.ag.toList=J.cs from rfl,<-HVB.o];clear HVB)
   |(refine jY rfl 34 (.tmp 5) rfl _ 34 _ _ rfl T4.o eX rfl bV ?_)
   |(refine jX rfl 34 (.tmp 4) (.tmp 133) rfl _ 34 _ (aY 0 q.v none 0 0 A4 ly c4) rfl rfl Z4.o.R bV rfl (kM _ _ _ _ _ _ _ _) ?_))
  refine aX (v:=_) (hR _ _ _ _ _ rfl (Blk.setRow_ Z4.o.R _) eX rfl bV) rfl ?_;exact⟨A4,c4,rfl,(R4.o.setRow (g:=w.heap.size+1) ah _).more (base':=w.heap.size) ah,Z4.o.D.row iZ iZ _,Blk.rowFar Z4.o.L Gh,Z4.o.G.row ah _⟩
