/- Lemmas. -/
import Derived.Test.YtaahbkbnfpajdaaGreatDoorZef0e
namespace Go.Proofs.YtaahbkbnfpajdaaGreatDoor
set_option linter.all false
set_option maxRecDepth 100000
set_option maxHeartbeats 8000000
open Go.RowKit
variable{w:Wd}{x:Int}{r xs:Lz}{m:Nat}{p:Addr}{A:Oz}
def NewSE(w:Wd)(xs:Lz)(er:Int)(e:Ending)(w':Wd):Prop:=∃A c,e=.returned (.tuple #[.slice A xs.length c,.int .i64 er])/\Own w' w.heap.size A c xs/\Bw w w'
theorem NewSE.none_{w':Wd}{er:Int}(a:Bw w w'):NewSE w [] er (.returned (.tuple #[.slice none 0 0,.int .i64 er])) w':=⟨none,0,rfl,Own.nil,a⟩
theorem WP(h:Lz)(lag:Int)(w:Wd)(z:h.length=80):Cl 72 #[.agg (agi h),.int .i64 lag] w (NewSE w (dU h lag) (bz (pF lag))):=by
 by_cases h1:lag<20\/79<lag
 ·rw[show dU h lag=[] from by unfold dU;rw[NJ h1];rfl,NJ h1]
  have D:=af (NewSE.none_ (er:=2) ((aP _ w).alloc (ax _) (.cells (agi h) 53)));rcases h1 with h1|h1
  ·have s:decide (lag<20)=true:=ja
   go_enter Tryz.func72,Tryz.ntmps72;go_wp2;go_ret2;exact D.o
  have s:decide (lag<20)=false:=aC;have G:decide (79<lag)=true:=ja;go_enter Tryz.func72,Tryz.ntmps72;go_wp2;go_ret2;exact D.o
 have c:pF lag=true:=sQ ah ah;have I:=Ae (h:=h) c;obtain⟨L,rfl⟩:=gI (show 0<=lag from ah);have T:=af (fun j a=>akM (h:=h) c j a);rw[c];have R:20<=L:=ah;have S:L<=79:=ah;obtain⟨E,J⟩:=ak (80-L);have O:(80:Int)-(L:Nat)=(E:Nat):=ah;have N:E+L=80:=ah;have M:=af (IB.new w 53 h);have s:decide ((L:Int)<20)=false:=aC;have G:decide (79<(L:Int))=false:=aC;have HL:=af z;have q:=af I;have C:=af J;clear h1 c z I J;go_enter Tryz.func72,Tryz.ntmps72;go_wp2_with(at_make;refine nK rfl _ _ rfl .i64 .i64 40 rfl rfl w.heap.size ah ay ?_;intro w1 t f;have e:=af t;have l:=af (Blk.grown M.o f ay);have m:=af ((baqq w (.cells (agi h) 53)).grown f ay ay);clear t f);simp only[bT] at e;go_loopw[17] (fun g wr=> ∃(k:Nat) (ys:Lz),k<=40/\g=.int .i64 k/\Hy (ys.length=40/\∀j,j<k->ys.getD j 0=l9 h L j)/\Hy (Own wr w.heap.size (some ⟨w.heap.size+1,0,none⟩) 40 ys)/\Hy (IB wr w.heap.size 53 h)/\Hy (Bw w wr)) (fun g _=>40-(intOf g).toNat)
 case atStart=>exact⟨0,_,ah,rfl,af ⟨ay,fun j h=>ah⟩,e,l,m⟩
 case round=>
  clear e l m;obtain⟨k,ys,hk,rfl,HY,Q,n,H⟩:=hrel;by_cases hlt:k<40
  ·have Z:=Q.o.cell k uO
   have fo:=Q.o.frozen k;have B:=af (fun v=>Q.o.set_ k uO v);have NA:=af (fun v=>Blk.far n.o (p:=⟨w.heap.size+1,k,none⟩) FH v);have K:=af (fun v=>H.o.setCell (p:=⟨w.heap.size+1,k,none⟩) vY v);have r:=af (fun(v:Int) (hv:v=l9 h L k)=>show Hy ((ys.set k v).length=40/\∀j,j<k+1->(ys.set k v).getD j 0=l9 h L j) from by
    obtain⟨q1,V⟩:=HY.o;refine⟨wI,fun j a=>?_⟩;by_cases y:k=j
    ·subst y
     rw[gQ _ _ _ ah,hv]
    ·rw[gV _ _ y]
     exact V j ah)
   by_cases b:k<L
   ·have Y:=n.o.cell (E+k) qi
    have P:E+k<80:=ah;have HV:=af (show h.getD (E+k) 0=l9 h L k by rw[akN b,<-C.o]);generalize h.getD (E+k) 0=x at*
    exact aiC
   obtain⟨d,U⟩:∃d,k=L+d:=⟨k-L,ah⟩;have A:(k:Int)-(L:Nat)=(d:Nat):=ah;have X:=Q.o.cell d MR;have u:d<40:=ah;have HV:=af (show ys.getD d 0=l9 h L k by rw[HY.o.2 d ah,akO (h:=h) (lag:=L) (i:=k) ah,show k-L=d from ah]);have W:=af U;clear U;generalize ys.getD d 0=x at*
   exact aiC
  obtain rfl:k=40:=ah;have F:=aj (ys=dU h (L:Nat)) (dM (by rw[HY.o.1,q.o]) (fun j a=>by rw[HY.o.2 j (by rw[HY.o.1] at a;exact a),T.o j (by rw[HY.o.1] at a;exact a)];rfl));go_wp2;go_ret2;exact⟨_,_,by rw[q.o];rfl,by rw[<-F.o];exact Q.o,H.o⟩
theorem NT:(Tryz.prog.info? 3).map (·.size)=some 1:=aB
theorem WQ{p:Array Oper}{o:Oper}{a:Act}{w:Wd}{K:Act->Wd->Prop}{Q:Exit->Act->Wd->Prop}{E:Prop}(hgd:o.guard=none)(d s:Operand)(r z:TypeId)
 (B:o.op=.call {callee:=.builtin .copy,args:= #[d,s],argTypes:= #[r,z]}) (C:Tryz.prog.underlying r=some (.slice 3))
 (g b c i:Nat) (q:Addr) (f l:Nat) (U:a.eval d=.slice (some ⟨g,b,none⟩) c i) (Z:a.eval s=.slice (some q) f l)
 (t:TypeId) (xs ys x:Lz) (G:IB w g t xs) (A:ys.length=Nat.min f c) (n:∀j,j<ys.length->w.cell? (q.add j)=some (.int .i64 (ys.getD j 0)))
 (m:b+ys.length<=xs.length) (F:x=xs.take b++ys++xs.drop (b+ys.length))
 (h:K (a.put o.dst (goInt ys.length)) (w.setRow g (agi x))):
 if Region.wanted o (yielded p a.tmps)=true then Oper.wp Tryz.prog o a w K Q else E:=by
 have D:Region.wanted o (yielded p a.tmps)=true:=MO;rw[if_pos D];have k:=run_copy_row (P:=Tryz.prog) w r z o.type 3 g b c i q f l (agi xs) t (au ys) C NT G (by rw[bf];exact A)
  (fun j v u=>by
    have y:j<ys.length:=by
     have:=(List.getElem?_eq_some_iff.mp u).1;rwa [bf] at this
    rw[wO ys j y] at u;rw[<-u];exact n j y) (by rw[bf,dX];exact m) (o9 ys)
 have e:((agi xs).toList.take b++au ys++(agi xs).toList.drop (b+(au ys).length)).toArray=agi x:=by
  subst F;simp[agi,au,EU,JV]
 rw[e,bf] at k;unfold Oper.wp;simp[execOp,B,resolve,invoke,builtin,U,Z,k,Result.andThen];exact h
theorem Af{fn:Func}{p:Tmp}{ty:TypeId}(h:fn.results= #[.cell p ty])(a:Array Value)(w:Wd)(g:Nat)(t:TypeId)(xs:Lz)(d:TypeDesc)(n:Nat)
 (hp:a.getD p undef=.pointer (some ⟨g,0,none⟩)) (G:IB w g t xs) (e:Tryz.prog.underlying ty=some d) (U:mV d=true) (hi:(Tryz.prog.info? ty).map (·.size)=some n) (hl:xs.length=n):
 (results fn a).run Tryz.prog w=.ok (.agg (agi xs)) w:=by
 have b:a[p]?.getD undef=.pointer (some ⟨g,0,none⟩):=uV;have c:=vO (P:=Tryz.prog) w g t ty (agi xs) (0,0) d G e (by cases d<;>first|rfl|(simp[mV] at U)) Gi;simp[results,h,b,asAddr,c]
def bi(h x:Lz):Lz:=h.drop 40++x.map s16
def vk(h x:Lz)(n:Nat):Lz:=if n=40 then bi h x else List.replicate 80 0
def WS(n:Nat):Int:=if n=40 then 0 else 1
theorem pG{h x:Lz}(T:h.length=80)(a:x.length=40):(bi h x).length=80:=by unfold bi;simp[T,a]
theorem acr{h x:Lz}(T:h.length=80)(j:Nat)(a:j<40):(bi h x).getD j 0=h.getD (40+j) 0:=by
 unfold bi;simp[bK,oD (show j<(h.drop 40).length from aC)]
theorem acs{h x:Lz}(T:h.length=80)(c:x.length=40)(j:Nat)(b:j<40):(bi h x).getD (40+j) 0=s16 (x.getD j 0):=by
 unfold bi;have a:(h.drop 40).length=40:=by simp[T]
 rw[bK,uH ah,a,aae];simp[bK,jU (show j<x.length from ah)]
theorem akP{h x ys:Lz}(T:h.length=80)(b:x.length=40)(c:ys.length=80)(d:∀j,j<40->ys.getD j 0=h.getD (40+j) 0)(e:∀j,j<40->ys.getD (40+j) 0=s16 (x.getD j 0)):ys=bi h x:=by
 refine dM (by rw[c,pG T b]) (fun k f=>?_);by_cases a:k<40
 ·rw[d k a,acr T k a]
 obtain⟨j,rfl⟩:∃j,k=40+j:=⟨k-40,ah⟩;rw[e j ah,acs T b j ah]
def Ag(w:Wd)(h x:Lz)(n:Nat)(e:Ending)(w':Wd):Prop:=e=.returned (.tuple #[.agg (agi (vk h x n)),.int .i64 (WS n)])/\Bw w w'
def Z80:Lz:=List.replicate 80 0
theorem WU:Tryz.zeroCells53=agi Z80:=aB
theorem mY:(Tryz.prog.info? 53).map (·.size)=some 80:=aB
structure Kx(w wr:Wd)(ys:Lz):Prop where
 A:IB wr w.heap.size 53 ys
 R:IB wr (w.heap.size+1) 53 Z80
 bel:Bw w wr
theorem Kx.start(w:Wd)(h:Lz):Kx w ((w.alloc (.cells (agi h) 53)).alloc (.cells Tryz.zeroCells53 53)) h:=by
 have h1:=IB.new w 53 h;have h2:=IB.new (w.alloc (.cells (agi h) 53)) 53 Z80;simp only[bT] at h2;rw[WU];exact abx
theorem Kx.set_{wr:Wd}{ys:Lz}(s:Kx w wr ys)(k:Nat)(x:Int):Kx w (wr.setCell ⟨w.heap.size,k,none⟩ (.int .i64 x)) (ys.set k x):=
 ⟨IB.set_ s.A k x,Blk.far s.R ay _,s.bel.setCell ay _⟩
theorem NU(h x:Lz)(A:Oz)(c n:Nat)(w:Wd)(T:h.length=80)(L:Rs w w.heap.size A x)(E:x.length=n)(hl:n<=17592186044416):
 Cl 81 #[.agg (agi h),.slice A n c] w (Ag w h x n):=by
 have hR:=nz (fn:=Tryz.f81) (p:=4) (q:=5) (ty:=53) rfl;have b:=af (Kx.start w h);have O:=af L;have HN:=af E;have s:=af T;by_cases d:n=40
 ·subst d
  have a:vk h x 40=bi h x:=if_pos rfl;have B:=af (pG T E);have a:=af a;have l:=af (show(h.drop 40).length=40 by simp[T]);have P:=af (show h.drop 40++h.drop 40=h.take 0++h.drop 40++h.drop (0+(h.drop 40).length) by simp[T]);have t:=af (show(h.drop 40++h.drop 40).length=80 by simp[T]);have u:=af (fun(j:Nat) (m:j<40)=>show(h.drop 40++h.drop 40).getD j 0=h.getD (40+j) 0 by
   simp[bK,oD (show j<(h.drop 40).length from aC)])
  have M:=af (fun(j:Nat) (m:j<40)=>show(h.drop 40).getD j 0=h.getD (40+j) 0 by simp[bK]);clear L E T;go_enter Tryz.func81,Tryz.ntmps81;go_wp2;go_region_law (refine WQ rfl (.tmp 12) (.tmp 13) 26 26 rfl qH w.heap.size 0 80 80 ⟨w.heap.size,40,none⟩ 40 40 UF UF 53 h (h.drop 40) (h.drop 40++h.drop 40) b.o.A (by rw[l.o];rfl) (fun j m=>by rw[l.o] at m;rw[M.o j m,Addr.add_mid];exact IB.cell b.o.A (40+j) (by rw[s.o];omega)) (by rw[l.o,s.o];omega) P.o ?_)
  generalize hw4:World.setRow _ _ _=w4;have y:Kx w w4 (h.drop 40++h.drop 40):=by
   rw[<-hw4];exact⟨IB.setRow (Blk.drew b.o.A) _,Blk.rowFar (Blk.drew b.o.R) ah,aS (rQ b.o.bel) (ax _) _⟩
  have y:=af y;clear hw4 b;obtain⟨X,i⟩:=ak (h.drop 40++h.drop 40);rw[<-i] at y t u;clear i;generalize ((h.length-40:Nat):Int)=u14;simp only[Exit.then];go_wp2;go_loopw[17] (fun G wr=> ∃(k:Nat) (ys:Lz),k<=40/\G=.int .i64 k/\Hy (ys.length=80/\(∀j,j<40->ys.getD j 0=h.getD (40+j) 0)/\∀j,j<k->ys.getD (40+j) 0=s16 (x.getD j 0))/\Hy (Kx w wr ys)) (fun G _=>40-(intOf G).toNat)
  case atStart=>exact⟨0,_,ah,rfl,af ⟨t.o,u.o,fun j h=>ah⟩,y⟩
  case round=>
   clear y;obtain⟨k,ys,hk,rfl,HY,C⟩:=hrel;by_cases hlt:k<40
   ·obtain⟨Y,rfl,_,Q⟩:=(O.o.below C.o.bel).at_ (k:=k) iT
    obtain⟨J,H⟩:=ak (40+k:Nat);obtain⟨v,F⟩:=ak (x.getD k 0);rw[<-F] at Q;have Z:=IB.cell C.o.A J MR;have fo:=Blk.frozen C.o.A J;have U:IntKind.i64.wrap (40+(k:Int))=(J:Nat):=aV;have K:(J:Int)<80:=ah;have f:=af (C.o.set_ J (s16 v));have r:=aj ((ys.set J (s16 v)).length=80/\(∀j,j<40->(ys.set J (s16 v)).getD j 0=h.getD (40+j) 0)/\∀j,j<k+1->(ys.set J (s16 v)).getD (40+j) 0=s16 (x.getD j 0)) (by
     obtain⟨q1,V,W⟩:=HY.o;refine⟨wI,fun j m=>?_,fun j m=>?_⟩
     ·rw[gV _ _ ah];exact V j m
     ·by_cases S:j=k
      ·subst S
       rw[<-H,gQ _ _ _ ah,F]
      ·rw[gV _ _ ah]
       exact W j ah)
    clear H F;go_wp2_with(go_at_call 57;refine(zZ _ _).mono ?_;rintro e w' ⟨rfl,rfl⟩);go_roundw;case rel=>exact⟨k+1,_,ah,aT,r,f⟩
    case measure=>exact aW
   obtain rfl:k=40:=ah;have N:=akP s.o HN.o HY.o.1 HY.o.2.1 HY.o.2.2;subst N;have D:=af (aS C.o.bel (g:=w.heap.size+1) ah (agi (bi h x)));have I:=af (IB.setRow C.o.R (bi h x));go_wp2_with(first
    |(refine aK 53 (.tmp 2) (bi h x) 80 C.o.A iV mY B.o ?_)
    |(refine aQ 53 (.tmp 4) (.tmp 28) Z80 (bi h x) 80 C.o.R mY rfl B.o ?_))
   refine aX (v:=_) (hR _ _ _ 53 (bi h x) _ 80 rfl I.o iV rfl mY B.o) rfl ?_;exact⟨by rw[a.o];rfl,D.o⟩
 ·have a:=aj (vk h x n=Z80) (if_neg d)
  have z:=aj (WS n=1) (if_neg d);have d1:((n:Int)==40)=false:=aC;have d2:((n:Int) !=40)=true:=aC;clear d;have D:=af (aS b.o.bel (g:=w.heap.size+1) ah (agi Z80));have I:=af (IB.setRow b.o.R Z80);go_enter Tryz.func81,Tryz.ntmps81;go_wp2_with(refine abN rfl 53 (.tmp 4) (.tmp 11) rfl _ 53 Z80 Z80 80 rfl (iI Value.agg WU) b.o.R mY rfl rfl ?_);exact aiD
theorem Xa(h:Lz)(lag:Int)(w:Wd)(u:h.length=80):Cl 115 #[.agg (agi h),.int .i64 lag] w (NewSE w (dU h lag) (bz (pF lag))):=by
 by_cases h1:lag<20\/79<lag
 ·rw[show dU h lag=[] from by unfold dU;rw[NJ h1];rfl,NJ h1]
  have D:=af (NewSE.none_ (er:=2) ((aP _ w).alloc (ax _) (.cells (agi h) 53)));rcases h1 with h1|h1
  ·have p:decide (lag<20)=true:=ja
   go_enter Tryz.func115,aag;go_wp2;go_ret2;exact D.o
  have p:decide (lag<20)=false:=aC;have P:decide (79<lag)=true:=ja;go_enter Tryz.func115,aag;go_wp2;go_ret2;exact D.o
 have b:pF lag=true:=sQ ah ah;have I:=Ae (h:=h) b;obtain⟨L,rfl⟩:=gI (show 0<=lag from ah);have X:=af (show dU h (L:Nat)=(List.range 40).map (l9 h L) by unfold dU;rw[if_pos b];rfl);rw[b];have V:20<=L:=ah;have W:L<=79:=ah;obtain⟨E,J⟩:=ak (80-L);have S:(80:Int)-(L:Nat)=(E:Nat):=ah;have R:E+L=80:=ah;have M:=af (IB.new w 53 h);have l:=af (baqq w (.cells (agi h) 53));have p:decide ((L:Int)<20)=false:=aC;have P:decide (79<(L:Int))=false:=aC;have HL:=af u;have z:=af I;have y:=af J;clear h1 b u I J;go_enter Tryz.func115,aag;go_wp2;go_loopw[6,7] (fun Z j wr=> ∃(k:Nat) (A:Oz) (c:Nat),k<=40/\j=.int .i64 k/\Z=.slice A k c/\Hy (Own wr w.heap.size A c ((List.range k).map (l9 h L)))/\Hy (∀f,A=some f->f.block≠w.heap.size)/\Hy (IB wr w.heap.size 53 h)/\Hy (Bw w wr)) (fun _ j _=>40-(intOf j).toNat)
 case atStart=>exact⟨0,none,0,ah,rfl,rfl,af Own.nil,af (fun f h=>qj),M,l⟩
 case round=>
  clear M l;obtain⟨k,A,c,hk,rfl,rfl,Q,n,e,H⟩:=hrel;by_cases Y:k<40
  ·have O:k%L<L:=oV _ ah
   obtain⟨r,d⟩:=ak (k%L);have ci:=e.o.cell (E+r) qi;have T:E+r<80:=ah;have a:(k:Int)%(L:Nat)=(r:Nat):=(by rw[d];simp);have i:(k:Int).tmod (L:Nat)=(r:Nat):=(by rw[RI ah,a]);have U: ¬((L:Nat):Int)=0:=ah;have B:=af (show h.getD (E+r) 0=l9 h L k by unfold l9;rw[<-d,<-y.o]);generalize h.getD (E+r) 0=x at*
   have HR:=af d;clear d;go_wp2_with(at_builtin;refine wR rfl (.tmp 18) (.tmp 27) rfl w.heap.size A c k ((List.range k).map (l9 h L)) rfl ay (Q.o.alloc _) ⟨wr.heap.size,0,none⟩ x rfl (oH wr _ _) ah (dL H.o.size ay) ?_;intro A2 c2 w2 t s q;have K:=af t;have m:=af s;have N:=af q;clear t s q);have v:=Blk.lt e.o;have C:=af (show Own w2 w.heap.size A2 c2 ((List.range (k+1)).map (l9 h L)) by rw[<-Ir,<-B.o];exact K.o);have F:=af (yj (g:=w.heap.size) N.o n.o aC);have N3:=af (Blk.grownA (Blk.alloc e.o _) m.o n.o);have G:=af (uX (H.o.alloc H.o.size _) (Q.o.alloc _) m.o (dL H.o.size ay));go_wp2;go_roundw;case rel=>exact⟨k+1,A2,c2,ah,aT,rfl,C,F,N3,G⟩
   case measure=>exact aW
  obtain rfl:k=40:=ah;go_wp2;go_ret2;exact⟨_,_,by rw[z.o];rfl,by rw[X.o];exact Q.o,H.o⟩
def mxV(p g b:Int):Int:=s16 ((s16 p*g+8192)/16384+s16 b)
def mxB(lag g:Int):Bool:=pF lag&&decide (0<=g/\g<=32767)
def mxE(h x:Lz)(lag g:Int)(i:Nat):Int:=mxV ((dU h lag).getD i 0) g (x.getD i 0)
def mxL(h x:Lz)(lag g:Int)(n:Nat):Lz:=if n=40/\mxB lag g=true then(List.range 40).map (mxE h x lag g) else[]
def mxR(lag g:Int)(n:Nat):Int:=if n=40 then bz (mxB lag g) else 1
theorem acD{h x:Lz}{lag g:Int}{n:Nat}(a:n≠40):mxL h x lag g n=[]/\mxR lag g n=1:=⟨if_neg (fun h=>a h.1),if_neg a⟩
theorem Xb{h x:Lz}{lag g:Int}(a:mxB lag g=false):mxL h x lag g 40=[]/\mxR lag g 40=2:=⟨if_neg (fun h=>by rw[a] at h;exact absurd h.2 ay),by unfold mxR;rw[if_pos rfl,a];rfl⟩
theorem yD{h x:Lz}{lag g:Int}(a:mxB lag g=true):mxL h x lag g 40=(List.range 40).map (mxE h x lag g)/\mxR lag g 40=0:=⟨if_pos ⟨rfl,a⟩,by unfold mxR;rw[if_pos rfl,a];rfl⟩
theorem Xd(h x:Lz)(lag g:Int)(n:Nat):aG (mxL h x lag g n)=true:=by
 unfold mxL;split
 ·unfold aG
  rw[lM];intro y a;obtain⟨i,_,rfl⟩:=List.mem_map.1 a;have:=nI ((s16 ((dU h lag).getD i 0)*g+8192)/16384+s16 (x.getD i 0));exact sO this.1 this.2
 rfl
theorem acE{a g:Int}(b: -32768<=a)(c:a<=32767)(d:0<=g)(e:g<=32767): -1073741824<=a*g/\a*g<=1073741824:=by
 have:=iU (x:=a) (X:=32768) (y:=g) (Y:=32768) ah ah ⟨ah,ah⟩ ⟨ah,ah⟩;omega
theorem Ob(h x:Lz)(lag g:Int)(A:Oz)(c n:Nat)(w:Wd)(T:h.length=80)(hr:Rs w w.heap.size A x)(hn:x.length=n)(hl:n<=17592186044416):
 Cl 80 #[.agg (agi h),.int .i64 lag,.int .i64 g,.slice A n c] w (NewSE w (mxL h x lag g n) (mxR lag g n)):=by
 have M:=af (IB.new w 53 h);have B0:=af (baqq w (.cells (agi h) 53));have s:=af T;have HR:=af hr;have HN:=af hn;by_cases l:n=40
 ·subst l
  have KP:=af (fun W=>WP h lag W T);clear hr hn T;cases hb:pF lag with
  |false=>
   obtain⟨a,S⟩:=Xb (h:=h) (x:=x) (lag:=lag) (g:=g) (by unfold mxB;rw[hb];rfl);rw[a,S];have z:dU h lag=[]:=(by unfold dU;rw[hb];rfl);rw[z,hb] at KP;clear a S z hb;exact abo
  |true=>
   have I:=Ae (h:=h) hb;by_cases G:0<=g/\g<=32767
   ·obtain⟨g1,g2⟩:=G
    obtain⟨a,S⟩:=yD (h:=h) (x:=x) (lag:=lag) (g:=g) aaZ;have E1:=af a;rw[S];rw[hb] at KP;have f:=af I;have HE:=af (fun i=>show mxE h x lag g i=mxV ((dU h lag).getD i 0) g (x.getD i 0) from rfl);generalize dU h lag=P at*
    clear a S hb I;go_enter Tryz.func80,Tryz.ntmps80;go_wp2_with(refine aK 53 (.tmp 4) h 80 M.o iV mY s.o ?_);refine(KP.o _).mono ?_;rintro e w1 ⟨A1,c1,rfl,hO,hB⟩;have L1:=af (aH B0.o hB);obtain⟨R,rfl,u,U⟩:=hO.head (by rw[f.o];omega);have O1:=af (hO.more (base':=w.heap.size) ay);have X:w.heap.size<=R:=(by simp at u;omega);rw[f.o];clear hO hB u U;go_wp2;go_loopw[34] (fun Y wr=> ∃(k:Nat) (ys:Lz),k<=40/\Y=.int .i64 k/\Hy (ys.length=40/\(∀j,j<k->ys.getD j 0=mxE h x lag g j)/\∀j,k<=j->ys.getD j 0=P.getD j 0)/\Hy (Own wr w.heap.size (some ⟨R,0,none⟩) c1 ys)/\Hy (Bw w wr)) (fun Y _=>40-(intOf Y).toNat)
    case atStart=>exact⟨0,P,ah,rfl,af ⟨f.o,fun j h=>ah,fun j h=>rfl⟩,O1,L1⟩
    case round=>
     clear O1 L1;obtain⟨k,ys,C,rfl,HY,Q,H⟩:=hrel;by_cases hlt:k<40
     ·obtain⟨ad,rfl,_,cb⟩:=(HR.o.below H.o).at_ (k:=k) iT
      have cp:=Q.o.cell k uO;rw[HY.o.2.2 k (ax _)] at cp;have fp:=Q.o.frozen k;have B:=af (fun v=>Q.o.set_ k uO v);have K:=af (fun v=>H.o.setCell (p:=⟨R,k,none⟩) X v);have r:=af (fun(v:Int) (hv:v=mxE h x lag g k)=>show Hy ((ys.set k v).length=40/\(∀j,j<k+1->(ys.set k v).getD j 0=mxE h x lag g j)/\∀j,k+1<=j->(ys.set k v).getD j 0=P.getD j 0) from by
       obtain⟨q1,q2,q3⟩:=HY.o;refine⟨wI,fun j hj=>?_,fun j hj=>?_⟩
       ·by_cases he:k=j
        ·subst he
         rw[gQ _ _ _ ah,hv]
        ·rw[gV _ _ he]
         exact q2 j ah
       ·rw[gV _ _ ah]
        exact q3 j ah)
      have hk40:(k:Int)<40:=ah;have d:=HE.o k;obtain⟨p,z⟩:=ak (P.getD k 0);obtain⟨b,hb⟩:=ak (x.getD k 0);rw[<-z] at cp d;rw[<-hb] at cb d;unfold mxV at d;have Z:=af (fun W=>zZ p W);have KB:=af (fun W=>zZ b W);have E:=nI p;have rb:=nI b;generalize s16 p=N at Z d E;generalize s16 b=sb at KB d rb;have hq:=acE E.1 E.2 g1 g2;obtain⟨q,m⟩:∃q,N*g=q:=⟨_,rfl⟩;rw[m] at hq d;have hw1:IntKind.i64.wrap (N*g)=q:=(by rw[m,mM];omega);have hw2:IntKind.i64.wrap (q+8192)=q+8192:=aV;obtain⟨t,F⟩:=ak ((q+8192)/16384+sb);have hw3:IntKind.i64.wrap ((q+8192)/16384+sb)=t:=(by rw[F,mM];omega);rw[<-F] at d;have KT:=af (fun W=>zZ t W);obtain⟨y,hy⟩:=ak (s16 t);rw[<-hy] at KT d;have NX:=r.o y d.symm;have O:=af (B.o y);have L:=af (K.o (.int .i64 y));clear z hb E rb hq m F hy d r B K;go_wp2_with(first
       |(go_at_call 57;(with_reducible refine(Z.o _).mono ?_);rintro e w' ⟨rfl,rfl⟩)
       |(go_at_call 57;(with_reducible refine(KB.o _).mono ?_);rintro e w' ⟨rfl,rfl⟩)
       |(go_at_call 57;(with_reducible refine(KT.o _).mono ?_);rintro e w' ⟨rfl,rfl⟩))
      go_roundw;case rel=>exact⟨k+1,_,ah,aT,NX,O,L⟩
      case measure=>exact aW
     obtain rfl:k=40:=ah;have J:ys=(List.range 40).map (mxE h x lag g):=dM (by rw[HY.o.1];simp) (fun k C=>by rw[HY.o.1] at C;rw[HY.o.2.1 k C,bJ _ C]);have J:=af J;go_wp2;go_ret2;rw[E1.o,<-J.o];exact⟨_,_,by rw[HY.o.1];rfl,Q.o,H.o⟩
   obtain⟨a,S⟩:=Xb (h:=h) (x:=x) (lag:=lag) (g:=g) aaZ;rw[a,S];rw[hb] at KP;have f:=af I;generalize dU h lag=P at*
   clear a S hb I;rcases Ff g 0 with V|V
   ·exact abo
   have hg2:32767<g:=ah;have hg3: ¬g<0:=ah;exact abo
 ·obtain⟨a,S⟩:=acD (h:=h) (x:=x) (lag:=lag) (g:=g) l
  rw[a,S];have d1:((n:Int)==40)=false:=aC;have d2:((n:Int) !=40)=true:=aC;have D:=af (NewSE.none_ (er:=1) B0.o);clear l a S;go_enter Tryz.func80,Tryz.ntmps80;go_wp2;go_ret2;exact D.o
theorem Blk.stored{g:Nat}{t:TypeId}{a c2:Array Value}(h:Blk w g t a)(o:Obj):Blk ((w.alloc o).setRow w.heap.size c2) g t a:=
 Blk.rowFar (Blk.alloc h o) (by have:=Blk.lt h;omega)
theorem IB.stored(w:Wd)(t:TypeId)(a ys:Lz):IB ((w.alloc (.cells (agi a) t)).setRow w.heap.size (agi ys)) w.heap.size t ys:=(IB.new w t a).setRow ys
theorem dI(w:Wd)(o:Obj)(c2:Array Value):Bw w ((w.alloc o).setRow w.heap.size c2):=
 aS ((aP _ w).alloc (ax _) o) (ax _) c2
def okS(x:Int):Bool:=decide (-2147483647<=x/\x<=2147483647)
theorem ae1(a: -2147483647<=x)(b:x<=2147483647):okS x=true:=by unfold okS;simp;omega
theorem ae2(h:x< -2147483647\/2147483647<x):okS x=false:=by unfold okS;simp;omega
def jS(r:Lz):Lz×Int×Bool:=if r.all okS=false\/r.getD 0 0<=0 then([],0,false) else lev r 8 1 [16777216] (r.getD 0 0) []
theorem ae3(h:r.all okS=false):jS r=([],0,false):=by unfold jS;rw[if_pos (.inl h)]
theorem ae4(h:r.getD 0 0<=0):jS r=([],0,false):=by unfold jS;rw[if_pos (.inr h)]
theorem aoi(h:r.all okS=true)(a:0<r.getD 0 0):jS r=lev r 8 1 [16777216] (r.getD 0 0) []:=by unfold jS;rw[if_neg (by rintro(h3|h3);(rw[h] at h3;cases h3);omega)]
theorem YP(h:r.all okS=true):Within 2147483647 r:=by
 intro i;by_cases hi:i<r.length
 ·have:=Nz h i hi
  unfold okS at this;simpa using this
 exact VZ
structure LevSt(r:Lz)(m:Nat)(al:Lz)(e:Int)(k:Lz):Prop where
 run:jS r=lev r (9-m) m al e k
 la:al.length=m
 lk:k.length+1=m
 bd:Within (16777216*2^(m-1)) al
 e0:0<e
 e1:e<=2147483647
theorem LevSt.start(h:r.all okS=true)(a:0<r.getD 0 0):LevSt r 1 [16777216] (r.getD 0 0) []:=
 ⟨aoi h a,rfl,rfl,by
   intro i;match i with
   |0=>simp
   |i+1=>simp,a,(YP h 0).2⟩
theorem LevSt.bnd{a k:Lz}{e:Int}(h:LevSt r m a e k)(O:m<=9):Within 4294967296 a:=by
 intro i;have b:=h.bd i;have c:(2:Nat)^(m-1)<=2^8:=jK aA ah;have d:((2^(m-1):Nat):Int)=2^(m-1):=ay;omega
theorem LevSt.fin{a k:Lz}{e:Int}(h:LevSt r 9 a e k):jS r=(k,e,true):=h.run
section
variable {r al k:Lz} {m:Nat} {e q:Int}
theorem LevSt.stop(h:LevSt r m al e k)(c:1<=m)(O:m<=8)(b:q=(-nJ al r m*32768).tdiv e)(a:q<= -32000\/32000<=q):jS r=(k,e,false):=by
 rw[h.run,show 9-m=(8-m)+1 from ah,Ny r (8-m) m al e k q _ b rfl,if_pos a]
theorem LevSt.none_(h:LevSt r m al e k)(d:1<=m)(O:m<=8)(c:q=(-nJ al r m*32768).tdiv e)(f: -32000<q)(a:q<32000)(b:e-e*q/32768*q/32768<=0):jS r=(k++[q],0,false):=by
 rw[h.run,show 9-m=(8-m)+1 from ah,Ny r (8-m) m al e k q _ c rfl,if_neg ah,if_pos b]
theorem LevSt.next(h:LevSt r m al e k)(g:1<=m)(O:m<=8)(f:q=(-nJ al r m*32768).tdiv e)(c: -32000<q)(a:q<32000)(d:0<e-e*q/32768*q/32768):
 LevSt r (m+1) (oL al q m) (e-e*q/32768*q/32768) (k++[q]):=by
 have J:=WI h.e0 h.e1 c a;refine⟨?_,yA _ _ _,by have:=h.lk;simp;omega,?_,d,by have:=h.e1;omega⟩
 ·rw[h.run,show 9-m=(8-m)+1 from ah,Ny r (8-m) m al e k q _ f rfl,if_neg ah,if_neg ah,show 9-(m+1)=8-m from ah]
 ·have b:=Within.grow (m:=m) (by have:(0:Int)<2^(m-1):=rU aA;omega) h.bd ⟨ah,ah⟩ (q:=q)
  have S:(16777216:Int)*2^(m+1-1)=2*(16777216*2^(m-1)):=by
   rw[show m+1-1=(m-1)+1 from ah,Int.pow_succ];omega
  rw[S];exact b
end
def YQ(a al:Lz):Prop:=a.length=9/\∀j,a.getD j 0=al.getD j 0
def LevMid(al a:Lz)(q:Int)(m i:Nat):Prop:=a.length=9/\∀j,a.getD j 0=if j<i then(oL al q m).getD j 0 else al.getD j 0
theorem LevMid.start{a al:Lz}{q:Int}(h:YQ a al):LevMid al a q m 1:=⟨h.1,fun j=>by
 rw[h.2 j];split
 ·obtain rfl:j=0:=ah
  rw[zW _ _ _ _ ah,if_pos rfl]
 ·rfl⟩
theorem LevMid.step{al a:Lz}{q:Int}{m i:Nat}(h:LevMid al a q m i)(d:1<=i)(hi:i<=m)(c:i<9):
 LevMid al (a.set i (al.getD i 0+q*al.getD (m-i) 0/32768)) q m (i+1):=by
 refine⟨by simpa using h.1,fun j=>?_⟩;by_cases b:i=j
 ·subst b
  rw[bK,aaw (by rw[h.1];exact c),if_pos ah,zW _ _ _ _ hi,if_neg ah];rfl
 ·have e:(a.set i (al.getD i 0+q*al.getD (m-i) 0/32768)).getD j 0=a.getD j 0:=by
   simp[b]
  rw[e,h.2 j];exact ajk
theorem LevMid.fin{al a:Lz}{q:Int}(h:LevMid al a q m (m+1))(b:al.length=m):YQ a (oL al q m):=⟨h.1,fun j=>by
 rw[h.2 j];split
 ·rfl
 ·rw[bK,iy ah,bK,iy (by rw[yA];omega)]⟩
def nZ(al r:Lz)(m i:Nat):Int:=al.getD i 0/512*r.getD (m-i) 0/32768
theorem ae5(al r:Lz)(m:Nat):nJ al r m=aN (nZ al r m) m:=rfl
theorem YR{al r:Lz}{m:Nat}(b:Within 4294967296 al)(c:Within 2147483647 r)(i:Nat):
 (-8388608<=al.getD i 0/512/\al.getD i 0/512<=8388608)/\(-18014398509481984<=al.getD i 0/512*r.getD (m-i) 0/\al.getD i 0/512*r.getD (m-i) 0<=18014398509481984)/\(-549755813888<=nZ al r m i/\nZ al r m i<=549755813888):=by
 have d:=b i;have a:=c (m-i);have f:=iU (x:=al.getD i 0/512) (X:=8388608) (y:=r.getD (m-i) 0) (Y:=2147483647) ah ah ah a;unfold nZ;omega
theorem Qg{al:Lz}(a:Within 4294967296 al)(b:Within 2147483647 r)(i:Nat)(hi:i<=8): -4398046511104<=aN (nZ al r m) i/\aN (nZ al r m) i<=4398046511104:=by
 have h:=akA (f:=nZ al r m) (B:=549755813888) i (fun j _=>(YR a b j).2.2);have:(549755813888:Int)*i<=549755813888*8:=ah;omega
theorem aoI{y:Nat}(a:y<256):bits BinOp.and IntKind.u8 (y:Int) 1=((y%2:Nat):Int):=by
 have h:(BitVec.ofInt 8 (y:Int)&&&BitVec.ofInt 8 1).toNat=y%2:=by
  rw[aab,Cb,show(BitVec.ofInt 8 1).toNat=2^1-1 from aA,aac];omega
 show IntKind.u8.wrap ((BitVec.ofInt 8 (y:Int)&&&BitVec.ofInt 8 1).toNat:Int)=_;rw[h,Tc];omega
theorem or1{x u:Nat}(f:x<1000000)(d:u<2):bits BinOp.or IntKind.i64 ((x*2:Nat):Int) (u:Int)=((x*2+u:Nat):Int):=by
 have e:x*2+u=x*2|||u:=by
  have c:=aao (a:=x) (b:=u) (i:=1) ah;rw[Fg] at c;exact c
 have h:(BitVec.ofInt 64 ((x*2:Nat):Int)|||BitVec.ofInt 64 (u:Int)).toNat=x*2+u:=by
  rw[aam,Cb,Cb,e];congr 1<;>omega
 show IntKind.i64.wrap ((BitVec.ofInt 64 ((x*2:Nat):Int)|||BitVec.ofInt 64 (u:Int)).toNat:Int)=_;rw[h,mM];omega
structure Ust(gB gA:Nat)(A:Oz)(c:Nat)(xs:Lz)(n:Nat)(W:Wd):Prop where
 R:Rb W gB A xs
 B:Blk W gB 32 #[.slice A 15 c]
 A:Blk W gA 3 #[.int .i64 (n:Nat)]
 l1:gB<gA
section
variable {gB gA c n:Nat} {A:Oz} {xs:Lz} {W W':Wd}
theorem Ust.below(s:Ust gB gA A c xs n W)(a:Bw W W'):Ust gB gA A c xs n W':=⟨s.R.below (a.mono (kY (Blk.lt s.B))),Blk.below' s.B a,Blk.below' s.A a,s.l1⟩
theorem Ust.drewN(s:Ust gB gA A c xs n W)(k:Nat):Ust gB gA A c xs n (W.drewN k):=⟨s.R,s.B,s.A,s.l1⟩
theorem Ust.put(s:Ust gB gA A c xs n W)(m:Nat):Ust gB gA A c xs m (W.setCell ⟨gA,0,none⟩ (.int .i64 (m:Nat))):=by
 have a:=s.l1;refine⟨s.R.below ((aP _ _).setCell (p:=⟨gA,0,none⟩) (by show gB<=gA;omega) _),Blk.far s.B (p:=⟨gA,0,none⟩) (by show gB≠gA;omega) _,?_,a⟩;exact Blk.set_ s.A 0 (.int .i64 (m:Nat))
theorem Ust.far(s:Ust gB gA A c xs n W)(b:gB<p.block)(a:gA≠p.block)(v:Value):Ust gB gA A c xs n (W.setCell p v):=
 ⟨s.R.below ((aP _ _).setCell ah _),Blk.far s.B ah v,Blk.far s.A a v,s.l1⟩
end
theorem TwoP.drewN{g h:Nat}{b:Wd}(a:TwoP g h w b)(k:Nat):TwoP g h w (b.drewN k):=⟨a.os,a.tape,a.output,a.size,a.keep⟩
theorem Zd(gB gA c a n:Nat)(A:Oz)(xs:Lz)(w:Wd)(S:Ust gB gA A c xs a w)(hx:Byts xs)(Z:xs.length=15)(hc:15<=c)(hn:n<=6)(ha:a+n<=112):
 Cl 88 #[.int .i64 n,.pointer (some ⟨gB,0,none⟩),.pointer (some ⟨gA,0,none⟩)] w
  (fun e w'=>e=.returned (.int .i64 (gt (unV xs) a n:Nat))/\Ust gB gA A c xs (a+n) w'/\TwoP gA gA w w'):=by
 have X:=af S;have T:=af hx;have HL:=af Z;clear S hx Z;go_enter Tryz.func88,Tryz.ntmps88;go_wp2;go_loopw[5,7] (fun vv L wr=> ∃m:Nat,m<=n/\L=.int .i64 m/\vv=.int .i64 (gt (unV xs) a m:Nat)/\Hy (Ust gB gA A c xs (a+m) wr)/\Hy (TwoP gA gA w wr)) (fun _ L _=>n-(intOf L).toNat)
 case atStart=>exact⟨0,ah,rfl,by unfold gt;simp[Nat.mod_one],X,af (TwoP.refl _ _ _)⟩
 case round=>
  clear X;obtain⟨m,O,rfl,rfl,C,Q⟩:=hrel;by_cases hlt:m<n
  ·obtain⟨K,E⟩:=ak (a+m)
   rw[<-E] at C;obtain⟨j,hj⟩:=ak (K/8);obtain⟨q,hq⟩:=ak (7-K%8);obtain⟨P,Y⟩:=ak (112-a-(m+1));have r:j<14:=ah;have G:q<8:=ah;have i:8*(13-j)+q=P:=ah;obtain⟨ad,rfl,F,c0⟩:=C.o.R.at_ (k:=j) qi;have U:=amu T.o r;have J:=T.o j;have d:=amv (V:=unV xs) (e:=8*(13-j)) G;obtain⟨h,b⟩:=ak (jG (unV xs) (8*(13-j)));have f:h<256:=(by rw[b];exact XI _ _);have z:xs.getD j 0=(h:Nat):=by
    have:h=(xs.getD j 0).toNat:=(by rw[b];exact U);omega
   rw[z] at c0;rw[<-b,i] at d;obtain⟨y,D⟩:=ak (h/2^q);rw[<-D] at d;have g:y<256:=(by rw[D];exact Kw (Ky _ _) f);obtain⟨u,H⟩:=ak (y%2);have I:u<2:=ah;have N:=aj (gt (unV xs) a (m+1)=gt (unV xs) a m*2+u) (by
    unfold gt;rw[<-Y,show 112-a-m=P+1 from ah,H,d,Nat.shiftRight_succ];exact(amw _ _).symm)
   have hv64:gt (unV xs) a m<64:=je (Jg _ _ _) (show 2^m<=2^6 from jK aA ah);generalize gt (unV xs) a m=v at*
   have hyd:(h:Int)/2^q=(y:Nat):=(by rw[D];simp);have p:=aoI g;rw[<-H] at p;have s:=or1 (x:=v) (u:=u) ah I;obtain⟨M,l⟩:=ak (v*2);obtain⟨v3,t⟩:=ak (v*2+u);rw[<-t] at s N;rw[<-l] at s;have hvd:(v:Int)*2=((M:Nat):Int):=ah;have hvw:IntKind.i64.wrap ((M:Nat):Int)=((M:Nat):Int):=aV;clear l t;have hdj:(K:Int)/8=(j:Nat):=ah;have hdr:IntKind.i64.wrap (7-(K:Int)%8)=(q:Nat):=aV;have hqu:IntKind.u64.wrap ((q:Nat):Int)=(q:Nat):=uN;have hui:IntKind.i64.wrap ((u:Nat):Int)=(u:Nat):=aV;have q0:(0:Int)<=q:=ah;have q64:(q:Int)<64:=ah;have j0:(0:Int)<=j:=ah;have j15:(j:Int)<15:=ah;have cB:wr.cell? ⟨gB,0,none⟩=some (.slice (some ad) 15 c):=Blk.cell C.o.B 0;have cA:wr.cell? ⟨gA,0,none⟩=some (.int .i64 (K:Nat)):=Blk.cell C.o.A 0;have fA:=Blk.frozen C.o.A 0;have hK1:IntKind.i64.wrap ((K:Int)+1)=(K:Int)+1:=aV;have SN:=af ((C.o.drewN 1).put (K+1));have TN:=af ((Q.o.drewN 1).set1 0 (.int .i64 ((K+1:Nat):Int)));have HA:=af E;clear E hj hq Y i U J d b z D H F;go_wp2;go_region;go_wp2;go_roundw;case rel=>exact⟨m+1,ah,aT,by rw[N.o],af (by rw[show a+(m+1)=K+1 by have:=HA.o;omega];exact SN.o),TN⟩
   case measure=>exact aW
  obtain rfl:m=n:=ah;go_wp2;go_ret;exact⟨rfl,C.o,Q.o⟩
structure PG(w W:Wd)(ps:Lz):Prop where
 P:IB W w.heap.size 81 ps
 A:TabA W 3 dh
 S:TabS W 2 dh
 B:Bw w W
def Z25:Lz:=List.replicate 25 0
theorem aoM:Z25.length=25:=rfl
def Qw(xs:Lz)(w:Wd)(e:Ending)(w':Wd):Prop:=e=.returned (.tuple #[.agg (agi (unL xs)),.int .i64 (unE xs)])/\Bw w w'
theorem TwoP.weak{g h:Nat}{w':Wd}(a:TwoP g g w w'):TwoP g h w w':=⟨a.os,a.tape,a.output,a.size,fun k c b _=>a.keep k c b b⟩
theorem Rb.take{B:Nat}(h:Rb w B A xs){k:Nat}(b:k<=xs.length):Rb w B A (xs.take k):=by
 have a:=Reads.take h b;simp only[ou] at a;unfold Rb;rw[dR,jT b];have e:bts (xs.take k)=(bts xs).take k:=by simp[bts,EU]
 rw[e];exact a
theorem Byts.take(h:Byts xs)(k:Nat):Byts (xs.take k):=fun i=>by
 have a:=h i;rw[bK,xW];split
 ·rw[<-bK];exact a
 simp
theorem Zg(w:Wd)(v:Value){q:Addr}(h:q.block≠p.block):(w.setCell p v).cell? q=w.cell? q:=by
 unfold World.cell?;rw[lV w p v q.block h]
theorem vJ(h:unE xs≠0):unL xs=Z25:=by unfold unL;rw[if_neg h];rfl
structure Unq(w:Wd)(gA:Nat)(A:Oz)(c:Nat)(xs:Lz)(n:Nat)(L:Lz)(wr:Wd):Prop where
 U:Ust w.heap.size gA A c xs n wr
 I:IB wr (gA+1) 81 L
 R:IB wr (w.heap.size+1) 81 Z25
 B:Bw w wr
 g:w.heap.size+1<gA
theorem Unq.get{wr w':Wd}{a c n d:Nat}{L:Lz}(s:Unq w a A c xs n L wr)(e:Ust w.heap.size a A c xs d w')(b:TwoP a a wr w'):Unq w a A c xs d L w':=
 ⟨e,b.blk s.I ah ah,b.blk s.R (by have:=s.g;omega) (by have:=s.g;omega),s.B.trans (b.below (B:=w.heap.size) s.B.size (by have:=s.g;omega) (by have:=s.g;omega)),s.g⟩
theorem Unq.below{wr w':Wd}{b c n:Nat}{L:Lz}(s:Unq w b A c xs n L wr)(a:Bw wr w'):Unq w b A c xs n L w':=
 ⟨s.U.below a,Blk.below' s.I a,Blk.below' s.R a,aH s.B a,s.g⟩
def Zh(w:Wd)(p:Addr):Nat:=match w.cell? p with
 |some (.int _ x)=>x.toNat
 |_=>0
theorem afJ(h:w.cell? p=some (.int .i64 x)):Zh w p=x.toNat:=by unfold Zh;rw[h]
theorem aoN{V k:Nat}(a:k<5)(h:V%32/2^(5-k)=0):V%32/2^(5-(k+1))=gt V (107+k) 1:=by
 unfold gt;rw[Td];have:k=0\/k=1\/k=2\/k=3\/k=4:=ah;rcases this with rfl|rfl|rfl|rfl|rfl
 ·simp only[show(5-0:Nat)=5 from rfl,show(5-(0+1):Nat)=4 from rfl,show(112-(107+0)-1:Nat)=4 from rfl,show(2:Nat)^5=32 from rfl,show(2:Nat)^4=16 from rfl,show(2:Nat)^1=2 from rfl] at*;omega
 ·simp only[show(5-1:Nat)=4 from rfl,show(5-(1+1):Nat)=3 from rfl,show(112-(107+1)-1:Nat)=3 from rfl,show(2:Nat)^4=16 from rfl,show(2:Nat)^3=8 from rfl,show(2:Nat)^1=2 from rfl] at*;omega
 ·simp only[show(5-2:Nat)=3 from rfl,show(5-(2+1):Nat)=2 from rfl,show(112-(107+2)-1:Nat)=2 from rfl,show(2:Nat)^3=8 from rfl,show(2:Nat)^2=4 from rfl,show(2:Nat)^1=2 from rfl] at*;omega
 ·simp only[show(5-3:Nat)=2 from rfl,show(5-(3+1):Nat)=1 from rfl,show(112-(107+3)-1:Nat)=1 from rfl,show(2:Nat)^2=4 from rfl,show(2:Nat)^1=2 from rfl] at*;omega
 simp only[show(5-4:Nat)=1 from rfl,show(5-(4+1):Nat)=0 from rfl,show(112-(107+4)-1:Nat)=0 from rfl,show(2:Nat)^1=2 from rfl,show(2:Nat)^0=1 from rfl] at*;omega
theorem aoO(A:Oz)(c n:Nat)(xs:Lz)(w:Wd)(T:TabA w 3 dh)(hr:Rb w w.heap.size A xs)(hn:xs.length=n)(hc:n<=c)(hx:Byts xs):
 Cl 35 #[.slice A n c] w (Qw xs w):=by
 have hmf:∀(fn:Fn) (first cap:Array Value) (w:Wd),(Instr.makeFunc fn first cap).run Tryz.prog w=.ok (.func fn first cap) w:=fun _ _ _ _=>rfl;have hR:=nz (fn:=Tryz.f35) (p:=2) (q:=3) (ty:=81) rfl;have B0:=(baqq w (.cells #[.slice A n c] 32)).alloc ay (.cells (agi Z25) 81);have C0:=Blk.alloc (Blk.new w 32 #[.slice A n c]) (.cells (agi Z25) 81);have R0:=IB.new (w.alloc (.cells #[.slice A n c] 32)) 81 Z25;simp only[bT] at R0;obtain⟨V,hV⟩:=ak ((w.alloc (.cells #[.slice A n c] 32)).alloc (.cells (agi Z25) 81));have SV:=aj (V.heap.size=w.heap.size+2) (Gt);rw[<-hV] at B0 C0 R0;have RX:=af R0;have a:=af B0;have CX:=af C0;have HR:=af (hr.below B0);have HX:=af hx;have TX:=af (T.below B0);have cB:V.cell? ⟨w.heap.size,0,none⟩=some (.slice A n c):=Blk.cell C0 0;have HV:=af hV;have HT0:=af T;clear B0 C0 R0 hr hx T hV;by_cases h15:n≠15
 ·have HE:=aj (unE xs=1) (by unfold unE;rw[if_pos (by rw[hn];exact h15)])
  have d0:((n:Int) !=15)=true:=aC;have d1: ¬(n:Int)=15:=ah;go_enter Tryz.func35,Tryz.ntmps35;go_wp2_with(first
   |(rw[show(w.alloc (.cells #[.slice A n c] 32)).alloc (.cells #[.int .i64 0,.int .i64 0,.int .i64 0,.int .i64 0,.int .i64 0,.int .i64 0,.int .i64 0,.int .i64 0,.int .i64 0,.int .i64 0,.int .i64 0,.int .i64 0,.int .i64 0,.int .i64 0,.int .i64 0,.int .i64 0,.int .i64 0,.int .i64 0,.int .i64 0,.int .i64 0,.int .i64 0,.int .i64 0,.int .i64 0,.int .i64 0,.int .i64 0] 81)=V from HV.o.symm];clear HV)
   |(refine aQ 81 (.tmp 2) (.tmp 13) Z25 Z25 25 RX.o dF rfl rfl ?_))
  have HZ:=af (vJ (xs:=xs) wG);refine aX (v:=_) (hR _ _ _ 81 Z25 _ 25 rfl (IB.setRow RX.o Z25) gu rfl dF rfl) rfl ?_;exact⟨CU,aS a.o (Cm _) _⟩
 ·obtain rfl:n=15:=ah
  have HN:=af hn;obtain⟨g,rfl,had,M⟩:=HR.o.at_ (k:=14) (by rw[hn];omega);have KS:=af (adG (some g) c 14 (xs.take 14) V.drew (show Rb V.drew V.heap.size (some g) (xs.take 14) from(HR.o.more (by have:=SV.o;omega)).take (by rw[hn];omega)) (by rw[dR,hn];rfl) ah (HX.o.take 14));have hci:(14:Int)<=(c:Int):=ah;have M:V.cell? ⟨g.block,g.off+14,none⟩=some (.int .u8 (xs.getD 14 0)):=by rw[Addr.add_succ'] at M;exact M
  have i14:(14:Int)<15:=ah;have x:unE xs=if chk (xs.take 14)≠xs.getD 14 0 then 5 else if unV xs%32≠0 then 3 else if dD (uL (unV xs) 25) 25=false then 2 else if nT (uL (unV xs) 25)≠(unV xs/32%2:Nat) then 3 else 0:=by
   unfold unE;rw[if_neg (by rw[hn];simp)]
  have hcr:14<=c:=ah;clear hn h15;go_enter Tryz.func35,Tryz.ntmps35;go_wp2_with(rw[show(w.alloc (.cells #[.slice (some g) 15 c] 32)).alloc (.cells #[.int .i64 0,.int .i64 0,.int .i64 0,.int .i64 0,.int .i64 0,.int .i64 0,.int .i64 0,.int .i64 0,.int .i64 0,.int .i64 0,.int .i64 0,.int .i64 0,.int .i64 0,.int .i64 0,.int .i64 0,.int .i64 0,.int .i64 0,.int .i64 0,.int .i64 0,.int .i64 0,.int .i64 0,.int .i64 0,.int .i64 0,.int .i64 0,.int .i64 0] 81)=V from HV.o.symm];clear HV);by_cases m:chk (xs.take 14)=xs.getD 14 0
  ·rw[if_neg (by rw[m];simp)] at x
   have HE:=af x;have d0:(chk (xs.take 14) !=xs.getD 14 0)=false:=(by rw[m];simp);have d1:decide (chk (xs.take 14)=xs.getD 14 0)=true:=(by simpa using m);have HCK:=af m;clear x;generalize chk (xs.take 14)=D at*
   generalize xs.getD 14 0=x14 at*
   clear m;go_region_held3 (fun w'=>w'.cell? ⟨g.block,g.off+14,none⟩=some (.int .u8 x14)/\w'.cell? ⟨w.heap.size,0,none⟩=some (.slice (some g) 15 c)) (go_keep) (first
    |(go_at_call 86;(with_reducible refine KS.o.mono ?_);rintro e' w' ⟨rfl,rfl⟩))
   rename_i hHeldZ;clear hHeldZ;try simp only[Exit.then]
   obtain⟨W,hW⟩:=ak (V.drew);have SW:=aj (W.heap.size=w.heap.size+2) (by rw[hW];exact SV.o);have RW:=aj (IB W (w.heap.size+1) 81 Z25) (by rw[hW];exact RX.o);have CW:=aj (Blk W w.heap.size 32 #[.slice (some g) 15 c]) (by rw[hW];exact CX.o);have d:=aj (Rb W w.heap.size (some g) xs) (by rw[hW];exact HR.o.more ah);have BW:=aj (Bw w W) (by rw[hW];exact a.o.drew);have TW:=aj (TabA W 3 dh) (by rw[hW];exact TX.o.below (bY _));rw[<-hW];clear hW RX CX HR a TX SV KS cB M hci;have O:=(baqq W (.cells #[.int .i64 0] 3)).alloc ay (.cells (agi Z25) 81);have A2:=Blk.alloc (Blk.new W 3 #[.int .i64 0]) (.cells (agi Z25) 81);have F:=IB.new (W.alloc (.cells #[.int .i64 0] 3)) 81 Z25;simp only[bT] at F;obtain⟨N,hW2⟩:=ak ((W.alloc (.cells #[.int .i64 0] 3)).alloc (.cells (agi Z25) 81));rw[<-hW2] at O A2 F;have U2:=af (show Ust w.heap.size W.heap.size (some g) c xs 0 N from⟨d.o.below (O.mono xY),Blk.below' CW.o O,A2,xY⟩);have F:=af F;have R2:=af (Blk.below' RW.o O);have T2:=af (TW.o.below O);have B2:=af (aH BW.o O);have HW2:=af hW2;clear O A2 hW2 RW CW d BW TW;go_wp2_with(rw[show(W.alloc (.cells #[.int .i64 0] 3)).alloc (.cells #[.int .i64 0,.int .i64 0,.int .i64 0,.int .i64 0,.int .i64 0,.int .i64 0,.int .i64 0,.int .i64 0,.int .i64 0,.int .i64 0,.int .i64 0,.int .i64 0,.int .i64 0,.int .i64 0,.int .i64 0,.int .i64 0,.int .i64 0,.int .i64 0,.int .i64 0,.int .i64 0,.int .i64 0,.int .i64 0,.int .i64 0,.int .i64 0,.int .i64 0] 81)=N from HW2.o.symm];clear HW2);refine(XN (W.heap.size+1) N T2.o).mono ?_;rintro e w4 ⟨A4,c4,rfl,hO,j⟩;obtain⟨b,rfl,hb1,hb2,hb3⟩:=OwnF.at_ hO ah;have L:=af hb3;have P4:=af (Blk.below' F.o j);have R4:=af (Blk.below' R2.o j);have B4:=af (aH B2.o j);have U4:=af (U2.o.below j);have LB3:=aj (W.heap.size+1<b) (by have:=Blk.lt F.o;omega);clear hO j hb1 hb2 hb3 F R2 B2 U2 T2;have U4:=aj (Ust w.heap.size W.heap.size (some g) c xs (pkA 0) w4) (U4.o);have P4:=aj (IB w4 (W.heap.size+1) 81 (uL (unV xs) 0)) (by rw[amx];exact P4.o);go_wp2;go_loopw[25] (fun iv wr=> ∃i:Nat,i<=25/\iv=.int .i64 i/\Hy (Ust w.heap.size W.heap.size (some g) c xs (pkA i) wr)/\Hy (IB wr (W.heap.size+1) 81 (uL (unV xs) i))/\Hy (TwoP W.heap.size (W.heap.size+1) w4 wr)) (fun iv _=>25-(intOf iv).toNat)
   case atStart=>exact⟨0,ah,rfl,U4,P4,af (TwoP.refl _ _ _)⟩
   case round=>
    clear U4 P4;obtain⟨i,hi,rfl,HU,E,HT⟩:=hrel;by_cases P:i<25
    ·obtain⟨f0,f1,f2⟩:=L.o i P
     have hlb:=LB3.o;have nb1:b≠W.heap.size:=ah;have nb2:b≠W.heap.size+1:=ah;have c0:wr.cell? ⟨b,i*3,none⟩=some (.pointer (some ⟨W.heap.size+1,i,none⟩)):=(by rw[jm];exact HT.o.cell f0 nb1 nb2);have c1:wr.cell? ⟨b,i*3+1,none⟩=some (.int .i64 (pkB.getD i 0)):=(by rw[jm];exact HT.o.cell f1 nb1 nb2);have c2:wr.cell? ⟨b,i*3+2,none⟩=some (.int .i64 (pkT.getD i 0)):=(by rw[jm];exact HT.o.cell f2 nb1 nb2);obtain⟨hn1,hn2,_⟩:=DT P;have ha:=Je (n:=i+1) ah;have SY:=aj (pkA (i+1)=pkA i+pkN i) (rfl);have SU:=aj (uF (unV xs) i=gt (unV xs) (pkA i) (pkN i)) (rfl);have HSet:=af (amy (unV xs) P);rw[SY.o] at ha;rw[hn2] at c1;have hpl:=(YX c0);have hgl:=Blk.lt E.o;generalize pkN i=n at*
     generalize pkT.getD i 0=t at*
     have i0:(0:Int)<=i:=ah;have i25:(i:Int)<25:=ah;obtain⟨Y,hY⟩:=ak (wr.alloc (.cells #[.pointer (some ⟨W.heap.size+1,i,none⟩),.int .i64 (n:Nat),.int .i64 t] 133));have LY:Bw wr Y:=(by rw[hY];exact baqq _ _);have q0:Y.cell? ⟨wr.heap.size,0,none⟩=some (.pointer (some ⟨W.heap.size+1,i,none⟩)):=(by rw[hY];exact Blk.cell (Blk.new wr _ _) 0);have q1:Y.cell? ⟨wr.heap.size,1,none⟩=some (.int .i64 (n:Nat)):=(by rw[hY];exact Blk.cell (Blk.new wr _ _) 1);have UY:=af (HU.o.below LY);have Q:=af (Blk.below' E.o LY);have TY:=af (HT.o.trans (TwoP.of_below LY));have X:wr.heap.size≠W.heap.size:=ah;have nr2:wr.heap.size≠W.heap.size+1:=ah;have nr3: ¬W.heap.size+1=wr.heap.size:=ah;have J:=af (Zd w.heap.size W.heap.size c (pkA i) n (some g) xs Y.drew (UY.o.drewN 1) HX.o HN.o ah hn1 ah);clear f0 f1 f2 hn2;go_wp2;rw[<-hY];clear hY c0 c1 c2 LY;go_region_held3 (fun w'=>w'.cell? ⟨wr.heap.size,0,none⟩=some (.pointer (some ⟨W.heap.size+1,i,none⟩))/\w'.cell? ⟨wr.heap.size,1,none⟩=some (.int .i64 (n:Nat))) (first|go_keep|(refine⟨?_,?_⟩;(refine(Zg _ _ nr2).trans ?_;assumption);(refine(Zg _ _ nr2).trans ?_;assumption))) (first
      |(go_at_call 88;(with_reducible refine J.o.mono ?_);rintro e' w5 ⟨rfl,z,s⟩;have k0:=s.cell (p:=⟨wr.heap.size,0,none⟩) q0 X X;have k1:=s.cell (p:=⟨wr.heap.size,1,none⟩) q1 X X;have S5:=af z;have I5:=af (s.blk (Blk.drew Q.o) ah ah);have T5:=af (TY.o.drew.trans s.weak);have ip:=IB.cell I5.o i (by rw[iQ];exact P);have fp:=Blk.frozen I5.o i;clear z s))
     rename_i hHeldZ;clear hHeldZ k0 k1 q0 q1 ip fp;try simp only[Exit.then]
     have U6:=aj (Ust w.heap.size W.heap.size (some g) c xs (pkA (i+1)) (w5.setCell ⟨W.heap.size+1,i,none⟩ (.int .i64 (gt (unV xs) (pkA i) n:Nat)))) (by rw[SY.o];exact S5.o.far (by show w.heap.size<W.heap.size+1;have:=SW.o;omega) (by show W.heap.size≠W.heap.size+1;omega) _);have I6:=aj (IB (w5.setCell ⟨W.heap.size+1,i,none⟩ (.int .i64 (gt (unV xs) (pkA i) n:Nat))) (W.heap.size+1) 81 (uL (unV xs) (i+1))) (by rw[<-HSet.o,SU.o];exact IB.set_ I5.o i _);have T6:=af (T5.o.set2 i (.int .i64 (gt (unV xs) (pkA i) n:Nat)));go_wp2;go_roundw;case rel=>exact⟨i+1,ah,aT,U6,I6,T6⟩
     case measure=>exact aW
    obtain rfl:i=25:=ah;try rw[show((25:Nat):Int)=25 from rfl]
    rw[yI] at HU;have S0:=af (show Unq w W.heap.size (some g) c xs 106 (uL (unV xs) 25) wr from
     ⟨HU.o,E.o,HT.o.blk R4.o xY xY,B4.o.trans (HT.o.below (B:=w.heap.size) (by have:=B4.o.size;exact this) xY xY),xY⟩)
    have KQ:=af (fun r (S:Ust w.heap.size W.heap.size (some g) c xs 106 r)=>show Cl 88 #[.int .i64 1,.pointer (some ⟨w.heap.size,0,none⟩),.pointer (some ⟨W.heap.size,0,none⟩)] r (fun e w'=>e=.returned (.int .i64 (gt (unV xs) 106 1:Nat))/\Ust w.heap.size W.heap.size (some g) c xs (106+1) w'/\TwoP W.heap.size W.heap.size r w') from Zd w.heap.size W.heap.size c 106 1 (some g) xs r S HX.o HN.o ah ah ah);have KR:=af (fun K r (S:Ust w.heap.size W.heap.size (some g) c xs K r) (hK:K+1<=112)=>show Cl 88 #[.int .i64 1,.pointer (some ⟨w.heap.size,0,none⟩),.pointer (some ⟨W.heap.size,0,none⟩)] r (fun e w'=>e=.returned (.int .i64 (gt (unV xs) K 1:Nat))/\Ust w.heap.size W.heap.size (some g) c xs (K+1) w'/\TwoP W.heap.size W.heap.size r w') from Zd w.heap.size W.heap.size c K 1 (some g) xs r S HX.o HN.o ah ah hK);have y:=af (fun r (h:TabA r 3 dh)=>adC (uL (unV xs) 25) r h (iQ _ _));have KP:=af (fun r=>adD (uL (unV xs) 25) r (iQ _ _) (adO _ _));rw[adP] at KQ;clear HU E HT R4 B4 L;generalize unV xs/32%2=pq at*
    go_wp2_with(go_at_call 88;(with_reducible refine(KQ.o wr S0.o.U).mono ?_);rintro e' w5 ⟨rfl,z,s⟩;have S1:=af (S0.o.get z s);clear z s);go_loopw[] (fun wr=> ∃k:Nat,k<=5/\Hy (Unq w W.heap.size (some g) c xs (107+k) (uL (unV xs) 25) wr)/\Hy (unV xs%32/2^(5-k)=0)) (fun wr=>112-Zh wr ⟨W.heap.size,0,none⟩)
    case atStart=>exact⟨0,ah,S1,af (zf (oV _ aA))⟩
    case round=>
     clear S0 S1;obtain⟨k,hk,f,HD⟩:=hrel;have cA:wr.cell? ⟨W.heap.size,0,none⟩=some (.int .i64 ((107+k:Nat):Int)):=Blk.cell f.o.U.A 0;have MA:=af (afJ cA);by_cases hk5:k<5
     ·have H:=af (aoN hk5 HD.o)
      have ul:=Jg (unV xs) (107+k) 1;have KK:=af (KR.o (107+k) wr f.o.U ah);generalize gt (unV xs) (107+k) 1=u at*
      obtain⟨K,hK⟩:=ak (107+k);rw[<-hK] at cA KK f MA;have hK112:(K:Int)<112:=ah;by_cases hu:u=1
      ·subst hu
       have HE2:=aj (unE xs=3) (by
        rw[HE.o,if_pos];intro h0;have:=H.o;rw[h0] at this;simp at this)
       have HE:=HE2;have HZ:=af (vJ (xs:=xs) wG);go_wp2_with(first
        |(go_at_call 88;(with_reducible refine KK.o.mono ?_);rintro e' w6 ⟨rfl,z,s⟩;have S6:=af (f.o.get z s);clear z s)
        |(refine aQ 81 (.tmp 2) (.tmp 44) Z25 Z25 25 S6.o.R dF rfl rfl ?_))
       refine aX (v:=_) (hR _ _ _ 81 Z25 _ 25 rfl (IB.setRow S6.o.R Z25) gu rfl dF rfl) rfl ?_;exact⟨CU,aS S6.o.B (Cm _) _⟩
      obtain rfl:u=0:=ah;go_wp2_with(go_at_call 88;(with_reducible refine KK.o.mono ?_);rintro e' w6 ⟨rfl,z,s⟩;have S6:=af (f.o.get z s);clear z s);have M6:=af (afJ (Blk.cell S6.o.U.A 0));go_roundw;case rel=>exact⟨k+1,ah,af (by rw[show 107+(k+1)=K+1 from ah];exact S6.o),af H.o⟩
      case measure=>
       rw[M6.o,MA.o];omega
     obtain rfl:k=5:=ah;have hD:=HD.o;simp only[Sj,Nat.pow_zero,Nat.div_one] at hD;have cA:wr.cell? ⟨W.heap.size,0,none⟩=some (.int .i64 112):=cA;have l:=HE.o;rw[if_neg (by rw[hD];simp)] at l;have TG:=af (HT0.o.below f.o.B);have y:=y.o wr TG.o;by_cases G:dD (uL (unV xs) 25) 25=true
     ·rw[G] at y
      rw[if_neg (by rw[G];simp)] at l;have y:=af y;by_cases hp:nT (uL (unV xs) 25)=(pq:Nat)
      ·have HE:=aj (unE xs=0) (by rw[l,if_neg (by rw[hp];simp)])
       have HZ:=aj (unL xs=uL (unV xs) 25) (by unfold unL;rw[if_pos HE.o]);rw[hp] at KP;clear l hD G hp MA HD;go_wp2_with(first
        |(refine aK 81 (.tmp 6) (uL (unV xs) 25) 25 f.o.I gu dF (iQ _ _) ?_)
        |(go_at_call 82;(with_reducible refine y.o.mono ?_);rintro e' w7 ⟨rfl,j⟩;have C:=af (f.o.below j);clear j)
        |(refine aK 81 (.tmp 6) (uL (unV xs) 25) 25 C.o.I gu dF (iQ _ _) ?_)
        |(go_at_call 85;(with_reducible refine(KP.o w7).mono ?_);rintro e' w8 ⟨rfl,j⟩;have Z:=af (C.o.below j);clear j)
        |(refine aK 81 (.tmp 6) (uL (unV xs) 25) 25 Z.o.I gu dF (iQ _ _) ?_)
        |(refine aQ 81 (.tmp 2) (.tmp 54) Z25 (uL (unV xs) 25) 25 Z.o.R dF rfl (iQ _ _) ?_))
       refine aX (v:=_) (hR _ _ _ 81 (uL (unV xs) 25) _ 25 rfl (IB.setRow Z.o.R (uL (unV xs) 25)) gu rfl dF (iQ _ _)) rfl ?_;exact⟨CU,aS Z.o.B (Cm _) _⟩
      have HE9:=aj (unE xs=3) (by rw[l,if_pos hp]);have HZ9:=af (vJ (xs:=xs) (by rw[HE9.o];decide));have hne:(((pq:Nat):Int) !=nT (uL (unV xs) 25))=true:=(by rw[qJ];exact fun h=>hp h.symm);have hne2: ¬((pq:Nat):Int)=nT (uL (unV xs) 25):=fun h=>hp h.symm;generalize nT (uL (unV xs) 25)=pr at*
      clear l hD G hp MA HD;go_wp2_with(first
       |(refine aK 81 (.tmp 6) (uL (unV xs) 25) 25 f.o.I gu dF (iQ _ _) ?_)
       |(go_at_call 82;(with_reducible refine y.o.mono ?_);rintro e' w7 ⟨rfl,j⟩;have C:=af (f.o.below j);clear j)
       |(refine aK 81 (.tmp 6) (uL (unV xs) 25) 25 C.o.I gu dF (iQ _ _) ?_)
       |(go_at_call 85;(with_reducible refine(KP.o w7).mono ?_);rintro e' w8 ⟨rfl,j⟩;have Z:=af (C.o.below j);clear j)
       |(refine aQ 81 (.tmp 2) (.tmp 53) Z25 Z25 25 Z.o.R dF rfl rfl ?_))
      refine aX (v:=_) (hR _ _ _ 81 Z25 _ 25 rfl (IB.setRow Z.o.R Z25) gu rfl dF rfl) rfl ?_;exact⟨by rw[HE9.o,HZ9.o];rfl,aS Z.o.B (Cm _) _⟩
     have hgf:dD (uL (unV xs) 25) 25=false:=Gs;rw[hgf] at y;rw[if_pos hgf] at l;have y:=af y;have HE:=af l;have HZ:=af (vJ (xs:=xs) wG);clear l hD G hgf MA HD;go_wp2_with(first
      |(refine aK 81 (.tmp 6) (uL (unV xs) 25) 25 f.o.I gu dF (iQ _ _) ?_)
      |(go_at_call 82;(with_reducible refine y.o.mono ?_);rintro e' w7 ⟨rfl,j⟩;have C:=af (f.o.below j);clear j)
      |(refine aQ 81 (.tmp 2) (.tmp 48) Z25 Z25 25 C.o.R dF rfl rfl ?_))
     refine aX (v:=_) (hR _ _ _ 81 Z25 _ 25 rfl (IB.setRow C.o.R Z25) gu rfl dF rfl) rfl ?_;exact⟨CU,aS C.o.B (Cm _) _⟩
  rw[if_pos m] at x;have HE:=af x;have d0:(chk (xs.take 14) !=xs.getD 14 0)=true:=by rw[qJ];exact m
  clear x;generalize chk (xs.take 14)=D at*
  generalize xs.getD 14 0=x14 at*
  go_region_held3 (fun w'=>w'.cell? ⟨g.block,g.off+14,none⟩=some (.int .u8 x14)/\w'.cell? ⟨w.heap.size,0,none⟩=some (.slice (some g) 15 c)) (go_keep) (first
   |(go_at_call 86;(with_reducible refine KS.o.mono ?_);rintro e' w' ⟨rfl,rfl⟩))
  rename_i hHeldZ;clear hHeldZ;try simp only[Exit.then]
  have RY:=aj (IB (V.drew) (w.heap.size+1) 81 Z25) (RX.o);have BY:=af (show Bw w (V.drew) from⟨a.o.os,a.o.tape,a.o.output,a.o.size,a.o.block⟩);have HZ:=af (vJ (xs:=xs) wG);go_wp2_with(refine aQ 81 (.tmp 2) (.tmp 21) Z25 Z25 25 RY.o dF rfl rfl ?_);refine aX (v:=_) (hR _ _ _ 81 Z25 _ 25 rfl (IB.setRow RY.o Z25) gu rfl dF rfl) rfl ?_;exact⟨CU,aS BY.o (Cm _) _⟩
section
open Go.ChangeShapes Go.WideShapes
structure Tk where
 A:Oz
 c:Nat
 xs:Lz
 q:Bool
 f:Int
 a:Int
 k:Int
section
variable {w w':Wd} {B B' n:Nat} {A:Oz} {p:Addr} {t:Tk}
end
theorem agT{k:IntKind}{n:Int}(h:(Lit.int k n).wf=true):k.has n:=by simpa[Lit.wf,IntKind.has] using h
section
variable {H:Type} {enc:TypeId×Value->H} {P:Program} {w:Wd}
end
theorem aq9{α:Type}{l:List α}(h:l.length=5):∃a b c d e,l=[a,b,c,d,e]:=by
 match l,h with
 |[a,b,c,d,e],_=>exact⟨a,b,c,d,e,rfl⟩
end
