/- Lemmas. -/
import Derived.Test.YtaahbkbnfpajdaaGreatDoorZef07
import Derived.Test.YtaahbkbnfpajdaaGreatDoorZef04
import Derived.Test.YtaahbkbnfpajdaaGreatDoorZef09
namespace Go.Proofs.YtaahbkbnfpajdaaGreatDoor
set_option linter.all false
set_option maxRecDepth 100000
set_option maxHeartbeats 8000000
open Go.RowKit
variable{w wr:Wd}{m:Mm}{x:Int}{p l:Lz}{k g:Nat}{t:TypeId}
def nzE(s:Int):Nat->Int
 |0=>s
 |k+1=>nzE (nzS s) k
def nzL(s z:Int):Nat->Lz
 |0=>[]
 |k+1=>nzX s z::nzL (nzS s) z k
theorem acu(s:Int)(k:Nat):nzE s (k+1)=nzS (nzE s k):=by
 induction k generalizing s with
 |zero=>rfl
 |succ k ih=>rw[nzE,ih,nzE]
theorem akQ(s z:Int)(k:Nat):nzL s z (k+1)=nzL s z k++[nzX (nzE s k) z]:=by
 induction k generalizing s with
 |zero=>rfl
 |succ k ih=>rw[nzL,ih,nzL];rfl
theorem oM(s z:Int)(k:Nat):(nzL s z k).length=k:=by
 induction k generalizing s with
 |zero=>rfl
 |succ k ih=>simp[nzL,ih]
theorem akR(s z:Int): -32768<=nzX s z/\nzX s z<=32767:=by
 have c:=zV s;have a:=akw z;have d: -1073709056<=(nzS s-32768)*nzZ z/\(nzS s-32768)*nzZ z<=1073709056:=by
  have b:(nzS s-32768)*nzZ z<=32767*nzZ z:=uB ah a.1;have S:(-32768)*nzZ z<=(nzS s-32768)*nzZ z:=uB ah a.1;omega
 unfold nzX;omega
theorem WV(s z:Int)(k:Nat):aG (nzL s z k)=true:=by
 unfold aG;rw[lM];intro x a;induction k generalizing s with
 |zero=>cases a
 |succ k ih=>
  rcases List.mem_cons.1 a with rfl|h
  ·have:=akR s z
   exact sO this.1 this.2
  exact ih _ h
theorem akS{s:Int}(a: -9223372036854775808<=s)(b:s<=9223372036854775807)(k:Nat): -9223372036854775808<=nzE s k/\nzE s k<=9223372036854775807:=by
 induction k generalizing s with
 |zero=>exact⟨a,b⟩
 |succ k ih=>have:=zV s;exact ih ah ah
theorem akT(s z:Int)(n k:Nat)(h:k<n):(nzL s z k++List.replicate (n-k) 0).set k (nzX (nzE s k) z)=nzL s z (k+1)++List.replicate (n-(k+1)) 0:=by
 have a:=oM s z k;obtain⟨d,rfl⟩:∃d,n=k+1+d:=⟨n-(k+1),ah⟩;have e:k+1+d-k=d+1:=ah;have S:k+1+d-(k+1)=d:=ah;rw[e,S,ZM,RV _ _ ah,a,Sj,bD,akQ,oZ];rfl
theorem akU(s z:Int)(n k:Nat)(h:k<=n):(nzL s z k++List.replicate (n-k) 0).length=n:=by rw[dN,oM,rW];omega
theorem akV(w:Wd)(v:Int)(base:Nat)(a:base<=w.heap.size):Own (w.alloc (.cells #[.int .i64 v] 3)) base (some ⟨w.heap.size,0,none⟩) 1 [v]:=
 y9 (base:=base) (e:=3) (size:=1) w #[.int .i64 v] 1 a jg rfl
def NzA(w:Wd)(s z:Int)(n:Nat)(e:Ending)(w':Wd):Prop:=∃A c,e=.returned (.tuple #[.int .i64 (nzE s n),.slice A n c])/\Own w' w.heap.size A c (nzL s z n)/\Bw w w'
theorem NV(s z:Int)(n:Nat)(w:Wd)(v:n<=1000):Cl 89 #[.int .i64 s,.int .i64 z,.int .i64 n] w (NzA w s z n):=by
 have m:(n:Int)<=1000:=ah;go_enter Tryz.func89,Tryz.ntmps89;go_wp2_with(at_make;refine nK rfl _ _ rfl .i64 .i64 n rfl rfl w.heap.size ah (ax _) ?_;intro y f d;have c:=af f;have b:=af ((aP w.heap.size w).grown d (ax _) ay);clear f d);go_loopw[0,14] (fun q a wr=> ∃(k:Nat),k<=n/\a=.int .i64 k/\q=.int .i64 (nzE s k)/\Hy (Own wr w.heap.size (some ⟨w.heap.size,0,none⟩) n (nzL s z k++List.replicate (n-k) 0))/\Hy (Bw w wr)) (fun _ a _=>n-(intOf a).toNat)
 case atStart=>exact⟨0,ah,rfl,rfl,c,b⟩
 case round=>
  clear c b;obtain⟨k,j,rfl,rfl,Q,H⟩:=hrel;by_cases hlt:k<n
  ·have HL:=af (akU s z n k j)
   have r:=Q.o.cell k qN;have t:=Q.o.frozen k;have B:=aj (Own _ _ _ _ _) (by have:=Q.o.set_ k qN (nzX (nzE s k) z);rwa [akT s z n k hlt] at this);have K:=af (H.o.setCell (p:=⟨w.heap.size,k,none⟩) (ax _) (.int .i64 (nzX (nzE s k) z)));have l:(k:Int)<n:=ah;have h:=af (acu s k);have g:=af (fun W=>aky (nzE s k) z W);generalize nzX (nzE s k) z=x at*
   generalize (nzL s z k++List.replicate (n-k) 0).getD k 0=u at*
   generalize J:nzE s k=E at*
   clear J;go_wp2_with(go_at_call 156;refine(g.o _).mono ?_;rintro e w' ⟨rfl,rfl⟩);go_roundw;case rel=>exact⟨k+1,ah,aT,by rw[h.o],B,K⟩
   case measure=>exact aW
  obtain rfl:k=n:=ah;have i:=aj (Own wr w.heap.size (some ⟨w.heap.size,0,none⟩) k (nzL s z k)) (by have:=Q.o;rwa [Sj,List.replicate_zero,xU] at this);clear Q;go_wp2;go_ret2;exact⟨_,_,rfl,i.o,H.o⟩
theorem WW(z:Int):∀(n:Nat) (s:Int) (w:Wd),n<=1000-> -9223372036854775808<=s->s<=9223372036854775807->Cl 138 #[.int .i64 s,.int .i64 z,.int .i64 n] w (NzA w s z n)
 |0,s,w,_,_,_=>by
  go_enter Tryz.func138,Tryz.ntmps138;go_wp2;go_ret2;exact⟨none,0,rfl,Own.nil,aP _ _⟩
 |n+1,s,w,hn,h1,h2=>by
  have t:=af (fun W=>akz s z W h1 h2);have u:=af (fun W=>WW z n (nzS s) W ah (by have:=zV s;omega) (by have:=zV s;omega));obtain⟨m,O⟩:=ak (n+1);rw[<-O];have D:((m:Int)==0)=false:=aC;have G: ¬(m:Int)=0:=ah;have C:IntKind.i64.wrap ((m:Int)-1)=(n:Nat):=aV;have f:=af O;clear O h1 h2;go_enter Tryz.func138,Tryz.ntmps138;go_wp2_with fail;refine(t.o _).mono ?_;rintro e H ⟨rfl,b⟩;have i:=af b;clear b;go_wp2_with fail;refine(u.o _).mono ?_;rintro e h ⟨A2,c2,rfl,c,b⟩;have j:=af (aH i.o b);have A:=af c.reads;have v:=af (oM (nzS s) z n);clear c b i;have a:=af j.o.size;have d:=af (show nzE s m=nzE (nzS s) n by rw[f.o];rfl);have F:=af (show nzL s z m=[nzX s z]++nzL (nzS s) z n by rw[f.o];rfl);generalize nzL (nzS s) z n=l at*
  generalize nzE (nzS s) n=E at*
  generalize nzX s z=x at*
  go_wp2_with(at_builtin;refine pg rfl (.tmp 30) (.tmp 31) rfl w.heap.size (some ⟨h.heap.size,0,none⟩) 1 1 [x] rfl rfl (akV h x _ a.o) h.heap.size A2 c2 n l rfl v.o (A.o.below (baqq _ _)) ah (by simp;have:=a.o;omega) ?_;intro q c3 I c p B;have y:=af c;have r:=af ((j.o.alloc a.o (.cells #[.int .i64 x] 3)).grown p (by simp;have:=a.o;omega) (fun k g=>by injection g with g;have:=a.o;show w.heap.size<=k;rw[<-g];exact a.o));clear c p B);go_ret2;exact⟨q,c3,by rw[d.o,f.o,qI n 1];rfl,by rw[F.o];exact y.o,r.o⟩
structure Kr(w wr:Wd)(h ys:Lz):Prop where
 A:IB wr w.heap.size 53 h
 R:IB wr (w.heap.size+1) 53 Z80
 O:IB wr (w.heap.size+2) 53 ys
 bel:Bw w wr
theorem Kr.start(w:Wd)(h:Lz):Kr w (((w.alloc (.cells (agi h) 53)).alloc (.cells Tryz.zeroCells53 53)).alloc (.cells Tryz.zeroCells53 53)) h Z80:=by
 have h1:=IB.new w 53 h;have h2:=IB.new (w.alloc (.cells (agi h) 53)) 53 Z80;have h3:=IB.new ((w.alloc (.cells (agi h) 53)).alloc (.cells (agi Z80) 53)) 53 Z80;simp only[bT] at h2 h3;rw[WU];exact aiF
theorem Kr.set_{h ys:Lz}(s:Kr w wr h ys)(k:Nat)(x:Int):Kr w (wr.setCell ⟨w.heap.size+2,k,none⟩ (.int .i64 x)) h (ys.set k x):=
 ⟨Blk.far s.A ay _,Blk.far s.R ay _,IB.set_ s.O k x,s.bel.setCell (p:=⟨w.heap.size+2,k,none⟩) (by show w.heap.size<=w.heap.size+2;omega) _⟩
theorem Kr.below{w':Wd}{h ys:Lz}(s:Kr w wr h ys)(a:Bw wr w'):Kr w w' h ys:=
 ⟨Blk.below' s.A a,Blk.below' s.R a,Blk.below' s.O a,aH s.bel a⟩
theorem Kr.lt{h ys:Lz}(s:Kr w wr h ys):w.heap.size+3<=wr.heap.size:=Blk.lt s.O
theorem WY(h x:Lz)(A:Oz)(c n:Nat)(w:Wd)(T:h.length=80)(Z:Rs w w.heap.size A x)(y:x.length=n)(hl:n<=17592186044416)(hw:W64 x):
 Cl 123 #[.agg (agi h),.slice A n c] w (Ag w h x n):=by
 have hR:=nz (fn:=Tryz.f123) (p:=4) (q:=5) (ty:=53) rfl;have m:=af (Kr.start w h);have HR:=af Z;have HN:=af y;have s:=af T;have HW:=af hw;by_cases b:n=40
 ·subst b
  have a:vk h x 40=bi h x:=if_pos rfl;have t:=af (pG T y);have LO:=af (fun j u=>acr (x:=x) T j u);have E:=af (fun j u=>acs T y j u);have B:=af a;clear Z y T hw a;go_enter Tryz.func123,Tryz.ntmps123;go_wp2;go_loopw[12] (fun M wr=> ∃(k:Nat) (ys:Lz),k<=80/\M=.int .i64 k/\Hy (ys.length=80/\∀j,j<k->ys.getD j 0=(bi h x).getD j 0)/\Hy (Kr w wr h ys)) (fun M _=>80-(intOf M).toNat)
  case atStart=>exact⟨0,_,ah,rfl,af ⟨rfl,fun j h=>ah⟩,m⟩
  case round=>
   clear m;obtain⟨k,ys,L,rfl,HY,C⟩:=hrel;by_cases hlt:k<80
   ·have r:=fun v (hv:v=(bi h x).getD k 0)=>aj ((ys.set k v).length=80/\∀j,j<k+1->(ys.set k v).getD j 0=(bi h x).getD j 0) (by
     obtain⟨q1,q3⟩:=HY.o;refine⟨wI,fun j u=>?_⟩;by_cases X:k=j
     ·subst X
      rw[gQ _ _ _ ah,hv]
     ·rw[gV _ _ X]
      exact q3 j ah)
    have Y:(k:Int)<80:=ah;by_cases i:k<40
    ·obtain⟨J,Q⟩:=ak (k+40:Nat)
     have ci:=IB.cell C.o.A J (by rw[s.o];omega);have F:=r (h.getD J 0) (by rw[LO.o k i,Q,qI]);have f:=af (C.o.set_ k (h.getD J 0));have co:=IB.cell C.o.O k uO;have fo:=Blk.frozen C.o.O k;have hwJ:IntKind.i64.wrap ((k:Int)+40)=(J:Nat):=aV;have S:(J:Int)<80:=ah;generalize h.getD J 0=v at*
     clear Q r;go_wp2;go_roundw;case rel=>exact⟨k+1,_,ah,aT,F,f⟩
     case measure=>exact aW
    obtain⟨d,U⟩:∃d:Nat,k=40+d:=⟨k-40,ah⟩;obtain⟨ad,rfl,_,c1⟩:=(HR.o.below C.o.bel).at_ (k:=d) Gl;have N:=HW.o.at_ d;have l:s16 (x.getD d 0)=(bi h x).getD k 0:=(by rw[U,E.o d ah]);generalize x.getD d 0=v at*
    have F:=r (s16 v) l;have f:=af (fun w' (hb:Bw wr w')=>(C.o.below hb).set_ k (s16 v));have KS:=af (fun W=>sN v W N.1 N.2);have P:=af C.o.lt;have hwd:IntKind.i64.wrap ((k:Int)-40)=(d:Nat):=aV;have V:(d:Int)<40:=ah;have hd0: ¬(k:Int)<40:=ah;have HK:=af U;clear U r l N i;go_wp2_with fail;refine(KS.o _).mono ?_;rintro e w9 ⟨rfl,K⟩;have H:=af (f.o _ K);have G:=C.o.below K;have co:=IB.cell G.O k uO;have fo:=Blk.frozen G.O k;clear K G;go_wp2;go_roundw;case rel=>exact⟨k+1,_,ah,aT,F,H⟩
    case measure=>exact aW
   obtain rfl:k=80:=ah;have HF:ys=bi h x:=dM (by rw[HY.o.1,t.o]) (fun k L=>HY.o.2 k (by rw[HY.o.1] at L;exact L));subst HF;have D:=af (aS C.o.bel (g:=w.heap.size+1) ah (agi (bi h x)));have I:=af (IB.setRow C.o.R (bi h x));go_wp2_with(first
    |(refine aK 53 (.tmp 6) (bi h x) 80 C.o.O iV mY t.o ?_)
    |(refine aQ 53 (.tmp 4) (.tmp 32) Z80 (bi h x) 80 C.o.R mY rfl t.o ?_))
   refine aX (v:=_) (hR _ _ _ 53 (bi h x) _ 80 rfl I.o iV rfl mY t.o) rfl ?_;exact⟨by rw[B.o];rfl,D.o⟩
 ·have a:=aj (vk h x n=Z80) (if_neg b)
  have z:=aj (WS n=1) (if_neg b);have d1:((n:Int)==40)=false:=aC;have d2:((n:Int) !=40)=true:=aC;clear b;have D:=af (aS m.o.bel (g:=w.heap.size+1) ah (agi Z80));have I:=af (IB.setRow m.o.R Z80);go_enter Tryz.func123,Tryz.ntmps123;go_wp2_with(first
   |(refine aK 53 (.tmp 6) Z80 80 m.o.O iV mY rfl ?_)
   |(refine aQ 53 (.tmp 4) (.tmp 11) Z80 Z80 80 m.o.R mY rfl rfl ?_))
  exact aiD
def kZ(m:Mm):Mm:={m with se:=nzE m.se 40,e:=bi m.e (nzL m.se 8 40)}
def Ak(m:Mm):Mm:=if aO m then kZ m else aZ
def Am(m:Mm):Lz:=if aO m then nzL m.se 8 40 else[]
theorem WZ(k:m.ok):(kZ m).ok:=⟨k.r,k.p,pG k.e (oM _ _ _)⟩
def NewM(w:Wd)(mm:Mm)(ys:Lz)(er:Int)(e:Ending)(w':Wd):Prop:=∃A c,e=.returned (.tuple #[.agg mm.ag,.slice A ys.length c,.int .i64 er])/\Own w' w.heap.size A c ys/\Bw w w'
theorem Own.setCs{base g c:Nat}{A:Oz}{xs:Lz}(G:g<base):∀(vs:List Value) (o:Nat) (w:Wd),Own w base A c xs->Own (w.setCells g o vs) base A c xs
 |[],_,_,h=>h
 |v::vs,o,_,h=>Own.setCs G vs (o+1) _ (Own.setC h G o v)
structure Ms(w wr:Wd)(m:Mm):Prop where
 A:MB wr w.heap.size m
 R:MB wr (w.heap.size+1) aZ
 bel:Bw w wr
theorem Ms.start(w:Wd)(m:Mm):Ms w ((w.alloc (.cells m.ag 55)).alloc (.cells Tryz.zeroCells55 55)) m:=by
 have h1:=MB.new w m;have h2:=MB.new (w.alloc (.cells m.ag 55)) aZ;simp only[bT] at h2;rw[vw];exact abx
theorem Ms.below{w':Wd}(s:Ms w wr m)(a:Bw wr w'):Ms w w' m:=
 ⟨Blk.below' s.A a,Blk.below' s.R a,aH s.bel a⟩
theorem Ms.drew(s:Ms w wr m):Ms w wr.drew m:=⟨s.A,s.R,s.bel.drew⟩
theorem Ms.lt(s:Ms w wr m):w.heap.size+2<=wr.heap.size:=Blk.lt s.R
theorem Ms.se(s:Ms w wr m)(k:m.ok)(x:Int):Ms w (wr.setCell ⟨w.heap.size,100,none⟩ (.int .i64 x)) {m with se:=x}:=
 ⟨s.A.set_se k x,Blk.far s.R ay _,s.bel.setCell ay _⟩
theorem Ms.er(s:Ms w wr m)(k:m.ok)(x:Int):Ms w (wr.setCell ⟨w.heap.size,99,none⟩ (.int .i64 x)) {m with er:=x}:=
 ⟨s.A.set_er k x,Blk.far s.R ay _,s.bel.setCell ay _⟩
theorem Ms.ex(s:Ms w wr m)(k:m.ok)(e:Lz)(a:e.length=80):Ms w (wr.setCells w.heap.size 16 (au e)) {m with e:=e}:=
 ⟨s.A.set_e k e a,cZ ah _ _ _ s.R,iJ (ax _) _ _ _ s.bel⟩
theorem akZ(m:Mm)(k:m.ok)(w:Wd):Cl 87 #[.agg m.ag] w (NewM w (Ak m) (Am m) (bz (aO m))):=by
 have hR:=yC (fn:=Tryz.f87) (p:=2) (q:=3) (r:=4) rfl;have x:=af (Ms.start w m);have K:=af k;have C:=af (fun W=>Iu m k W);have U:=af (fun W=>NV m.se 8 40 W ah);have NL:=af (oM m.se 8 40);have KL:=af (pG k.e (oM m.se 8 40));have Y:=aj (Ak m=if aO m then kZ m else aZ) (rfl);have B:=aj (Am m=if aO m then nzL m.se 8 40 else[]) (rfl);have S:=af (fun W A c (h:Rs W W.heap.size A (nzL m.se 8 40))=>show Cl 81 #[.agg (au m.e).toArray,.slice A 40 c] W (Ag W m.e (nzL m.se 8 40) 40) from NU m.e _ A c 40 W k.e h (oM _ _ _) ah);have j:(Tryz.prog.info? 53).map (·.size)=some (au m.e).length:=FI;have l:=af j;clear k j;go_enter Tryz.func87,Tryz.ntmps87;go_wp2_with(refine iK rfl (.tmp 1) rfl _ m rfl x.o.A K.o ?_);refine(C.o _).mono ?_;rintro e w1 ⟨rfl,a⟩;have b:=af (x.o.below a);clear a x C;cases G:aO m with
 |false=>
  have HG:=af G;clear G;have I:=af (MB.setRow b.o.R aZ);have D:=af (aS b.o.bel (g:=w.heap.size+1) ah aZ.ag);go_wp2_with(refine dW rfl (.tmp 2) (.tmp 9) rfl _ aZ aZ rfl (iI Value.agg vw) b.o.R df df ?_);exact ah1
 |true=>
  have HG:=af G;clear G;have cse:=b.o.A.cse K.o;go_wp2_with fail;refine(U.o _).mono ?_;rintro e w2 ⟨A2,c2,rfl,O,a⟩;have y:=af (b.o.below a);have P:=af b.o.lt;have Z:=af O;clear a O;have M:=y.o.A.cse K.o;have N:=MB.frozen y.o.A 100;have z:=af (y.o.se K.o (nzE m.se 40));have u:=af (Own.setC (g:=w.heap.size) Z.o uT 100 (.int .i64 (nzE m.se 40)));obtain⟨w3,d⟩:=ak (w2.setCell ⟨w.heap.size,100,none⟩ (.int .i64 (nzE m.se 40)));rw[<-d] at z u;have s:=af d;clear d P;have V:=af (K.o.se (nzE m.se 40));go_wp2_with(first
   |(rw[<-s.o])
   |(refine bZ rfl 53 (.tmp 18) rfl _ _ rfl (au m.e) _ (z.o.A.E V.o) iV rfl l.o ?_))
  refine(S.o w3 A2 c2 u.o.reads).mono ?_;rintro e Q ⟨rfl,a⟩;have J:=af (z.o.below a);have O4:=af (u.o.below a);have P:=af b.o.lt;clear a;have T:=aj (vk m.e (nzL m.se 8 40) 40=bi m.e (nzL m.se 8 40)) (rfl);rw[T.o];have L:=af (J.o.ex V.o _ KL.o);have F:=af (Own.setCs (g:=w.heap.size) uT (au (bi m.e (nzL m.se 8 40))) 16 _ O4.o);obtain⟨w5,f⟩:=ak (Q.setCells w.heap.size 16 (au (bi m.e (nzL m.se 8 40))));rw[<-f] at L F;have t:=af f;clear f;have n:=aj (Ms w w5 (kZ m)) (L.o);have i:=af (WZ K.o);have I:=af (MB.setRow n.o.R (kZ m));have D:=af (aS n.o.bel (g:=w.heap.size+1) ah (kZ m).ag);have OF:=af ((F.o.setRow (g:=w.heap.size+1) uT (kZ m).ag).more (base':=w.heap.size) uT);have X:=aj ((Tryz.prog.info? 53).map (·.size)=some (agi (bi m.e (nzL m.se 8 40))).size) (MF);have H:=aj (Q.there w.heap.size 16 (agi (bi m.e (nzL m.se 8 40))).size) (by rw[dX,KL.o];exact J.o.A.thereE V.o);go_wp2_with(first
   |(refine iY rfl 53 (.tmp 24) (.tmp 22) rfl w.heap.size 16 (agi (bi m.e (nzL m.se 8 40))) rfl rfl H.o X.o (ik _) ?_;rw[show(agi (bi m.e (nzL m.se 8 40))).toList=au (bi m.e (nzL m.se 8 40)) from rfl,<-t.o])
   |(refine iK rfl (.tmp 1) rfl _ (kZ m) rfl n.o.A i.o ?_)
   |(refine dW rfl (.tmp 2) (.tmp 25) rfl _ aZ (kZ m) rfl rfl n.o.R df i.o ?_))
  exact ais
def yE(x:Int):Bool:=decide (-1048576<=x/\x<=1048576)
theorem Oc(a: -1048576<=x)(b:x<=1048576):yE x=true:=by unfold yE;simp;omega
theorem Oe(h:x< -1048576\/1048576<x):yE x=false:=by unfold yE;simp;omega
def okP(a:Lz):Bool:=a.all yE
theorem Xn{a:Lz}(h:okP a=true)(i:Nat): -1048576<=a.getD i 0/\a.getD i 0<=1048576:=by
 by_cases hi:i<a.length
 ·have:=List.all_eq_true.mp h _ (BI hi)
  rw[bK,jU hi];unfold yE at this;simpa using this
 rw[bK,iy ah];simp
def dZ(a p l:Lz):Bool:=okP a&&(decide (a.getD 0 0=4096)&&(aG p&&aG l))
def oN(a p:Lz)(i:Nat):Int:=a.getD (i+1) 0*p.getD i 0
theorem Xo{a:Lz}(b:okP a=true)(c:aG p=true)(i:Nat): -34359738368<=oN a p i/\oN a p i<=34359738368:=by
 have d:=Xn b (i+1);have e:=gU c i;have:=iU (x:=a.getD (i+1) 0) (X:=1048576) (y:=p.getD i 0) (Y:=32768) ah ah ⟨ah,ah⟩ ⟨ah,ah⟩;unfold oN;omega
theorem Og{a:Lz}(b:okP a=true)(c:aG p=true)(n:Nat): -(34359738368*(n:Int))<=aN (oN a p) n/\aN (oN a p) n<=34359738368*(n:Int):=by
 induction n with
 |zero=>simp[aN]
 |succ n ih=>
  have:=Xo b c n;simp only[aN];push_cast;omega
def pI(a p:Lz):Int:=(2048+aN (oN a p) 8)/4096
theorem acR{a:Lz}(b:okP a=true)(c:aG p=true): -1000000000<=pI a p/\pI a p<=1000000000:=by
 have:=Og b c 8;unfold pI;omega
def jE(p:Lz)(x:Int):Lz:=x::p.take 7
theorem Xp(h:p.length=8)(x:Int):(jE p x).length=8:=by simp[jE,h]
theorem acS(h:aG p=true)(n:Nat):aG (p.take n)=true:=by
 unfold aG at*
 rw[lM] at*
 intro x a;exact h x (xK a)
theorem alj(h:aG p=true)(a:gY x=true):aG (jE p x)=true:=by
 have:=acS h 7;unfold aG at*
 simp[jE,a,this]
theorem acT(x:Int):gY (s16 x)=true:=by
 have:=nI x;exact sO ah ah
def fH(p:Lz):Lz->Lz
 |[]=>p
 |x::xs=>fH (jE p x) xs
theorem tC:∀(l p:Lz),p.length=8->(fH p l).length=8
 |[],_,h=>h
 |x::xs,p,h=>tC xs (jE p x) (Xp h x)
theorem Xq:∀(l p:Lz) (x:Int),fH p (l++[x])=jE (fH p l) x
 |[],_,_=>rfl
 |y::ys,p,x=>Xq ys (jE p y) x
theorem Du:∀(l p:Lz),aG p=true->aG l=true->aG (fH p l)=true
 |[],_,h,_=>h
 |x::xs,p,h,hl=>by
  have a:gY x=true/\aG xs=true:=by simpa[aG] using hl
  exact Du xs (jE p x) (alj h a.1) a.2
theorem alk(x:Int)(i:Nat)(hi:i<8):(jE p x).getD i 0=if i=0 then x else p.getD (i-1) 0:=by
 rcases i with _|i
 ·simp[jE]
 have a:i<7:=ah;simp[jE,a]
def tH(p l:Lz)(i:Nat):Int:=if i<l.length then l.getD (l.length-1-i) 0 else p.getD (i-l.length) 0
theorem alm(p l:Lz)(x:Int)(i:Nat):tH p (l++[x]) i=if i=0 then x else tH p l (i-1):=by
 unfold tH;rcases i with _|i
 ·simp
 simp only[dN,RU,Rn,Nat.succ_ne_zero,if_false];by_cases h:i<l.length
 ·rw[if_pos ah,if_pos h]
  have e:l.length-(i+1)=l.length-1-i:=ah;rw[e,bK,bK,oD ah]
 rw[if_neg ah,if_neg h];congr 1;omega
theorem aln(p:Lz)(l:Lz):∀i,i<8->(fH p l).getD i 0=tH p l i:=by
 induction hl:l.length generalizing l with
 |zero=>
  intro i _;obtain rfl:l=[]:=QY hl;simp[fH,tH]
 |succ n ih=>
  intro i hi;have a:l≠[]:=by intro h;simp[h] at hl
  obtain⟨m,x,rfl⟩:∃m x,l=m++[x]:=⟨l.dropLast,l.getLast a,(List.dropLast_concat_getLast a).symm⟩;rw[Xq,alm,alk _ _ hi];split
  ·rfl
  exact ih m xZ (i-1) ah
theorem alo(b:p.length=8):fH p l=(List.range 8).map (tH p l):=by
 refine dM (by rw[tC _ _ b];simp) fun k a=>?_;rw[tC _ _ b] at a;rw[aln p l k a];simp[a]
def eG(a p e:Lz):Nat->Lz
 |0=>[]
 |n+1=>eG a p e n++[s16 (e.getD n 0-pI a (fH p (eG a p e n)))]
theorem yF(a p e:Lz)(n:Nat):(eG a p e n).length=n:=by
 induction n with
 |zero=>rfl
 |succ n ih=>simp[eG,ih]
theorem yG(a p e:Lz)(n:Nat):aG (eG a p e n)=true:=by
 induction n with
 |zero=>rfl
 |succ n ih=>
  unfold aG at*
  simp[eG,ih,acT]
theorem pJ{z:Int}(a: -9223372036854775808<=z)(b:z<=9223372036854775807):Sm z.natAbs:=bW ah
theorem ac1{w':Wd}{b:Nat}{p:Addr}(h:w.grownBy w' (some b))(hp:p.block≠b)(a:p.block<w.heap.size):w'.cell? p=w.cell? p:=by
 have:=h.block p.block a uV;unfold World.cell?;rw[this]
theorem Xx(w:Wd):IntAt (w.alloc (.cells #[.bool false,.slice none 0 0] 144)) w.heap.size 0:=⟨_,ZI w _,Nm.nil _⟩
def tJ(xs ys:Lz)(i:Nat):Int:=xs.getD i 0*ys.getD i 0
def bQ(xs ys:Lz)(n:Nat):Int:=aN (tJ xs ys) n
def fU(xs:Lz):Prop:=∀i,-32768<=xs.getD i 0/\xs.getD i 0<=32767
theorem nO{y:Int}(a: -32768<=x)(b:x<=32767)(c: -32768<=y)(d:y<=32767): -1073741824<=x*y/\x*y<=1073741824:=by
 have:=iU (x:=x) (X:=32768) (y:=y) (Y:=32768) ah ah ⟨ah,ah⟩ ⟨ah,ah⟩;omega
theorem qy{xs ys:Lz}(a:fU xs)(b:fU ys)(n:Nat): -(1073741824*(n:Int))<=bQ xs ys n/\bQ xs ys n<=1073741824*(n:Int):=by
 unfold bQ;induction n with
 |zero=>simp[aN]
 |succ n ih=>
  have h:=nO (a n).1 (a n).2 (b n).1 (b n).2;simp only[aN];unfold tJ at*
  push_cast;omega
theorem Dy(A A2:Oz)(cA cB n m:Nat)(xs ys:Lz)(w:Wd)(hx:Rs w w.heap.size A xs)(hy:Rs w w.heap.size A2 ys)(hn:xs.length=n)(O:ys.length=m)(u:n<=m)(hl:n<=1000)(h1:fU xs)(h2:fU ys):
 Cl 46 #[.slice A n cA,.slice A2 m cB] w (pz w (bQ xs ys n)):=by
 have HX:=af hx;have HY:=af hy;have HN:=af hn;have HM:=af O;have t:=af h1;have g:=af h2;clear hx hy hn O h1 h2;go_enter Tryz.func46,Tryz.ntmps46;go_wp2;obtain⟨G,L⟩:=ak (w.heap.size);have M:=aj (IntAt (w.alloc (.cells #[.bool false,.slice none 0 0] 144)) G 0) (by rw[L];exact Xx w);have B0:=af (baqq w (.cells #[.bool false,.slice none 0 0] 144));rw[<-L];have V:=af L;clear L;go_loopw[10] (fun iv wr=> ∃k:Nat,k<=n/\iv=.int .i64 k/\Hy (IntAt wr G (bQ xs ys k))/\Hy (Bw w wr)) (fun iv _=>n-(intOf iv).toNat)
 case atStart=>exact⟨0,ah,rfl,M,B0⟩
 case round=>
  clear M B0;obtain⟨k,hk,rfl,a,T⟩:=hrel;obtain⟨W,rfl⟩:=ak (wr:Wd);have b:=qy t.o g.o k;have ST:=aj (bQ xs ys (k+1)=bQ xs ys k+xs.getD k 0*ys.getD k 0) (rfl);obtain⟨s,Z⟩:=ak (bQ xs ys k);rw[<-Z] at b ST a;have C:=af Z;clear Z;have s1: -1073741824000<=s:=ah;have s2:s<=1073741824000:=ah;clear b;by_cases hlt:k<n
  ·have RX:=HX.o.below T.o
   have RY:=HY.o.below T.o;obtain⟨F,rfl,hadb,P⟩:=RX.at_ (k:=k) iT;obtain⟨R,rfl,haeb,Q⟩:=RY.at_ (k:=k) (by rw[HM.o];omega);have S:=t.o k;have q:=g.o k;generalize xs.getD k 0=x at*
   generalize ys.getD k 0=y at*
   obtain⟨p1,p2⟩:=nO S.1 S.2 q.1 q.2;obtain⟨N,J⟩:=S;obtain⟨z,y2⟩:=q;have i1:(k:Int)<n:=ah;have i2:(k:Int)<m:=ah;have i3:(0:Int)<=k:=ah;have hws:=T.o.size;have hbW:=V.o;have hadW:F.block<W.heap.size:=ah;have haeW:R.block<W.heap.size:=ah;have hadb':F.block≠G:=ah;have haeb':R.block≠G:=ah;have K1:=af (fun W'=>jM W' x ah ah);have K2:=af (fun W'=>jM W' y ah ah);clear RX RY hbW;go_wp2;go_region_held3 (fun w'=>w'.cell? (F.add k)=some (.int .i64 x)/\w'.cell? (R.add k)=some (.int .i64 y)) (go_keep) (first
    |(go_at_call 97;(with_reducible refine(K1.o W.drew).mono ?_);rintro e' U ⟨bA,rfl,hbA,H,D⟩;have v:Bw W U:=((aP W.heap.size W).drew).trans (D.mono Uh);have h:=v.size;have a0:World.cell? U (F.add k)=some (.int .i64 x):=(v.cell (by rw[dV];first|omega|(simp;omega))).trans P;have a1:World.cell? U (R.add k)=some (.int .i64 y):=(v.cell (by rw[dV];first|omega|(simp;omega))).trans Q;have d:=af H;have v:=af v;clear H D)
    |(go_at_call 97;(with_reducible refine(K1.o (World.drew (W.alloc (.cells #[.bool false,.slice none 0 0] 144)))).mono ?_);rintro e' U ⟨bA,rfl,hbA,H,D⟩;have v:Bw W U:=((baqq W (.cells #[.bool false,.slice none 0 0] 144)).drew).trans (D.mono Uh);have h:=v.size;have a0:World.cell? U (F.add k)=some (.int .i64 x):=(v.cell (by rw[dV];first|omega|(simp;omega))).trans P;have a1:World.cell? U (R.add k)=some (.int .i64 y):=(v.cell (by rw[dV];first|omega|(simp;omega))).trans Q;have PA:=af (IntBlk.below (IntBlk.new W (.bool false) (.slice none 0 0)).drew D (ax _));have d:=af H;have v:=af v;clear H D)
    |(go_at_call 97;(with_reducible refine(K2.o U).mono ?_);rintro e' l ⟨bB,rfl,hbB,I,i⟩;have LB:Bw W l:=v.o.trans (i.mono Un);have sB:=LB.size;have b0:World.cell? l (F.add k)=some (.int .i64 x):=(LB.cell (by rw[dV];first|omega|(simp;omega))).trans P;have b1:World.cell? l (R.add k)=some (.int .i64 y):=(LB.cell (by rw[dV];first|omega|(simp;omega))).trans Q;have IB:=af (d.o.below i (ax _));have sAB:=i.size;have ABw:=af i;have JB:=af I;have LB:=af LB;clear I i)
    |(go_at_call 97;(with_reducible refine(K2.o (U.alloc (.cells #[.bool false,.slice none 0 0] 144))).mono ?_);rintro e' l ⟨bB,rfl,hbB,I,i⟩;have LB:Bw W l:=(v.o.alloc h (.cells #[.bool false,.slice none 0 0] 144)).trans (i.mono Un);have sB:=LB.size;have b0:World.cell? l (F.add k)=some (.int .i64 x):=(LB.cell (by rw[dV];first|omega|(simp;omega))).trans P;have b1:World.cell? l (R.add k)=some (.int .i64 y):=(LB.cell (by rw[dV];first|omega|(simp;omega))).trans Q;have PB:=af (IntBlk.below (IntBlk.new U (.bool false) (.slice none 0 0)) i (ax _));have IB:=af ((d.o.below (baqq _ (.cells #[.bool false,.slice none 0 0] 144)) (ax _)).below i (ax _));have JB:=af I;have LB:=af LB;clear I i)
    |(go_at_call 108;(with_reducible refine(oJ (l.alloc (.cells #[.bool false,.slice none 0 0] 144)) l.heap.size bA bB x y (IntBlk.new l (.bool false) (.slice none 0 0)) (IB.o.below (baqq _ (.cells #[.bool false,.slice none 0 0] 144)) (ax _)) (JB.o.below (baqq _ (.cells #[.bool false,.slice none 0 0] 144)) (ax _)) (pJ ah ah) (pJ ah ah)).mono ?_);rintro e' E ⟨rfl,p,c⟩;have ltM:W.heap.size<=l.heap.size:=ah;have XM:=af ((a.o.below (LB.o.alloc sB (.cells #[.bool false,.slice none 0 0] 144)) (ax _):IntAt (l.alloc (.cells #[.bool false,.slice none 0 0] 144)) G s).kept (IntBlk.new l (.bool false) (.slice none 0 0)) c FW);have j:Bw W E:=eP (LB.o.alloc sB (.cells #[.bool false,.slice none 0 0] 144)) c ah;have f:World.cell? E (F.add k)=some (.int .i64 x):=(j.cell (by rw[dV];first|omega|(simp;omega))).trans P;have m1:World.cell? E (R.add k)=some (.int .i64 y):=(j.cell (by rw[dV];first|omega|(simp;omega))).trans Q;have IM:=af p;have j:=af j;clear p c)
    |(go_at_call 108;have tok:=PB.o;clear tok;(with_reducible refine(oJ l U.heap.size bA bB x y PB.o IB.o JB.o (pJ ah ah) (pJ ah ah)).mono ?_);rintro e' E ⟨rfl,p,c⟩;have ltM:W.heap.size<=U.heap.size:=ah;have XM:=af ((a.o.below LB.o (ax _):IntAt l G s).kept PB.o c FW);have j:Bw W E:=eP (LB.o) c ah;have f:World.cell? E (F.add k)=some (.int .i64 x):=(j.cell (by rw[dV];first|omega|(simp;omega))).trans P;have m1:World.cell? E (R.add k)=some (.int .i64 y):=(j.cell (by rw[dV];first|omega|(simp;omega))).trans Q;have IM:=af p;have j:=af j;clear p c)
    |(go_at_call 108;have PC:=af (IntBlk.below PA.o (B:=U.heap.size) ABw.o (ax _));(with_reducible refine(oJ l W.heap.size bA bB x y PC.o IB.o JB.o (pJ ah ah) (pJ ah ah)).mono ?_);rintro e' E ⟨rfl,p,c⟩;have ltM:W.heap.size<=W.heap.size:=ah;have XM:=af ((a.o.below LB.o (ax _):IntAt l G s).kept PC.o c FW);have j:Bw W E:=eP (LB.o) c ah;have f:World.cell? E (F.add k)=some (.int .i64 x):=(j.cell (by rw[dV];first|omega|(simp;omega))).trans P;have m1:World.cell? E (R.add k)=some (.int .i64 y):=(j.cell (by rw[dV];first|omega|(simp;omega))).trans Q;have IM:=af p;have j:=af j;clear p c)
    |(go_at_call 96;(with_reducible refine(uZ E G G _ s (x*y) XM.o.blk XM.o IM.o (pJ ah ah) (pJ ah ah)).mono ?_);rintro e' wS ⟨rfl,Y,X⟩;have XS:=af Y;have GS:=af X;have ns0:World.cell? wS (F.add k)=some (.int .i64 x):=(ac1 GS.o CS (by rw[dV];have:=j.o.size;omega)).trans f;have ns1:World.cell? wS (R.add k)=some (.int .i64 y):=(ac1 GS.o CS (by rw[dV];have:=j.o.size;omega)).trans m1;clear Y X))
   all_goals
    rename_i hHeldZ;clear hHeldZ a0 a1 b0 b1 f m1 P Q ns0 ns1;try simp only[Exit.then]
    have r:=af (eP (aH T.o j.o) GS.o (by rw[V.o];exact ax _));have XS2:=af (show IntAt wS G (bQ xs ys (k+1)) by rw[ST.o];exact XS.o);go_wp2;go_roundw;case rel=>exact⟨k+1,ah,aT,XS2,r⟩
    case measure=>exact aW
  obtain rfl:k=n:=ah;have K:=af (qm W G s a.o ah ah);go_wp2_with(go_at_call 102;(with_reducible refine K.o.mono ?_);rintro e w' ⟨rfl,rfl⟩);go_ret;exact⟨Gq,T.o⟩
theorem DC(n k:Nat):(List.replicate n (0:Int)).getD k 0=0:=by
 rw[bK,BO];split<;>rfl
def jc(ring:Lz)(a i:Nat):Int:=if a<=i then s16 (ring.getD (i-a) 0) else 0
def kN(ring:Lz)(a:Nat):Lz:=(List.range 40).map (jc ring a)
def nP(ring:Lz)(a k:Nat):Lz:=(List.range 40).map (fun j=>if j<k then jc ring a j else 0)
theorem Xy(ring:Lz)(a:Nat):(kN ring a).length=40:=by simp[kN]
theorem qW(ring:Lz)(a k:Nat):(nP ring a k).length=40:=by simp[nP]
theorem yH(ring:Lz)(a i:Nat): -32768<=jc ring a i/\jc ring a i<=32767:=by
 unfold jc;split
 ·exact nI _
 omega
theorem alC(ring:Lz)(a:Nat):fU (kN ring a):=fun i=>by
 by_cases h:i<40
 ·unfold kN;rw[bJ _ h];exact yH ring a i
 rw[bK,iy (by rw[Xy];omega)];simp
theorem alD(ring:Lz)(a:Nat):nP ring a 40=kN ring a:=by
 refine dM (by rw[qW,Xy]) fun k b=>?_;rw[qW] at b;unfold nP kN;rw[bJ _ b,bJ _ b,if_pos b]
theorem alE(ring:Lz)(a:Nat):nP ring a 0=List.replicate 40 0:=by
 refine dM (by rw[qW];simp) fun k b=>?_;rw[qW] at b;unfold nP;rw[bJ _ b,if_neg ah,DC]
theorem alF(ring:Lz){a:Nat}(h:k<a):nP ring a (k+1)=nP ring a k:=by
 refine dM (by rw[qW,qW]) fun j b=>?_;rw[qW] at b;unfold nP;rw[bJ _ b,bJ _ b];by_cases e:j=k
 ·subst e;rw[if_pos ah,if_neg ah];unfold jc;rw[if_neg ah]
 exact ahR
theorem alG(ring:Lz){a:Nat}(h:a<=k)(b:k<40):(nP ring a k).set k (s16 (ring.getD (k-a) 0))=nP ring a (k+1):=by
 refine dM (by simp[qW]) fun j hj=>?_;rw[fP,qW] at hj;by_cases e:k=j
 ·subst e
  rw[gQ _ _ _ (by rw[qW];exact b)];unfold nP;rw[bJ _ hj,if_pos ah];unfold jc;rw[if_pos h]
 rw[gV _ _ e];unfold nP;exact GH
theorem alH(A:Oz)(c:Nat)(ring:Lz)(a:Nat)(w:Wd)(y:Rs w w.heap.size A ring)(v:ring.length=40)(P:a<=40)(z:W64 ring):
 Cl 175 #[.slice A 40 c,.int .i64 (a:Nat)] w (fun e w'=> ∃A2 c2,e=.returned (.slice A2 40 c2)/\Own w' w.heap.size A2 c2 (kN ring a)/\Bw w w'):=by
 have D:=af y;have HN:=af v;have E:=af z;clear y v z;go_enter Tryz.func175,Tryz.ntmps175;go_wp2_with(at_make;refine nK rfl _ _ rfl .i64 .i64 40 rfl rfl w.heap.size ah (ax _) ?_;intro G t s;have q:=af (show Own G w.heap.size (some ⟨w.heap.size,0,none⟩) 40 (nP ring a 0) by rw[alE];exact t);have n:=af ((aP w.heap.size w).grown s (ax _) ay);clear t s);go_loopw[10] (fun j wr=> ∃k:Nat,k<=40/\j=.int .i64 k/\Hy (Own wr w.heap.size (some ⟨w.heap.size,0,none⟩) 40 (nP ring a k))/\Hy (Bw w wr)) (fun j _=>40-(intOf j).toNat)
 case atStart=>exact⟨0,ah,rfl,q,n⟩
 case round=>
  clear q n;obtain⟨k,R,rfl,Q,H⟩:=hrel;by_cases b:k<40
  ·by_cases g:a<=k
   ·obtain⟨K,rfl,u,r⟩:=(D.o.below H.o).at_ (k:=k-a) Gl
    have l:=E.o.at_ (k-a);have f:=af (alG ring g b);obtain⟨N,J⟩:=l;generalize ring.getD (k-a) 0=x at*
    obtain⟨m,O⟩:=ak (k-a);rw[<-O] at r;have hi:(k:Int)-(a:Nat)=(m:Nat):=ah;have S:(m:Int)<40:=ah;have T:(0:Int)<=m:=ah;have F:(a:Int)<=k:=ah;have I:=af O;clear O;go_wp2_with fail;refine(sN x _ N J).mono ?_;rintro e U ⟨rfl,i⟩;have h:=af (Q.o.below i);have B:=af (aH H.o i);have L:=h.o.cell k (by rw[qW];exact b);have M:=h.o.frozen k;have d:=af (h.o.set_ k (by rw[qW];exact b) (s16 x));rw[f.o] at d;have C:=af (B.o.setCell (p:=⟨w.heap.size,k,none⟩) (ax _) (.int .i64 (s16 x)));clear i r hi;go_wp2;go_roundw;case rel=>exact⟨k+1,ah,aT,d,C⟩
    case measure=>exact aW
   have F: ¬(a:Int)<=k:=ah;have d:=af (show Own wr w.heap.size (some ⟨w.heap.size,0,none⟩) 40 (nP ring a (k+1)) by rw[alF ring ah];exact Q.o);clear g;go_wp2;go_roundw;case rel=>exact⟨k+1,ah,aT,d,H⟩
   case measure=>exact aW
  obtain rfl:k=40:=ah;have d:=af (show Own wr w.heap.size (some ⟨w.heap.size,0,none⟩) 40 (kN ring a) by rw[<-alD];exact Q.o);go_wp2;go_ret;exact⟨_,_,rfl,d.o,H.o⟩
def inH(a:Int):Bool:=decide (0<=a/\a<=39)
def xg(n:Nat)(a b:Int):Int:=if n=40 then(if inH a&&inH b then 0 else 2) else 1
def enV(ring:Lz)(a b:Int):Int:=if xg ring.length a b=0 then bQ (kN ring a.toNat) (kN ring b.toNat) 40 else 0
def EnAns(ring:Lz)(a b:Int)(w:Wd)(e:Ending)(w':Wd):Prop:=e=.returned (.tuple #[.int .i64 (enV ring a b),.int .i64 (xg ring.length a b)])/\Bw w w'
theorem EnAns.bad{ring:Lz}{a b:Int}{w':Wd}{er:Int}(h:xg ring.length a b=er)(c:er≠0)(d:Bw w w'):EnAns ring a b w (.returned (.tuple #[.int .i64 0,.int .i64 er])) w':=
 ⟨by unfold enV;rw[h,if_neg c],d⟩
def enT(ring:Lz)(a b i:Nat):Int:=jc ring a i*jc ring b i
theorem ac2(ring:Lz)(a b:Nat):bQ (kN ring a) (kN ring b) 40=aN (enT ring a b) 40:=
 oK 40 fun i hi=>by unfold tJ kN enT;rw[bJ _ hi,bJ _ hi]
theorem Xz(ring:Lz)(a b:Nat):∀k,k<=a\/k<=b->aN (enT ring a b) k=0
 |0,_=>rfl
 |k+1,h=>by
  have c:jc ring a k=0\/jc ring b k=0:=by
   rcases h with h|h
   ·left;unfold jc;rw[if_neg ah]
   right;unfold jc;rw[if_neg ah]
  have d:=Xz ring a b k ah;simp only[aN];rw[d];unfold enT;rcases c with c|c<;>rw[c]<;>simp
theorem ac3(ring:Lz)(a b k:Nat): -(1073741824*(k:Int))<=aN (enT ring a b) k/\aN (enT ring a b) k<=1073741824*(k:Int):=by
 induction k with
 |zero=>simp[aN]
 |succ k ih=>
  have h:=nO (yH ring a k).1 (yH ring a k).2 (yH ring b k).1 (yH ring b k).2;simp only[aN];unfold enT at*
  push_cast;omega
theorem alI(A:Oz)(c n:Nat)(ring:Lz)(a b:Int)(w:Wd)(l:Rs w w.heap.size A ring)(i:ring.length=n)(r:W64 ring):
 Cl 199 #[.slice A n c,.int .i64 a,.int .i64 b] w (EnAns ring a b w):=by
 by_cases z:n=40;rotate_left
 ·have D:=af (fun w' (hB:Bw w w')=>EnAns.bad (ring:=ring) (a:=a) (b:=b) (er:=1) (by rw[i];unfold xg;rw[if_neg z]) aA hB)
  have Y:((n:Int) !=40)=true:=aC;have R: ¬(n:Int)=40:=ah;clear z i l r;go_enter Cc,Ce;exact o8
 subst z;by_cases g:inH a=true/\inH b=true;rotate_left
 ·have D:=af (fun w' (hB:Bw w w')=>EnAns.bad (ring:=ring) (a:=a) (b:=b) (er:=2) (by rw[i];unfold xg;rw[if_pos rfl,if_neg (by simpa using g)]) aA hB)
  unfold inH at g;simp only[aak] at g;clear i l r;by_cases E:a<0
  ·clear g
   go_enter Cc,Ce;exact o8
  by_cases N:39<a
  ·have G:40<=a:=ah
   clear g;go_enter Cc,Ce;exact o8
  have G: ¬40<=a:=ah;by_cases K:b<0
  ·clear g
   go_enter Cc,Ce;exact o8
  have P:39<b:=ah;have Q:40<=b:=ah;clear g;go_enter Cc,Ce;exact o8
 have HV:=af (show xg ring.length a b=0 by rw[i];unfold xg;rw[if_pos rfl,if_pos (by simpa using g)]);have M:=af (show enV ring a b=bQ (kN ring a.toNat) (kN ring b.toNat) 40 by unfold enV;rw[if_pos HV.o]);unfold inH at g;simp only[aak] at g;obtain⟨⟨E,N⟩,K,P⟩:=g;obtain⟨p,rfl⟩:=gI E;obtain⟨q,rfl⟩:=gI K;rw[show((p:Nat):Int).toNat=p from rfl,show((q:Nat):Int).toNat=q from rfl] at M;have f:=af i;have HR:=af l;have U:=af r;clear l i r;have G: ¬((p:Nat):Int)<0:=ah;have V: ¬40<=((p:Nat):Int):=ah;have Q: ¬((q:Nat):Int)<0:=ah;have X: ¬40<=((q:Nat):Int):=ah;by_cases S:(p:Int)<q
 ·have u:=af (show(0:Int)=aN (enT ring p q) q from(Xz ring p q q (.inr (ax _))).symm)
  go_enter Cc,Ce;go_wp2;go_loopw[8,9] (fun B j wr=> ∃(k:Nat) (s:Int),q<=k/\k<=40/\j=.int .i64 k/\B=.int .i64 s/\Hy (s=aN (enT ring p q) k)/\Hy (Bw w wr)) (fun _ j _=>40-(intOf j).toNat)
  case atStart=>exact⟨q,0,ax _,ah,rfl,rfl,u,af (aP _ _)⟩
  case round=>
   exact ahG
 ·have u:=af (show(0:Int)=aN (enT ring p q) p from(Xz ring p q p (.inl (ax _))).symm)
  have L:(q:Int)<=p:=ah;go_enter Cc,Ce;go_wp2;go_loopw[8,9] (fun B j wr=> ∃(k:Nat) (s:Int),p<=k/\k<=40/\j=.int .i64 k/\B=.int .i64 s/\Hy (s=aN (enT ring p q) k)/\Hy (Bw w wr)) (fun _ j _=>40-(intOf j).toNat)
  case atStart=>exact⟨p,0,ax _,ah,rfl,rfl,u,af (aP _ _)⟩
  case round=>
   exact ahG
def glF(k:Nat):Int:=glV (k:Nat)
def glL:Lz:=(List.range 32).map glF
theorem aew:glL.length=32:=by simp[glL]
theorem Yu(h:k<32):glL.getD k 0=glV (k:Nat):=bJ glF h
theorem Yv(i:Nat):0<=glL.getD i 0/\glL.getD i 0<=32767:=by
 by_cases h:i<32
 ·rw[Yu h];exact IU _
 rw[bK,iy (by rw[aew];omega)];simp
def pO(x:Int):Int:=if x<=1152921504606846976 then x else 1152921504606846976
def mF(x:Int):Int:=if x<=17592186044416 then x else 17592186044416
def lT(c e:Int):Int:=if c<=0\/e<=0 then 0 else iF glL 1 (pO c) (mF e) 32
theorem anC(c e:Int)(w:Wd)(T:TabA w 4 dY)(U: -9223372036854775808<=c)(c2:c<=9223372036854775807)(e1: -9223372036854775808<=e)(S:e<=9223372036854775807):
 Cl 77 #[.int .i64 c,.int .i64 e] w fun e' w'=>e'=.returned (.int .i64 (lT c e))/\w=w':=by
 by_cases A:c<=0
 ·have D:=af (show lT c e=0 by unfold lT;rw[if_pos (.inl A)])
  clear T;go_enter Tryz.func77,Tryz.ntmps77;exact abJ
 by_cases B:e<=0
 ·have D:=af (show lT c e=0 by unfold lT;rw[if_pos (.inr B)])
  clear T;go_enter Tryz.func77,Tryz.ntmps77;exact abJ
 have D:=af (show lT c e=iF glL 1 (pO c) (mF e) 32 by unfold lT;rw[if_neg ah]);have u:=af (fun n=>ac0 n w T);clear T;have N:0<c:=ah;have O:0<e:=ah;clear A B;obtain⟨d,f,E,F⟩:∃d,d=pO c/\0<d/\d<=1152921504606846976:=⟨_,rfl,aa6,aa6⟩;obtain⟨a,h,G,H⟩:∃a,a=mF e/\0<a/\a<=17592186044416:=⟨_,rfl,aa7,aa7⟩;rw[<-f,<-h] at D;have j:=af f;have l:=af h;clear f h;go_enter Tryz.func77,Tryz.ntmps77;go_upto_region 3 with fail;go_cut[0,1] (fun P Q R=>P=.int .i64 d/\Q=.int .i64 a/\Hy (R=w))
 case first=>
  rcases Ff 1152921504606846976 c with v|v<;>rcases Ff 17592186044416 e with z|z<;>(
   try have Z:=Int.not_le.2 v
   try have n2:=Int.not_le.2 z
   go_wp2_with fail;go_meet;exact⟨iI (Value.int .i64) (by rw[j.o];unfold pO;split<;>omega),iI (Value.int .i64) (by rw[l.o];unfold mF;split<;>omega),af rfl⟩)
 case rest=>
  obtain⟨rfl,rfl,s⟩:=hcut;obtain rfl:=s.o;clear s j l N O;go_wp2;go_loop [5,6] (fun C r=> ∃(k:Nat),1<=k/\k<=32/\r=.int .i64 k/\C=.int .i64 (iF glL 1 d a k)) (fun _ r=>32-(intOf r).toNat)
  case atStart=>exact⟨1,ah,ah,rfl,by simp[iF]⟩
  case round=>
   obtain⟨k,J,V,rfl,rfl⟩:=hrel;have nb:=PR glL 1 d a k;have ST:=af (PQ glL 1 d a (k:=k) ah);by_cases q:k<32
   ·generalize iF glL 1 d a k=bst at*
    have m:=u.o ((k:Int)-1);have p:=u.o (k:Nat);rw[show glV ((k:Int)-1)=glL.getD (k-1) 0 by rw[Yu ah];congr 1;omega] at m;rw[<-Yu q] at p;have v0:=Yv k;have v1:=Yv (k-1);generalize glL.getD k 0=y at*
    generalize glL.getD (k-1) 0=x at*
    have K:=PS (x:=x+y) (X:=65534) (y:=a) (Y:=17592186044416) ah ah ah ah;have b:(y+x)*a=(x+y)*a:=(by rw[Int.add_comm]);obtain⟨L,M⟩:=K;have t:=af m;have i:=af p;clear m p;have W:(k:Int)<=31:=ah;by_cases I:(x+y)*a<2*d
    ·have g:=af (show iF glL 1 d a (k+1)=k by rw[ST.o,if_pos (by rw[b];omega)])
     exact ah6
    have g:=af (show iF glL 1 d a (k+1)=bst by rw[ST.o,if_neg (by rw[b];omega)]);exact ah6
   obtain rfl:k=32:=ah;exact abJ
theorem anD(c e:Int)(w:Wd)(T:TabS w 5 dY)(M: -9223372036854775808<=c)(c2:c<=9223372036854775807)(N: -9223372036854775808<=e)(S:e<=9223372036854775807):
 Cl 119 #[.int .i64 c,.int .i64 e] w fun e' w'=>e'=.returned (.int .i64 (lT c e))/\Bw w w':=by
 by_cases p:c<=0
 ·have D:=af (show lT c e=0 by unfold lT;rw[if_pos (.inl p)])
  clear T;go_enter Tryz.func119,aau;exact zM
 by_cases q:e<=0
 ·have D:=af (show lT c e=0 by unfold lT;rw[if_pos (.inr q)])
  clear T;go_enter Tryz.func119,aau;exact zM
 have D:=af (show lT c e=iF glL 1 (pO c) (mF e) 32 by unfold lT;rw[if_neg ah]);have j:=af (fun n w' (h:Bw w w')=>aeu n w' (T.below' h (ax _)));clear T;have P:0<c:=ah;have R:0<e:=ah;clear p q;have F:0<pO c/\pO c<=1152921504606846976:=aa6;have G:0<mF e/\mF e<=17592186044416:=aa7;have K:=af (fun W A cp (hR:Rs W W.heap.size A glL)=>aev A cp 32 glL 1 (pO c) (mF e) W hR aew ah ah (fun i=>by have:=Yv i;omega) ah ah ah ah ah ah);clear F G;go_enter Tryz.func119,aau;go_wp2;go_loopw[5,6] (fun I g wr=> ∃(k:Nat) (A:Oz) (cp:Nat),k<=32/\g=.int .i64 k/\I=.slice A k cp/\Hy (Own wr w.heap.size A cp ((List.range k).map glF))/\Hy (Bw w wr)) (fun _ g _=>32-(intOf g).toNat)
 case atStart=>exact⟨0,none,0,ah,rfl,rfl,af Own.nil,af (aP _ _)⟩
 case round=>
  obtain⟨k,A,cp,O,rfl,rfl,Q,H⟩:=hrel;by_cases f:k<32
  ·have b:=j.o (k:Nat) wr H.o
   unfold Js at b;rw[show glV (k:Nat)=glF k from rfl] at b;generalize hx:glF k=x at*
   have v:=af hx;have d:=af b;clear hx b;go_wp2_with fail;refine d.o.mono ?_;rintro e' t ⟨rfl,hB⟩;have l:=af (Q.o.below hB);have B1:=af (aH H.o hB);clear hB Q;go_wp2_with(at_builtin;refine wR rfl (.tmp 24) (.tmp 26) rfl w.heap.size A cp k ((List.range k).map glF) rfl ay (l.o.alloc _) ⟨t.heap.size,0,none⟩ x rfl (oH t _ _) ah (dL B1.o.size ay) ?_;intro A2 c2 J s r E;have B:=af s;have u:=af r;clear s r E);have y:=af (show Own J w.heap.size A2 c2 ((List.range (k+1)).map glF) by rw[<-Ir,v.o];exact B.o);have z:=af (uX (B1.o.alloc B1.o.size _) (l.o.alloc _) u.o (dL B1.o.size ay));go_wp2;go_roundw;case rel=>exact⟨k+1,A2,c2,ah,aT,rfl,y,z⟩
   case measure=>exact aW
  obtain rfl:k=32:=ah;rw[show(List.range 32).map glF=glL from rfl] at Q;clear f j;by_cases m:c<=1152921504606846976
  ·have q1:pO c=c:=by unfold pO;rw[if_pos m]
   by_cases a:e<=17592186044416
   ·have q2:mF e=e:=by unfold mF;rw[if_pos a]
    exact VD
   have q2:mF e=17592186044416:=(by unfold mF;rw[if_neg a]);have C:17592186044416<e:=ah;exact VD
  have q1:pO c=1152921504606846976:=by unfold pO;rw[if_neg m]
  have L:1152921504606846976<c:=ah;by_cases a:e<=17592186044416
  ·have q2:mF e=e:=by unfold mF;rw[if_pos a]
   exact VD
  have q2:mF e=17592186044416:=by unfold mF;rw[if_neg a]
  have C:17592186044416<e:=ah;exact VD
theorem anE(a p l:Lz)(A:Oz)(c n B:Nat)(w:Wd)(G:a.length=9)(I:p.length=8)(K:Rs w w.heap.size A l)(J:l.length=n)(R:n<=17592186044416):
 Cl 142 #[.agg (agi a),.agg (agi p),.slice A n c] w (Xg w (dZ a p l)):=by
 have s:=af (IB.new w 73 a);have t:=IB.new (w.alloc (.cells (agi a) 73)) 52 p;simp only[bT] at t;have t:=af t;have s:=af (Blk.alloc s.o (.cells (agi p) 52));have HA:=af G;have F:=af I;have HN:=af J;have M:=af (K.below (((aP _ w).alloc (ax _) (.cells (agi a) 73)).alloc ay (.cells (agi p) 52)));have H:=af (((aP _ w).alloc (ax _) (.cells (agi a) 73)).alloc ay (.cells (agi p) 52));have u:=fun(k:Nat) (m:k<9) (w:Wd)=>jW bP a G k m w;have D:=af u;have q:=fun(k:Nat) (m:k<8) (w:Wd)=>jW aU p I k m w;have E:=af q;clear G I J K u q;have r:=IB.cell s.o 0 Vk;obtain⟨P,j⟩:=ak (a.getD 0 0);rw[<-j] at r;have v:=af j;have L:=af r;clear j r;go_enter Tryz.func142,Tryz.ntmps142;go_wp2_with(refine aK 73 (.tmp 3) a 9 s.o bP bC HA.o ?_);go_loop [14] (fun f=> ∃k:Nat,k<=9/\f=.int .i64 k/\Hy (allTo yE a k)) (fun f=>9-(intOf f).toNat)
 case atStart=>exact⟨0,ah,rfl,af allTo.zero⟩
 case round=>
  obtain⟨k,m,rfl,g⟩:=hrel;by_cases hlt:k<9
  ·have u:=D.o k hlt
   obtain⟨x,d⟩:=ak (a.getD k 0);rw[<-d] at u;have HX:=af d;clear d;by_cases b1:x< -1048576
   ·have HF:=aj (okP a=false) (jb (i:=k) uP (Oe MJ))
    exact We
   by_cases b2:1048576<x
   ·have HF:=aj (okP a=false) (jb (i:=k) uP (Oe MK))
    exact We
   have b:=af (g.o.succ (by rw[<-HX.o];exact Oc ah ah));go_wp2;exact yg
  obtain rfl:k=9:=ah;have C:=aj (okP a=true) (g.o.all MH);clear hlt g;go_wp2_with(refine aK 52 (.tmp 4) p 8 t.o aU aJ F.o ?_);go_loop [25] (fun f=> ∃k:Nat,k<=8/\f=.int .i64 k/\Hy (allTo gY p k)) (fun f=>8-(intOf f).toNat)
  case atStart=>exact⟨0,ah,rfl,af allTo.zero⟩
  case round=>
   obtain⟨k,m,rfl,g⟩:=hrel;by_cases hlt:k<8
   ·have u:=E.o k hlt
    obtain⟨x,d⟩:=ak (p.getD k 0);rw[<-d] at u;have HX:=af d;clear d;by_cases z:x< -32768\/32767<x
    ·have HF:=aj (aG p=false) (jb (i:=k) (by rw[F.o];exact hlt) (ve ww))
     exact aia
    have b:=af (g.o.succ Df);have O:=mW (x:=x) ah ah;clear z;go_wp2_with(go_at_call 143;refine(Ad _ _).mono ?_;rintro e w' ⟨rfl,rfl⟩);exact yg
   obtain rfl:k=8:=ah;have y:=aj (aG p=true) (g.o.all (by rw[F.o];exact ax _));clear hlt g;go_wp2;go_loop [35] (fun f=> ∃k:Nat,k<=n/\f=.int .i64 k/\Hy (allTo gY l k)) (fun f=>n-(intOf f).toNat)
   case atStart=>exact⟨0,ah,rfl,af allTo.zero⟩
   case round=>
    obtain⟨k,m,rfl,g⟩:=hrel;by_cases hlt:k<n
    ·obtain⟨Q,rfl,_,N⟩:=M.o.at_ (k:=k) iT
     obtain⟨x,d⟩:=ak (l.getD k 0);rw[<-d] at N;have HX:=af d;clear d;by_cases z:x< -32768\/32767<x
     ·have HF:=aj (aG l=false) (jb (i:=k) iT (ve ww))
      exact aia
     have b:=af (g.o.succ Df);have O:=mW (x:=x) ah ah;clear z;go_wp2_with(go_at_call 143;refine(Ad _ _).mono ?_;rintro e w' ⟨rfl,rfl⟩);exact yg
    have HF:=aj (aG l=true) (g.o.all Gl);have r:=L.o;go_wp2;go_ret;exact⟨by unfold dZ;rw[C.o,y.o,HF.o,<-v.o];simp only[Lu,Bool.and_true];rfl,H.o⟩
theorem anF(a p:Lz)(w:Wd)(r:a.length=9)(m:p.length=8)(u:okP a=true)(v:aG p=true):
 Cl 144 #[.agg (agi a),.agg (agi p)] w fun e w'=>e=.returned (.int .i64 (pI a p))/\Bw w w':=by
 have h:=af (IB.new w 73 a);have c:=IB.new (w.alloc (.cells (agi a) 73)) 52 p;simp only[bT] at c;have c:=af c;have h:=af (Blk.alloc h.o (.cells (agi p) 52));have HA:=af r;have A:=af m;have H:=af (((aP _ w).alloc (ax _) (.cells (agi a) 73)).alloc ay (.cells (agi p) 52));have b:=fun(k:Nat) (t:k<8) (w:Wd)=>jW aU p m k t w;have d:=af b;have q:=af u;have l:=af v;clear r m b u v;go_enter Tryz.func144,Tryz.ntmps144;go_wp2_with(refine aK 52 (.tmp 3) p 8 c.o aU aJ A.o ?_);go_loop [5,9] (fun D n=> ∃(k:Nat) (s:Int),k<=8/\n=.int .i64 k/\D=.int .i64 s/\Hy (s=2048+aN (oN a p) k)) (fun _ n=>8-(intOf n).toNat)
 case atStart=>exact⟨0,2048,ah,rfl,rfl,af rfl⟩
 case round=>
  obtain⟨k,s,t,rfl,rfl,C⟩:=hrel;by_cases j:k<8
  ·have b:=d.o k j
   have E:=IB.cell h.o (k+1) Vk;have L:=Xo q.o l.o k;have B:=Og q.o l.o k;have f:=af (show 2048+aN (oN a p) (k+1)=s+oN a p k by rw[C.o];simp only[aN];omega);have Z:=C.o;have F: -300000000000<=s:=ah;have G:s<=300000000000:=ah;clear Z B;unfold oN at L f;generalize a.getD (k+1) 0=x at*
   generalize p.getD k 0=y at*
   obtain⟨I,J⟩:=L;have g:=aj (s+x*y=2048+aN (fun i=>a.getD (i+1) 0*p.getD i 0) (k+1)) (f.o.symm);clear f C;go_wp2;go_round;case rel=>exact⟨k+1,_,ah,aT,rfl,g⟩
   case measure=>exact aW
  obtain rfl:k=8:=ah;have z:=af (show s/4096=pI a p by unfold pI;rw[C.o]);go_wp2;go_ret;exact⟨by rw[<-z.o];rfl,H.o⟩
theorem anG(p:Lz)(x:Int)(w:Wd)(n:p.length=8):
 Cl 145 #[.agg (agi p),.int .i64 x] w fun e w'=>e=.returned (.agg (agi (jE p x)))/\Bw w w':=by
 have L:=Af (fn:=Tryz.f145) (p:=4) (ty:=52) rfl;have M:=IB.new w 52 p;have f:=af (Blk.alloc M (.cells (agi Z8) 52));have C:=IB.new (w.alloc (.cells (agi p) 52)) 52 Z8;simp only[bT] at C;have s:=af C;have H:=af (((aP _ w).alloc (ax _) (.cells (agi p) 52)).alloc ay (.cells (agi Z8) 52));rw[dP] at f s H;have t:=af n;have c:(p.take 7).length=7:=by simp[n]
 have E:=af c;obtain⟨l,r⟩:=ak (p.take 1++p.take 7++p.drop (1+(p.take 7).length));have k:l.set 0 x=jE p x:=by
  rw[r,c];have K:p.drop 8=[]:=List.drop_eq_nil_of_le ah;rw[K];match p,n with
  |a::q,_=>simp[jE]
 have i:l.length=8:=by rw[r,c];simp;omega
 have J:=af r;have b:=af k;have u:=af i;have G:∀j,j<7->(p.take 7).getD j 0=p.getD j 0:=fun j m=>by simp[m]
 have S:=af G;clear n c r k i G M C;go_enter Tryz.func145,Tryz.ntmps145;go_wp2;go_region_law (refine WQ rfl (.tmp 5) (.tmp 6) 26 26 rfl qH w.heap.size 1 7 7 ⟨w.heap.size,0,none⟩ 7 8 UF UF 52 p (p.take 7) l f.o (by rw[E.o];rfl) (fun j m=>by rw[lN];rw[E.o] at m;rw[S.o j m];exact IB.cell f.o j (by rw[t.o];omega)) (by rw[E.o,t.o];omega) J.o ?_)
 generalize hw4:World.setRow _ _ _=w4;have d:IB w4 w.heap.size 52 l:=by rw[<-hw4];exact IB.setRow (Blk.drew f.o) l
 have z:IB w4 (w.heap.size+1) 52 Z8:=by rw[<-hw4];exact Blk.rowFar (Blk.drew s.o) ah
 have A:Bw w w4:=by rw[<-hw4];exact(rQ H.o).trans (aS (aP _ _) (ax _) _)
 have d:=af d;have z:=af z;have A:=af A;clear hw4 f s H;have N:=IB.cell d.o 0 (by rw[u.o];omega);have O:=Blk.frozen d.o 0;have y:=af (show IB (w4.setCell ⟨w.heap.size,0,none⟩ (.int .i64 x)) w.heap.size 52 (jE p x) by rw[<-b.o];exact IB.set_ d.o 0 x);have h:=aj (IB (w4.setCell ⟨w.heap.size,0,none⟩ (.int .i64 x)) (w.heap.size+1) 52 Z8) (Blk.far z.o Ub _);have B:=af (A.o.setCell (p:=⟨w.heap.size,0,none⟩) (ax _) (.int .i64 x));have F:=af (Xp t.o x);have D:=af (aS B.o (g:=w.heap.size+1) ah (agi (jE p x)));have I:=af (IB.setRow h.o (jE p x));go_wp2_with(first
  |(refine aK 52 (.tmp 2) (jE p x) 8 y.o aU aJ F.o ?_)
  |(refine aQ 52 (.tmp 4) (.tmp 10) Z8 (jE p x) 8 h.o aJ rfl F.o ?_))
 refine aX (v:=_) (L _ _ _ 52 (jE p x) _ 8 rfl I.o aU rfl aJ F.o) rfl ?_;exact⟨rfl,D.o⟩
theorem YJ(i:Int):0<=wgt i/\wgt i<=32767:=by
 by_cases h:i<0\/120<=i
 ·rw[JC h];omega
 by_cases a:i<60
 ·rw[Qa ah a];omega
 rw[YI ah ah];omega
def fJ(l:Lz)(i:Nat):Int:=(l.getD i 0*wgt (i:Nat)+16384)/32768
theorem Ee(h:fU l)(i:Nat): -32768<=fJ l i/\fJ l i<=32768:=by
 have a:=h i;have b:=YJ (i:Nat);unfold fJ;generalize l.getD i 0=x at*
 generalize wgt (i:Nat)=y at*
 have:=iU (x:=x) (X:=32768) (y:=y) (Y:=32767) ah ah ⟨ah,ah⟩ ⟨ah,ah⟩;omega
def vH(l:Lz)(k i:Nat):Int:=fJ l i*fJ l (i+k)
def fZ(l:Lz)(k n:Nat):Int:=aN (vH l k) n
theorem anX(h:fU l)(k i:Nat): -1073741824<=vH l k i/\vH l k i<=1073741824:=by
 have a:=Ee h i;have b:=Ee h (i+k);have:=iU (x:=fJ l i) (X:=32768) (y:=fJ l (i+k)) (Y:=32768) ah ah ⟨ah,ah⟩ ⟨ah,ah⟩;unfold vH;omega
theorem Qb(h:fU l)(k n:Nat)(a:n<=120): -128849018880<=fZ l k n/\fZ l k n<=128849018880:=by
 have: -(1073741824*(n:Int))<=fZ l k n/\fZ l k n<=1073741824*(n:Int):=by
  clear a;unfold fZ;induction n with
  |zero=>simp[aN]
  |succ n ih=>
   have:=anX h k n;simp only[aN];push_cast;omega
 omega
def fG(l:Lz):Int:=fZ l 0 120+1
theorem Qc(x:Int):0<=x*x:=by
 rcases RS 0 x with h|h
 ·exact qL h h
 exact ag0 h h
theorem anY(a b:Int): -(a*a+b*b)<=2*(a*b)/\2*(a*b)<=a*a+b*b:=by
 have d:=Qc (a+b);have e:=Qc (a-b);have c:(a+b)*(a+b)=a*a+2*(a*b)+b*b:=by rw[Lh,Lj,Lj,oC b a];omega
 have S:(a-b)*(a-b)=a*a-2*(a*b)+b*b:=by rw[Int.sub_mul,Int.mul_sub,Int.mul_sub,oC b a];omega
 omega
def sqs(l:Lz)(n:Nat):Int:=aN (fun i=>fJ l i*fJ l i) n
theorem YM(l:Lz)(n:Nat):0<=sqs l n:=by
 unfold sqs;induction n with
 |zero=>simp[aN]
 |succ n ih=>simp only[aN];have:=Qc (fJ l n);omega
theorem aeQ(l:Lz){m n:Nat}(h:m<=n):sqs l m<=sqs l n:=by
 induction n with
 |zero=>obtain rfl:m=0:=by omega
        exact Int.le_refl _
 |succ n ih=>
  by_cases e:m=n+1
  ·subst e;exact Int.le_refl _
  have:=ih ah;have a:=Qc (fJ l n);unfold sqs at*
  simp only[aN];omega
theorem anZ(l:Lz)(k n:Nat):aN (fun i=>fJ l (i+k)*fJ l (i+k)) n<=sqs l (n+k):=by
 induction n with
 |zero=>simpa[aN] using YM l (0+k)
 |succ n ih=>
  simp only[aN];have e:sqs l (n+1+k)=sqs l (n+k)+fJ l (n+k)*fJ l (n+k):=by
   rw[show n+1+k=(n+k)+1 from ah];rfl
  rw[e];omega
theorem an0(l:Lz){n:Nat}(h:n+k<=120): -(fG l-1)<=fZ l k n/\fZ l k n<=fG l-1:=by
 have a:fG l-1=sqs l 120:=by
  unfold fG fZ sqs;rw[oK 120 (g:=fun i=>fJ l i*fJ l i) (fun i _=>by unfold vH;rw[Kv])];omega
 have b:sqs l n<=sqs l 120:=aeQ l ah;have c:=anZ l k n;have d:sqs l (n+k)<=sqs l 120:=aeQ l h;have e: -(sqs l n+aN (fun i=>fJ l (i+k)*fJ l (i+k)) n)<=2*fZ l k n/\2*fZ l k n<=sqs l n+aN (fun i=>fJ l (i+k)*fJ l (i+k)) n:=by
  clear h b c d a;unfold sqs fZ;induction n with
  |zero=>simp[aN]
  |succ n ih=>
   simp only[aN];have:=anY (fJ l n) (fJ l (n+k));unfold vH;unfold vH at ih;omega
 rw[a];omega
theorem aeR(l:Lz):fG l=sqs l 120+1:=by
 unfold fG fZ sqs;rw[oK 120 (g:=fun i=>fJ l i*fJ l i) (fun i _=>by unfold vH;rw[Kv])]
theorem yO(h:fU l):1<=fG l/\fG l<=128849018881:=by
 have a:=Qb h 0 120 ah;have b:=YM l 120;have c:=aeR l;unfold fG at*
 generalize fZ l 0 120=s at*
 generalize sqs l 120=q at*
 omega
section
variable {ps:Lz}
end
theorem aqR(w:Wd)(z:Nat)(A:Oz)(c:Nat)(xs:Lz)(Z:IntBlk w z)(U:Rb w w.heap.size A xs)(T:xs.length=14)(V:Byts xs):
 Cl 133 #[.pointer (some ⟨z,0,none⟩),.slice A 14 c] w (jo w z ((nb xs 14:Nat):Int)):=by
 have HZ:=af Z;have HR:=af U;have HN:=af T;have E:=af V;clear Z U T V;go_enter Tryz.func133,Tryz.ntmps133;go_wp2;go_loopw[5,6] (fun rv L wr=> ∃(i:Nat) (v:Value),i<=14/\L=.int .i64 i/\v=rv/\Hy (Nm wr v (nb xs i))/\Hy (Bw w wr)) (fun _ L _=>14-(intOf L).toNat)
 case atStart=>exact⟨0,_,ah,rfl,rfl,af (Nm.nil w),af (aP _ _)⟩
 case round=>
  obtain⟨i,v,hi,rfl,rfl,D,H⟩:=hrel;by_cases hlt:i<14
  ·obtain⟨l,rfl,had,q⟩:=(HR.o.below H.o).at_ (k:=i) iT
   have K:=E.o i;have f:=aj (nb xs (i+1)=nb xs i*2^8+(xs.getD i 0).toNat) (rfl);have m:=XT E.o (i+1);have t:=XT E.o i;have n:nb xs i*2^8<340282366920938463463374607431768211456:=by
    have I:nb xs (i+1)<2^112:=je m (jK aA ah);rw[f.o] at I;have S:(2:Nat)^112<=340282366920938463463374607431768211456:=aA;omega
   have s:nb xs i<340282366920938463463374607431768211456:=ah;obtain⟨x,u⟩:=ak (xs.getD i 0);rw[<-u] at q K f;clear u t m;generalize nb xs i=X at*
   obtain⟨Y,J⟩:=ak (X*2^8);have Q:=af (fun W (h:Nm W v X)=>show Cl 165 #[v,.int .u64 8] W (oI W Y) from by rw[J];exact ab2 W v X 8 h (bW s) ah);rw[<-J] at n f;have R:=af (fun W=>Ic W x K.1 ah);have y:x.toNat<340282366920938463463374607431768211456:=ah;have hwx:IntKind.u64.wrap x=x:=uN;have i0:(0:Int)<=i:=ah;have i14:(i:Int)<14:=ah;have hsz:=H.o.size;have M:l.block<wr.heap.size:=ah;have P:=af (fun W a b (I:Nm W a Y) (S:Nm W b x.toNat)=>Wv W a b Y x.toNat I S (bW n) (bW y));clear J K s n y;go_wp2;go_region_held3 (fun w'=>w'.cell? (l.add i)=some (.int .u8 x)) (go_keep) (first
    |(go_at_call 165;(with_reducible refine(Q.o wr.drew D.o.drew).mono ?_);rintro e' wL ⟨⟨vL,rfl,g⟩,d⟩;have B:Bw wr wL:=((aP wr.heap.size wr).drew).trans d;have kL:=(B.cell (p:=l.add i) FT).trans q;have NL:=af g;have B:=af B;clear g d)
    |(go_at_call 181;(with_reducible refine(R.o wL).mono ?_);rintro e' wW ⟨⟨vW,rfl,g⟩,d⟩;have NW:=af g;have F:=af (NL.o.below d (ax _));have O:=af (aH B.o d);have kW:=(O.o.cell (p:=l.add i) FT).trans q;clear g d)
    |(go_at_call 181;(with_reducible refine(R.o wr.drew).mono ?_);rintro e' wP ⟨⟨vP,rfl,g⟩,d⟩;have C:Bw wr wP:=((aP wr.heap.size wr).drew).trans d;have kP:=(C.cell (p:=l.add i) FT).trans q;have NP:=af g;have VP:=af (D.o.drew.below d (ax _));have C:=af C;clear g d)
    |(go_at_call 165;(with_reducible refine(Q.o wP VP.o).mono ?_);rintro e' wQ ⟨⟨vQ,rfl,g⟩,d⟩;have NQ:=af g;have G:=af (NP.o.below d (ax _));have N:=af (aH C.o d);have kQ:=(N.o.cell (p:=l.add i) FT).trans q;clear g d)
    |(go_at_call 162;(with_reducible refine(P.o wW vL vW F.o NW.o).mono ?_);rintro e' wS ⟨⟨v3,rfl,g⟩,d⟩;have j:=af g;have r:=af (aH O.o d);have kS:=(r.o.cell (p:=l.add i) FT).trans q;clear g d)
    |(go_at_call 162;(with_reducible refine(P.o wQ vQ vP NQ.o G.o).mono ?_);rintro e' wS ⟨⟨v3,rfl,g⟩,d⟩;have j:=af g;have r:=af (aH N.o d);have kS:=(r.o.cell (p:=l.add i) FT).trans q;clear g d))
   all_goals
    rename_i hHeldZ;clear hHeldZ;try simp only[Exit.then]
    go_wp2;go_roundw;case rel=>exact⟨i+1,v3,ah,aT,rfl,af (by rw[f.o];exact j.o),af (aH H.o r.o)⟩
    case measure=>exact aW
  obtain rfl:i=14:=ah;have KG:=af (ql wr z false v (nb xs 14) (HZ.o.below H.o (ax _)) D.o);go_wp2_with(go_at_call 158;(with_reducible refine KG.o.mono ?_);rintro e w1 ⟨rfl,hI,hG⟩);go_ret;exact⟨rfl,by have:=hI;unfold sgn at this;simpa using this,lG (lZ H.o (ax _) (some z)) hG⟩
theorem agH{xs:Lz}(h:IB w g t xs)(l m n I P b u r:Nat)(a c d e f i j k:Int):IB ((((((((w.setCell ⟨g,l,none⟩ (.int .i64 a)).setCell ⟨g,m,none⟩ (.int .i64 c)).setCell ⟨g,n,none⟩ (.int .i64 d)).setCell ⟨g,I,none⟩ (.int .i64 e)).setCell ⟨g,P,none⟩ (.int .i64 f)).setCell ⟨g,b,none⟩ (.int .i64 i)).setCell ⟨g,u,none⟩ (.int .i64 j)).setCell ⟨g,r,none⟩ (.int .i64 k)).drew g t ((((((((xs.set l a).set m c).set n d).set I e).set P f).set b i).set u j).set r k):=Blk.drew (IB.set_ (IB.set_ (IB.set_ (IB.set_ (IB.set_ (IB.set_ (IB.set_ (IB.set_ h l a) m c) n d) I e) P f) b i) u j) r k)
theorem agI{n:Array Value}(h:Blk w k t n)(a:k≠g)(o q s I P b u r:Nat)(c d e f i j l m:Int):Blk ((((((((w.setCell ⟨g,o,none⟩ (.int .i64 c)).setCell ⟨g,q,none⟩ (.int .i64 d)).setCell ⟨g,s,none⟩ (.int .i64 e)).setCell ⟨g,I,none⟩ (.int .i64 f)).setCell ⟨g,P,none⟩ (.int .i64 i)).setCell ⟨g,b,none⟩ (.int .i64 j)).setCell ⟨g,u,none⟩ (.int .i64 l)).setCell ⟨g,r,none⟩ (.int .i64 m)).drew k t n:=Blk.drew (Blk.far (Blk.far (Blk.far (Blk.far (Blk.far (Blk.far (Blk.far (Blk.far h (p:=⟨g,o,none⟩) a (.int .i64 c)) (p:=⟨g,q,none⟩) a (.int .i64 d)) (p:=⟨g,s,none⟩) a (.int .i64 e)) (p:=⟨g,I,none⟩) a (.int .i64 f)) (p:=⟨g,P,none⟩) a (.int .i64 i)) (p:=⟨g,b,none⟩) a (.int .i64 j)) (p:=⟨g,u,none⟩) a (.int .i64 l)) (p:=⟨g,r,none⟩) a (.int .i64 m))
theorem agJ(w:Wd){j:Nat}(c:k≠g)(v x y I P b u r:Nat)(d h i l n o s t:Int):((((((((w.setCell ⟨g,v,none⟩ (.int .i64 d)).setCell ⟨g,x,none⟩ (.int .i64 h)).setCell ⟨g,y,none⟩ (.int .i64 i)).setCell ⟨g,I,none⟩ (.int .i64 l)).setCell ⟨g,P,none⟩ (.int .i64 n)).setCell ⟨g,b,none⟩ (.int .i64 o)).setCell ⟨g,u,none⟩ (.int .i64 s)).setCell ⟨g,r,none⟩ (.int .i64 t)).drew.cell? ⟨k,j,none⟩=w.cell? ⟨k,j,none⟩:=by
 have e:∀(W:Wd) (p:Addr),W.drew.cell? p=W.cell? p:=fun _ _=>rfl;have f:∀(W:Wd) (m:Nat) (a:Int),(W.setCell ⟨g,m,none⟩ (.int .i64 a)).cell? ⟨k,j,none⟩=W.cell? ⟨k,j,none⟩:=fun W m a=>Zg W (.int .i64 a) (p:=⟨g,m,none⟩) (q:=⟨k,j,none⟩) c;rw[e,f,f,f,f,f,f,f,f]
theorem agK{B:Nat}{a:Wd}(h:Below B a w)(G:B<=g)(m n o I P b u r:Nat)(c d e f i j k l:Int):Below B a ((((((((w.setCell ⟨g,m,none⟩ (.int .i64 c)).setCell ⟨g,n,none⟩ (.int .i64 d)).setCell ⟨g,o,none⟩ (.int .i64 e)).setCell ⟨g,I,none⟩ (.int .i64 f)).setCell ⟨g,P,none⟩ (.int .i64 i)).setCell ⟨g,b,none⟩ (.int .i64 j)).setCell ⟨g,u,none⟩ (.int .i64 k)).setCell ⟨g,r,none⟩ (.int .i64 l)).drew:=rQ (zo (zo (zo (zo (zo (zo (zo (zo h (p:=⟨g,m,none⟩) G (.int .i64 c)) (p:=⟨g,n,none⟩) G (.int .i64 d)) (p:=⟨g,o,none⟩) G (.int .i64 e)) (p:=⟨g,I,none⟩) G (.int .i64 f)) (p:=⟨g,P,none⟩) G (.int .i64 i)) (p:=⟨g,b,none⟩) G (.int .i64 j)) (p:=⟨g,u,none⟩) G (.int .i64 k)) (p:=⟨g,r,none⟩) G (.int .i64 l))
