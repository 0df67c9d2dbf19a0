/- Lemmas. -/
import Derived.Test.YtaahbkbnfpajdaaGreatDoorZef02
import Derived.Test.YtaahbkbnfpajdaaGreatDoorZef0e
namespace Go.Proofs.YtaahbkbnfpajdaaGreatDoor
set_option linter.all false
set_option maxRecDepth 100000
set_option maxHeartbeats 8000000
open Go.RowKit
variable{n x:Int}
def Ii(w:Wd)(q r:Nat)(e:Ending)(w':Wd):Prop:=∃a b,e=.returned (.tuple #[a,b])/\Nm w' a q/\Nm w' b r/\Bw w w'
theorem Nm.drewN{w:Wd}{v:Value}{n:Nat}(h:Nm w v n)(k:Nat):Nm (w.drewN k) v n:=h.below (B:=w.heap.size) ⟨rfl,rfl,rfl,ax _,fun _ _=>rfl⟩ (ax _)
set_option maxRecDepth 100000 in
theorem akg(w:Wd)(O S:Value)(a b:Nat)(l:Nm w O a)(y:Nm w S b)(m:b≠0)(g:a<18446744073709551616)(Q:Sm b):
 Cl 193 #[O,S] w (Ii w (a/b) (a%b)):=by
 have N:Sm a:=bW ah;have HA:=af l;have H:=af y;obtain⟨A,an,ac,ua,L,s,x,q,z⟩:=l.len N;obtain⟨bo,bn,bc,ub,M,t,J,r,B⟩:=y.len Q;have han:an<=2:=by
  rw[<-s.len];exact Dh x (n:=2) (by rw[q];simpa using g)
 have hbn:bn≠0:=by
  intro h;subst h;have:ub=[]:=List.length_eq_zero_iff.1 t.len;subst this;exact m (by rw[<-r];rfl)
 have hbz:((bn:Int)==0)=false:=FK;have K:=af (Dl w O S a b l y N Q);have T:=af (fun k=>WC (w.drewN k) O a (l.drewN k) N);by_cases i:a<b
 ·have hc:gX a b<0:=by rw[Ib i];decide
  have D:=af (fun(k:Nat) (v:Value) (d:Wd) (u:Nm d v a) (c:Below (w.drewN k).heap.size (w.drewN k) d)=>
   show Ii w (a/b) (a%b) (.returned (.tuple #[.slice none 0 0,v])) d from
    ⟨_,_,rfl,by rw[zf i];exact Nm.nil d,by rw[zg i];exact u,La (b:=w.drewN k) ⟨rfl,rfl,rfl,ax _,fun _ _=>rfl⟩ c⟩)
  clear l y s x q t J r N Q i z B m g;subst L M;go_enter Tryz.func193,ZZ;go_wp2_with(first
   |(go_at_call 191;refine K.o.mono ?_;rintro e d ⟨rfl,k,rfl⟩)
   |(go_at_call 201;refine(T.o _).mono ?_;rintro e d ⟨⟨R,rfl,u⟩,c⟩;have W:=af u;have X:=af c;clear u c))
  go_ret2;exact D.o _ _ _ W.o X.o
 ·have hc:0<=gX a b:=by
   unfold gX;repeat' split
   all_goals omega
  have p:b<18446744073709551616:=ah;have PA:=af (fun k=>ab1 (w.drewN k) O a (l.drewN k) g);have PB:=af (fun k=>ab1 (w.drewN k) S b (y.drewN k) p);have Z: ¬(b:Int)=0:=ah;have f:(0:Int)<=(a:Int)/b:=BZ ah ah;have C:(a:Int)/b<=18446744073709551615:=by
   have:=ZY (b:Int) (a:=(a:Int)) ah;omega
  have F:(0:Int)<=(a:Int)%b:=Int.emod_nonneg _ ah;have G:(a:Int)%b<=18446744073709551615:=by
   have:=Int.emod_lt_of_pos (a:Int) (b:=(b:Int)) ah;omega
  have E:((a:Int)/b).toNat=a/b:=by rw[show((a:Int)/b)=((a/b:Nat):Int) from ay];exact uA _
  have I:((a:Int)%b).toNat=a%b:=by rw[show((a:Int)%b)=((a%b:Nat):Int) from ay];exact uA _
  have U:=af E;have V:=af I;clear l y s x q t J r N Q i z B m E I;subst L M;go_enter Tryz.func193,ZZ;go_wp2_with fail;refine K.o.mono ?_;rintro e d ⟨rfl,k,rfl⟩;go_wp2_with fail;refine(PA.o _).mono ?_;rintro e d ⟨rfl,rfl⟩;go_wp2_with fail;refine(PB.o _).mono ?_;rintro e d ⟨rfl,rfl⟩;go_wp2_with fail;have hw1:IntKind.u64.wrap ((a:Int)/b)=(a:Int)/b:=by
   rw[Ns];omega
  have hw2:(a:Int).tmod b=(a:Int)%b:=RI ah;have hw3:(a:Int).tdiv b=(a:Int)/b:=Ld ah;have D:=af (fun(w0 d P:Wd) (R Y:Value) (h0:Bw w w0) (h1:Nm d R ((a:Int)/b).toNat) (h2:Bw w0 d) (h3:Nm P Y ((a:Int)%b).toNat) (h4:Bw d P)=>
   show Ii w (a/b) (a%b) (.returned (.tuple #[R,Y])) P from
    ⟨_,_,rfl,by rw[U.o] at h1;exact h1.below h4 (ax _),by rw[V.o] at h3;exact h3,(aH h0 h2).trans (h4.mono (dL h0.size h2.size))⟩)
  have j:True:=trivial;go_region_with (first
   |(go_at_call 181;have _t:=j;refine(Ic _ _ (by first|exact f|exact F) (by first|exact C|exact G)).mono ?_;rintro e d ⟨⟨R,rfl,u⟩,c⟩;have W:=af u;have X:=af c;clear u c j _t)
   |(go_at_call 181;refine(Ic _ _ (by first|exact f|exact F) (by first|exact C|exact G)).mono ?_;rintro e P ⟨⟨Y,rfl,u⟩,c⟩;have q3:=af u;have q4:=af c;clear u c))
  all_goals
   go_wp2;go_ret2;exact D.o ((w.drewN k).drew) d P _ _ ⟨rfl,rfl,rfl,ax _,fun _ _=>rfl⟩ W.o X.o q3.o q4.o
def akh(w:Wd)(q r:Nat)(e:Ending)(w':Wd):Prop:=∃v,e=.returned (.tuple #[v,.int .u32 (r:Nat)])/\Nm w' v q/\Bw w w'
structure SmInv(w wr:Wd)(an:Nat)(ua:List Nat)(d k r:Nat)(rs:List Nat):Prop where
 len:rs.length=an
 ok:wok rs
 lt:r<d
 val:wv (ua.drop k)=d*wv (rs.drop k)+r
 own:wr.ownsRow w.heap.size 179 1 (.slice (some ⟨w.heap.size,0,none⟩) an an) an (W32 rs)
 bel:Bw w wr
theorem aki(l:List Nat)(k x:Nat)(h:k<l.length):(l.set k x).drop k=x::l.drop (k+1):=by
 rw[ZN,if_pos h,List.drop_append,BU Ur,dR,jT ah];simp
theorem SmInv.step{w wr:Wd}{b:Nat}{a:List Nat}{d k r:Nat}{rs:List Nat}(h:SmInv w wr b a d (k+1) r rs)(l:k<b)(m:a.length=b)(U:d<4294967296)(i:a.getD k 0<4294967296):
 SmInv w (wr.setCell ⟨w.heap.size,k,none⟩ (.int .u32 (((r*4294967296+a.getD k 0)/d:Nat):Int))) b a d k ((r*4294967296+a.getD k 0)%d) (rs.set k ((r*4294967296+a.getD k 0)/d))/\(r*4294967296+a.getD k 0)/d<4294967296:=by
 have g:=h.len;have f:=h.lt;have c:(r*4294967296+a.getD k 0)/d<4294967296:=by
  rw[Rt ah];have:=xJ 4294967296 (show r+1<=d from ah);rw[jm 4294967296 d];omega
 refine⟨⟨Vd,yt h.ok k c,oV _ ah,?_,?_,h.bel.setCell (ax _) _⟩,c⟩
 ·rw[aki _ _ _ ah,Ia a k ah,wv,wv,h.val]
  have j:=Ru (r*4294967296+a.getD k 0) d;generalize a.getD k 0=x at*
  generalize wv (rs.drop (k+1))=W at*
  generalize (r*4294967296+x)/d=Q at*
  generalize (r*4294967296+x)%d=R at*
  rw[lW,lW];have e:4294967296*(d*W)=d*(4294967296*W):=by rw[<-oU,jm 4294967296 d,oU]
  rw[e];omega
 ·have:=(h.own.stored k (.int .u32 (((r*4294967296+a.getD k 0)/d:Nat):Int))).1
  rwa [yx] at this
theorem akj{r x:Nat}(a:r<4294967296)(b:x<4294967296):bits BinOp.or IntKind.u64 ((r:Int)*4294967296) (x:Int)=((r*4294967296+x:Nat):Int):=by
 rw[show((r:Int)*4294967296)=((r*4294967296:Nat):Int) from ah,u64_or_nat _ _ ah ah,
  nat_join 32 _ _ ah ah]
set_option maxRecDepth 100000 in
theorem akk(w:Wd)(A:Oz)(b K:Nat)(l:List Nat)(d:Nat)(N:Rd w A b K l)(hn:b<=64)(M:0<d)(U:d<4294967296):
 Cl 203 #[.slice A b K,.int .u32 (d:Nat)] w (akh w (wv l/d) (wv l%d)):=by
 obtain⟨i0,hi,F,G,D⟩:=mJ yu;have HA:=af N;have I:=af (lX M U);have Y: ¬(d:Int)=0:=ah;have W:(0:Int)<d:=ah;clear N M;go_enter Tryz.func203,Tryz.ntmps203;go_wp2_with(first
  |(at_make;refine xM _ rfl _ _ 142 rfl w.heap.size 179 i0 (.int .u32 0) 1 xH hi F G _ _ _ _ b rfl rfl ay ay wJ jg (ax _) ?_;intro O f c)
  )
 rw[zQ] at f;have i:SmInv w O b l d b 0 (List.replicate b 0):=⟨ay,zN _,I.o.1,by rw[BU Gf,BU ay];simp[wv],f,(aP _ _).grown c (ax _) (fun k h=>qj)⟩;clear f c;go_loopw[7,8] (fun rv H wr=> ∃(k r:Nat) (rs:List Nat),k<=b/\H=.int .i64 ((k:Int)-1)/\rv=.int .u64 r/\r<4294967296/\SmInv w wr b l d k r rs) (fun _ H _=>(intOf H+1).toNat)
 case atStart=>exact⟨b,0,_,ah,by first|rfl|simp,rfl,ah,i⟩
 case round=>
  clear i O;obtain⟨k,r,rs,hk,rfl,rfl,hr,p⟩:=hrel;by_cases C:0<k
  ·obtain⟨j,rfl⟩:∃j,k=j+1:=⟨k-1,ah⟩
   rw[show(((j+1:Nat):Int)-1)=(j:Int) from ah];have s:∃v,wr.cell? ⟨w.heap.size,j,none⟩=some v:=by
    rw[p.own.cellAt j ah];exact⟨_,jU (by simp[W32,p.len];omega)⟩
   have Z:=p.own.frozenAt j;obtain⟨v0,s⟩:=s;have t:=af p;clear p;obtain⟨g,off,rfl⟩:=HA.o.addr ah;have B:=(HA.o.below t.o.bel (ax _)).cell j ah;have n:=nC HA.o.ok j;have x:=af (t.o.step ah HA.o.len U n);generalize hxa:l.getD j 0=xa at B n x;clear hxa;have y:=akj hr n;obtain⟨X,z⟩:=ak (r*4294967296+xa);rw[<-z] at x y;have V:X<18446744073709551616:=ah;have P:(X:Int)/d=((X/d:Nat):Int):=ay;have q:(X:Int)%d=((X%d:Nat):Int):=ay;have hQ:=x.o.2;have T:X%d<4294967296:=(by have:=oV X I.o.1;omega);have HX:=af z;clear z C;generalize X/d=Q at*
   generalize X%d=R at*
   go_wp2;go_roundw;case rel=>exact⟨j,R,_,ah,by first|rfl|simp,by first|rfl|(rw[q])|(simp[q]),T,x.o.1⟩
   case measure=>exact aW
  obtain rfl:k=0:=ah;have t:=af p;have a:=p.val;have m:=p.lt;simp only[List.drop_zero] at a;have L:wv l/d=wv rs:=by
   rw[a];rw[Nat.mul_add_div ah,zf m,Kv]
  have S:wv l%d=r:=by
   rw[a,Nat.mul_add_mod,zg m]
  have E:=af (lX L S);clear p a m L S;go_wp2_with(go_at_call 192;refine(yw _ w.heap.size _ b rs t.o.own t.o.ok).mono ?_;rintro e w' ⟨⟨J,rfl,u⟩,rfl⟩);go_ret2;exact⟨J,by rw[E.o.2];first|rfl|simp,by rw[E.o.1];exact u,t.o.bel⟩
theorem Nm.one_word(w:Wd)(r:Nat)(h:r<4294967296):∀c,(w.alloc (.cells #[.int .u32 (r:Nat)] 179)).ownsRow c 179 1 (.slice (some ⟨w.heap.size,0,none⟩) 1 1) 1 (W32 [r])\/¬c<=w.heap.size:=fun c=>by
 by_cases a:c<=w.heap.size
 ·exact .inl (y9 (base:=c) (e:=179) (size:=1) w #[.int .u32 (r:Nat)] 1 a jg rfl)
 exact .inr a
set_option maxRecDepth 100000 in
theorem div_one(w:Wd)(Q R:Value)(a b:Nat)(E:Nm w Q a)(F:Nm w R b)(i:b≠0)(t: ¬a<18446744073709551616)(r:b<4294967296)(N:Sm a):
 Cl 193 #[Q,R] w (Ii w (a/b) (a%b)):=by
 have P:Sm b:=bW ah;have HA:=af E;have H:=af F;obtain⟨A,D,ac,ua,M,f,L,m,I⟩:=E.len N;obtain⟨bo,bn,bc,Y,O,c,C,d,J⟩:=F.len P;have han:2<D:=by
  have h1:=wY f.ok;rw[f.len,m] at h1;by_cases W:2<D
  ·exact W
  have h2:(4294967296:Nat)^D<=4294967296^2:=jK aA ah;omega
 have s:bn<=1:=by rw[<-c.len];exact Dh C (n:=1) (by rw[d];simpa using r)
 obtain⟨y,rfl⟩:∃y,Y=[y]:=by
  match Y,c.len,d with
  |[],h,hn=>exact absurd hn.symm i
  |[y],_,_=>exact⟨y,rfl⟩
  |y::z::l,h,_=>simp at h;omega
 obtain rfl:bn=1:=by simpa using c.len.symm
 obtain rfl:y=b:=by simpa[wv] using d
 obtain⟨g,off,rfl⟩:=c.addr ah;have G:=c.cell 0 ah;simp at G;have K:=af (Dl w Q R a y E F N P);have W:0<=gX a y:=by
  unfold gX;repeat' split
  all_goals omega
 have U:=af (fun k=>akk (w.drewN k) A D ac ua y (f.below (jL w k) (ax _)) ah ah r);have B:a%y<4294967296:=by have:=oV a (show 0<y from ah);omega
 rw[m] at U;have T:=af B;have j:=af i;clear E F f L m c C d N P I J i t B s;subst M O;go_enter Tryz.func193,ZZ;go_wp2_with fail;refine K.o.mono ?_;rintro e p ⟨rfl,k,rfl⟩;go_wp2_with fail;refine(U.o k).mono ?_;rintro e p ⟨v1,rfl,u,q⟩;have Z:=af u;have S:=aj (Bw w p) (La (b:=w.drewN k) ⟨rfl,rfl,rfl,ax _,fun _ _=>rfl⟩ q);have V:=(Nm.one_word p (a%y) T.o p.heap.size).resolve_right ay;have OW:=af V;clear u q V;go_wp2_with fail;refine(yw _ p.heap.size _ 1 [a%y] OW.o (by intro x X;simp at X;subst X;exact T.o)).mono ?_;rintro e w2 ⟨⟨v2,rfl,v⟩,rfl⟩;have N2:=af v;clear v;go_wp2;go_ret2;refine⟨_,_,rfl,Z.o.below (baqq _ _) (ax _),?_,S.o.trans ((((aP _ p).alloc (ax _) _)).mono S.o.size)⟩;have:=N2.o;simpa[wv] using this
theorem akl(w:Wd)(d e:Value)(a b:Nat)(f:Nm w d a)(g:Nm w e b)(c:b≠0)(i:a<18446744073709551616\/b<4294967296)(N:Sm a)(j:Sm b):
 Cl 193 #[d,e] w (Ii w (a/b) (a%b)):=by
 by_cases h:a<18446744073709551616
 ·exact akg w d e a b f g c h j
 ·exact div_one w d e a b f g c h ah N
def acf(w:Wd)(b m:Nat)(q r:Int)(e:Ending)(w':Wd):Prop:=
 e=.returned (.tuple #[.pointer (some ⟨b,0,none⟩),.pointer (some ⟨m,0,none⟩)])/\IntAt w' b q/\IntAt w' m r/\∃a,w.grownBy a (some b)/\a.grownBy w' (some m)
theorem akm(x y:Int):sgn (!(decide (x<0)==decide (y<0))) (x.natAbs/y.natAbs)=x.tdiv y:=by
 unfold sgn;rcases RJ x with c|c<;>rcases RJ y with d|d;all_goals
  generalize x.natAbs=a at*
  generalize y.natAbs=b at*
  subst c d;try simp only[Int.neg_tdiv,Int.tdiv_neg,Le]
  have e:((a:Int).tdiv b)=((a/b:Nat):Int):=by rw[Ld ah];simp
  rw[e];by_cases f:a=0
  ·subst f;simp
  ·by_cases g:b=0
   ·subst g;simp
   simp<;>(try omega);try (split<;>omega)
theorem akn(x y:Int):sgn (decide (x<0)) (x.natAbs%y.natAbs)=x.tmod y:=by
 unfold sgn;rcases RJ x with c|c<;>rcases RJ y with d|d;all_goals
  generalize x.natAbs=a at*
  generalize y.natAbs=b at*
  subst c d;try simp only[Int.neg_tmod,Int.tmod_neg,Le]
  have e:((a:Int).tmod b)=((a%b:Nat):Int):=by rw[RI ah];simp
  rw[e];by_cases f:a=0
  ·subst f;simp
  ·simp<;>(try omega)
   try (split<;>omega)
theorem acg(w:Wd)(b c d m:Nat)(x y:Int)(G:IntBlk w b)(C:IntAt w c x)(U:IntAt w d y)(O:IntBlk w m)(a:b≠m)
 (I:x.natAbs<18446744073709551616\/y.natAbs<4294967296) (T:y≠0) (M:Sm x.natAbs) (sy:Sm y.natAbs):
 Cl 167 #[.pointer (some ⟨b,0,none⟩),.pointer (some ⟨c,0,none⟩),.pointer (some ⟨d,0,none⟩),.pointer (some ⟨m,0,none⟩)] w (acf w b m (x.tdiv y) (x.tmod y)):=by
 obtain⟨vx,Q,h1,r⟩:=C.cells;obtain⟨vy,V,k1,u⟩:=U.cells;obtain⟨s,Z⟩:=ak (decide (x<0));rw[<-Z] at Q;obtain⟨t,F⟩:=ak (decide (y<0));rw[<-F] at V;have N:=af (fun n=>akl (w.drewN n) vx vy x.natAbs y.natAbs (r.drewN n) (u.drewN n) ah I M sy);have D:=af (fun(n:Nat) (g i z:Wd) (E:Value) (_:Nm g E (x.natAbs%y.natAbs)) (v:Below (w.drewN n).heap.size (w.drewN n) g) (j:IntAt i b (sgn (!(s==t)) (x.natAbs/y.natAbs))) (f:g.grownBy i (some b)) (k:IntAt z m (sgn s (x.natAbs%y.natAbs))) (l:i.grownBy z (some m)) (hbl:IntBlk i m)=>
  show acf w b m (x.tdiv y) (x.tmod y) (.returned (.tuple #[.pointer (some ⟨b,0,none⟩),.pointer (some ⟨m,0,none⟩)])) z from
   ⟨rfl,by subst Z F;rw[akm] at j;exact j.kept hbl l a,by subst Z F;rw[akn] at k;exact k,i,lG (lZ (show Bw w g from La (b:=w.drewN n) ⟨rfl,rfl,rfl,ax _,fun _ _=>rfl⟩ v) (ax _) _) f,l⟩)
 have H:=af G;have P:=af O;have A:=af a;have R:=C.lt;have S:=U.lt;clear r u C U Z F G O a T I M;go_enter Tryz.func167,Tryz.ntmps167;go_wp2;go_quiet (fail);go_wp2_with fail;go_region_with (go_at_call 193;refine(N.o _).mono ?_;rintro e g ⟨v1,E,rfl,p,q,v⟩;have W:=af p;have J:=af q;have K:=af v;clear p q v)
 all_goals
  have B:=aj (Bw w g) (La (b:=w.drewN _) ⟨rfl,rfl,rfl,ax _,fun _ _=>rfl⟩ K.o);go_wp2_with fail;refine(ql _ b _ v1 _ (H.o.below B.o (ax _)) W.o).mono ?_;rintro e i ⟨rfl,j,f⟩;have X:=af j;have Y:=af f;have L:=af (IntBlk.kept (P.o.below B.o (ax _)) f (fun h=>A.o h.symm));have q7:=af (J.o.kept (H.o.below B.o (ax _)) f);clear j f;go_wp2_with fail;refine(ql _ m _ E _ L.o q7.o).mono ?_;rintro e z ⟨rfl,k,l⟩;have q8:=af k;have q9:=af l;clear k l;go_wp2;go_ret2;exact D.o _ _ _ _ _ J.o K.o X.o Y.o q8.o q9.o L.o
theorem ach{y:Int}(b:0<y)(h: ¬x.tmod y<0):x.tdiv y=x/y:=by
 have c:=RP x y;have d:x.tmod y<y:=Int.tmod_lt_of_pos x b;symm;rw[ZT b];generalize x.tdiv y=q at*
 generalize x.tmod y=r at*
 have a:q*y=y*q:=oC _ _;have S:(q+1)*y=y*q+y:=by rw[Lh,vT,oC]
 first
  |(rw[a,S];omega)
  |(constructor<;>(first|rw[a]|rw[S]|skip)<;>omega)
theorem aci{y:Int}(b:0<y)(h:x.tmod y<0):x.tdiv y-1=x/y:=by
 have c:=RP x y;have d: -y<x.tmod y:=Int.lt_tmod_of_pos x b;symm;rw[ZT b];generalize x.tdiv y=q at*
 generalize x.tmod y=r at*
 have a:(q-1)*y=y*q-y:=by rw[Int.sub_mul,vT,oC]
 have S:(q-1+1)*y=y*q:=by rw[Int.sub_add_cancel,oC]
 first
  |(rw[a,S];omega)
  |(constructor<;>(first|rw[a]|rw[S]|skip)<;>omega)
structure Two(b m:Nat)(w w':Wd):Prop where
 os:w'.os=w.os
 tape:w'.tape=w.tape
 output:w'.output=w.output
 size:w.heap.size<=w'.heap.size
 block:∀k,k<w.heap.size->k≠b->k≠m->w'.heap[k]?=w.heap[k]?
theorem Two.trans{b m:Nat}{u v w:Wd}(h:Two b m u v)(k:Two b m v w):Two b m u w:=
 ⟨k.os.trans h.os,k.tape.trans h.tape,k.output.trans h.output,dL h.size k.size,fun i hi a O=>(k.block i (je hi h.size) a O).trans (h.block i hi a O)⟩
theorem Two.left{b m:Nat}{u v:Wd}(h:u.grownBy v (some b)):Two b m u v:=⟨h.os,h.tape,h.output,h.size,fun k a hb _=>h.block k a Nb⟩
theorem Two.right{b m:Nat}{u v:Wd}(h:u.grownBy v (some m)):Two b m u v:=⟨h.os,h.tape,h.output,h.size,fun k a _ O=>h.block k a (by simpa using O)⟩
theorem Two.below{b m:Nat}{u v:Wd}(h:Bw u v):Two b m u v:=⟨h.os,h.tape,h.output,h.size,fun k a _ _=>h.block k a⟩
def ako(w:Wd)(b m:Nat)(q r:Int)(e:Ending)(w':Wd):Prop:=
 e=.returned (.tuple #[.pointer (some ⟨b,0,none⟩),.pointer (some ⟨m,0,none⟩)])/\IntAt w' b q/\IntAt w' m r/\Two b m w w'
theorem akp{y:Int}(c:0<y)(h:x.tmod y<0):x.tmod y+y=x%y:=by
 have d:=RP x y;have a:=aci c h;have b:=ZU x y;rw[<-a,Int.mul_sub,RH] at b;omega
theorem akq{y:Int}(c:0<y)(h: ¬x.tmod y<0):x.tmod y=x%y:=by
 have d:=RP x y;have a:=ach c h;have b:=ZU x y;rw[<-a] at b;omega
theorem akr(x y:Int):(x.tdiv y).natAbs<=x.natAbs:=by rw[Int.natAbs_tdiv];exact Ky _ _
theorem aks(x y:Int):(x.tmod y).natAbs<=x.natAbs:=by rw[Int.natAbs_tmod];exact Nat.mod_le _ _
theorem akt(w:Wd)(b c d m:Nat)(x y:Int)(M:IntBlk w b)(N:IntAt w c x)(U:IntAt w d y)(O:IntBlk w m)(z:b≠m)
 (hx:x.natAbs<18446744073709551616\/y<4294967296) (sx:Sm x.natAbs) (D:0<y) (hy2:y<18446744073709551616):
 Cl 205 #[.pointer (some ⟨b,0,none⟩),.pointer (some ⟨c,0,none⟩),.pointer (some ⟨d,0,none⟩),.pointer (some ⟨m,0,none⟩)] w (ako w b m (x/y) (x%y)):=by
 have sy:Sm y.natAbs:=bW ah;have I:=af sy;have f:=af sx;have HX:=aj (x.natAbs<18446744073709551616\/y.natAbs<4294967296) (ah);clear sx hx;have H:=af M;have L:=af N;have R:=af U;have S:=af O;have j:=af z;have hlb:=M.lt;have hlm:=O.lt;have hlc:=N.lt;have hld:=U.lt;have a:decide (y<0)=false:=aC;have DY:=af a;clear sy M N U O z a;go_enter Tryz.func205,Tryz.ntmps205;go_wp2_with fail;refine(aj1 _ w.heap.size d y (IntBlk.new w _ _) (R.o.below (baqq _ _) (ax _)) I.o).mono ?_;rintro e w1 ⟨rfl,hI,Z⟩;have P:=af hI;have l:=af (eP ((aP _ w).alloc (ax _) _) Z (ax _));have hs1:=l.o.size;have hl1:=P.o.lt;clear hI Z;go_wp2_with fail;refine(acg w1 b c d m x y (H.o.below l.o (ax _)) (L.o.below l.o (ax _)) (R.o.below l.o (ax _)) (S.o.below l.o (ax _)) j.o HX.o ah f.o I.o).mono ?_;rintro e w2 ⟨rfl,hQ,hR,w1',C,K⟩;have A:=af hQ;have q:=af hR;have E:=af ((P.o.kept (H.o.below l.o (ax _)) C ah).kept (IntBlk.kept (S.o.below l.o (ax _)) C (fun h=>j.o h.symm)) K ah);have B:=af ((Two.below (b:=b) (m:=m) l.o).trans ((Two.left C).trans (Two.right K)));clear hQ hR C K;obtain⟨v,r0,r1,_⟩:=q.o.cells;obtain⟨J,e0,e1,_⟩:=E.o.cells;rw[DY.o] at e0;have hs2:=B.o.size;by_cases g:x.tmod y<0
 ·have r:decide (x.tmod y<0)=true:=by simpa using g
  rw[r] at r0;have F:=af (aci D g);have Y:=af (akp D g);have SQ:=af (show Sm (x.tdiv y).natAbs by have:=akr x y;have:=f.o;unfold Sm at*;omega);have SR:=af (show Sm (x.tmod y).natAbs by have:=aks x y;have:=f.o;unfold Sm at*;omega);clear r g;go_wp2_with fail;refine(nH _ 1 ah ah).mono ?_;rintro e w3 ⟨b3,rfl,hb3,s,i⟩;have I3:=af s;have p:=af (A.o.below i (ax _));have V:=af (q.o.below i (ax _));have Q:=af (E.o.below i (ax _));have X:=af (B.o.trans (Two.below i));clear s i A q E B;go_wp2_with fail;refine(WE _ b b b3 _ 1 p.o.blk p.o I3.o SQ.o (bW aA)).mono ?_;rintro e w4 ⟨rfl,t,k⟩;have Q4:=af t;have G:=af (V.o.kept p.o.blk k (fun h=>j.o h.symm));have D4:=af (Q.o.kept p.o.blk k ah);have T4:=af (X.o.trans (Two.left k));clear t k p V Q X;go_wp2_with fail;refine(uZ _ m m w.heap.size _ y G.o.blk G.o D4.o SR.o I.o).mono ?_;rintro e w5 ⟨rfl,u,n⟩;have T:=af (Q4.o.kept G.o.blk n j.o);have W:=af u;have T5:=af (T4.o.trans (Two.right n));clear u n;rw[F.o] at T;rw[Y.o] at W;go_wp2;go_ret2;exact⟨rfl,T.o,W.o,T5.o⟩
 ·have r:decide (x.tmod y<0)=false:=by simpa using g
  rw[r] at r0;have F:=af (ach D g);have Y:=af (akq D g);clear r g;rw[F.o] at A;rw[Y.o] at q;go_wp2;go_ret2;exact⟨rfl,A.o,q.o,B.o⟩
theorem WG(w:Wd)(b c d:Nat)(x y:Int)(f:IntBlk w b)(i:IntAt w c x)(U:IntAt w d y)
 (p:x.natAbs<18446744073709551616\/y<4294967296) (t:Sm x.natAbs) (q:0<y) (g:y<18446744073709551616):
 Cl 196 #[.pointer (some ⟨b,0,none⟩),.pointer (some ⟨c,0,none⟩),.pointer (some ⟨d,0,none⟩)] w (jo w b (x%y)):=by
 have H:=af f;have L:=af i;have j:=af U;have n:=f.lt;clear f i U;go_enter Tryz.func196,Tryz.ntmps196;go_wp2_with(go_at_call 205;refine(akt _ w.heap.size c d b x y (IntBlk.new w _ _) (L.o.below (baqq _ _) (ax _)) (j.o.below (baqq _ _) (ax _)) (H.o.below (baqq _ _) (ax _)) ah p t q g).mono ?_;rintro e u ⟨rfl,l,h,a⟩;have r:=af h;have s:=af a;clear l h a);go_ret;refine⟨rfl,r.o,?_⟩;have a:=s.o;exact⟨a.os,a.tape,a.output,by have:=a.size;simp at this;omega,fun k m hn=>by
  rw[a.block k aC ah wH];exact QT _ _ _ m⟩
def fdN(x:Int):Nat->Int
 |0=>x
 |k+1=>fdN x k*26214/32768
theorem ak0(a:0<=x)(b:x<=32767)(k:Nat):0<=fdN x k/\fdN x k<=32767:=by
 induction k with
 |zero=>exact⟨a,b⟩
 |succ k ih=>simp only[fdN];omega
def dO(g e:Int):Int:=if g<0\/5<e then 0 else fdN (min g 32767) e.toNat
theorem Dp(g e:Int):0<=dO g e/\dO g e<=32767:=by
 unfold dO;split
 ·omega
 exact ak0 ah ah _
theorem Dq(g e:Int)(w:Wd):Cl 90 #[.int .i64 g,.int .i64 e] w fun l w'=>l=.returned (.int .i64 (dO g e))/\w=w':=by
 by_cases h1:g<0
 ·have a:dO g e=0:=aaV
  rw[a];have d:decide (g<0)=true:=ja;clear a;go_enter Tryz.func90,Tryz.ntmps90;go_wp2;go_ret;exact⟨rfl,rfl⟩
 by_cases f:5<e
 ·have a:dO g e=0:=by unfold dO;rw[if_pos (.inr f)]
  rw[a];have d:decide (g<0)=false:=ja;have j:decide (6<=e)=true:=aC;clear a;go_enter Tryz.func90,Tryz.ntmps90;go_wp2;go_ret;exact⟨rfl,rfl⟩
 have a:dO g e=fdN (min g 32767) e.toNat:=by unfold dO;rw[if_neg ah]
 have d:decide (g<0)=false:=ja;have j:decide (6<=e)=false:=aC;have r:e<=5:=ah;clear f;rcases(show(g<=32767/\min g 32767=g)\/(32767<g/\min g 32767=32767) from ah) with⟨G,O⟩|⟨G,O⟩;all_goals
  rw[O] at a;have i:=af a;clear a O;go_enter Tryz.func90,Tryz.ntmps90;go_wp2;go_loop [0,14] (fun m b=> ∃(k:Nat) (y:Int),(k=0\/(k:Int)<=e)/\b=.int .i64 k/\m=.int .i64 y/\0<=y/\y<=32767/\Hy (y=fdN (min g 32767) k)) (fun _ b=>(e-intOf b).toNat)
  case atStart=>exact⟨0,_,.inl rfl,rfl,rfl,ah,ah,af (by simp only[fdN];omega)⟩
  case round=>
   obtain⟨k,y,s,rfl,rfl,p,q,c⟩:=hrel;have C:=af (show fdN (min g 32767) (k+1)=y*26214/32768 by rw[c.o];rfl);by_cases n:(k:Int)<e
   ·go_wp2
    go_round;case rel=>exact⟨k+1,y*26214/32768,ah,aT,rfl,ah,ah,af C.o.symm⟩
    case measure=>exact aW
   have h:=aj (k=e.toNat) (ah);have HF:=af (show dO g e=y by
    rw[i.o,c.o,h.o];congr 1;omega)
   clear G;exact abv
theorem acF(g e:Int)(w:Wd)(he:e<=0):Cl 139 #[.int .i64 g,.int .i64 e] w (pz w (dO g e)):=by
 by_cases h1:g<0
 ·have a:dO g e=0:=aaV
  rw[a];have b:decide (g<0)=true:=ja;clear a;exact VV
 have a:dO g e=min g 32767:=by unfold dO;rw[if_neg ah,show e.toNat=0 from ah];rfl
 have b:decide (g<0)=false:=ja;have c:decide (5<e)=false:=aC;have d:decide (e<=0)=true:=x8;rcases(show(g<=32767/\min g 32767=g)\/(32767<g/\min g 32767=32767) from ah) with⟨G,O⟩|⟨G,O⟩;all_goals
  rw[a,O];clear a O h1;go_enter Tryz.func139,aah;go_wp2;go_ret;exact⟨rfl,aP _ _⟩
theorem ak1(g:Int):∀(n:Nat) (w:Wd),n<=5->Cl 139 #[.int .i64 g,.int .i64 (n:Nat)] w (pz w (dO g n)):=by
 intro n;induction n with
 |zero=>intro w _;exact acF g 0 w ah
 |succ n ih=>
  intro w p;by_cases h1:g<0
  ·have b:dO g ((n+1:Nat):Int)=0:=aaV
   rw[b];have j:decide (g<0)=true:=ja;clear b ih;exact VV
  have b:dO g ((n+1:Nat):Int)=dO g (n:Nat)*26214/32768:=by
   unfold dO;rw[if_neg ah,if_neg ah,show((n+1:Nat):Int).toNat=n+1 from ah,show((n:Nat):Int).toNat=n from ah];rfl
  have s:=Dp g (n:Nat);have i:=af (fun c=>ih c ah);rw[b];generalize dO g (n:Nat)=y at*
  obtain⟨m,O⟩:=ak (((n+1:Nat):Int):Int);have k:m-1=(n:Nat):=ah;have d:1<=m:=ah;have l:m<=5:=ah;rw[<-O];have j:decide (g<0)=false:=ja;have q:decide (5<m)=false:=aC;have r:decide (m<=0)=false:=aC;clear b O ih h1 p;go_enter Tryz.func139,aah;go_wp2_with fail;refine(i.o _).mono ?_;rintro e c ⟨rfl,a⟩;have f:=af a;clear a;go_wp2_with fail;refine(wZ (y*26214) 15 32768 (y*26214/32768) _ ah ah ah aA rfl).mono ?_;rintro e t ⟨rfl,a⟩;have h:=af (aH f.o a);clear a;go_wp2;go_ret;exact⟨rfl,h.o⟩
theorem acG(g e:Int)(w:Wd):Cl 139 #[.int .i64 g,.int .i64 e] w (pz w (dO g e)):=by
 by_cases a:e<=0
 ·exact acF g e w a
 by_cases f:e<=5
 ·obtain⟨n,rfl⟩:=gI (show 0<=e from ah)
  exact ak1 g n w ah
 have b:dO g e=0:=by unfold dO;rw[if_pos (.inr ah)]
 rw[b];have d:decide (5<e)=true:=aC;clear b a;by_cases h1:g<0
 ·have c:decide (g<0)=true:=ja
  exact VV
 have c:decide (g<0)=false:=ja;exact VV
theorem acJ(w:Wd)(b c d:Nat)(x y:Int)(g:IntBlk w b)(h:IntAt w c x)(U:IntAt w d y)
 (l:x.natAbs<18446744073709551616\/y.natAbs<4294967296) (m:y≠0) (v:Sm x.natAbs) (z:Sm y.natAbs):
 Cl 103 #[.pointer (some ⟨b,0,none⟩),.pointer (some ⟨c,0,none⟩),.pointer (some ⟨d,0,none⟩)] w (jo w b (x.tdiv y)):=by
 have H:=af g;have L:=af h;have B:=af U;have q:=g.lt;have K:=af (acg (w.alloc (.cells #[.bool false,.slice none 0 0] 144)) b c d w.heap.size x y (g.below (baqq _ _) (ax _)) (h.below (baqq _ _) (ax _)) (U.below (baqq _ _) (ax _)) (IntBlk.new w _ _) ah l m v z);clear g h U l m;go_enter Tryz.func103,Tryz.ntmps103;go_wp2_with fail;refine K.o.mono ?_;rintro e C ⟨rfl,j,n,A,a,f⟩;have t:=af j;have u:=af (lX a f);clear j n a f;go_wp2;go_ret;refine⟨rfl,t.o,?_⟩;obtain⟨a,f⟩:=u.o;have i:=a.size;have s:=f.size;simp at i;exact⟨f.os.trans a.os,f.tape.trans a.tape,f.output.trans a.output,ah,fun k p r=>by
  rw[f.block k ah aC,a.block k aC r];exact QT _ _ _ p⟩
theorem ak8(w:Wd)(c:Nat)(x:Int)(a:IntAt w c x)(d:Sm x.natAbs):
 Cl 99 #[.pointer (some ⟨c,0,none⟩)] w fun e w'=>e=.returned (.int .i64 (gG x.natAbs:Nat))/\w=w':=by
 obtain⟨v,f,g,b⟩:=a.cells;have K:=af (Wx w v _ b d);clear b a;go_enter Tryz.func99,Tryz.ntmps99;go_wp2_with(go_at_call 161;refine K.o.mono ?_;rintro e h ⟨rfl,rfl⟩);go_ret;exact⟨rfl,rfl⟩
theorem ak9(w:Wd)(c:Nat)(x:Int)(a:IntAt w c x)(g: -9223372036854775808<x)(h:x<=9223372036854775807):
 Cl 104 #[.pointer (some ⟨c,0,none⟩)] w fun e w'=>e=.returned (.bool true)/\w=w':=by
 obtain⟨v,f,i,b⟩:=a.cells;have j:gG x.natAbs<=63:=zS ah;have K:=af (Wx w v _ b (bW ah));clear b a;generalize gG x.natAbs=n at*
 have d:decide (n<64)=true:=aC;go_enter Tryz.func104,Tryz.ntmps104;go_wp2_with(go_at_call 161;refine K.o.mono ?_;rintro e k ⟨rfl,rfl⟩);go_ret;exact⟨rfl,rfl⟩
theorem ala(w:Wd)(n:Nat)(o:Obj):Bw w ((w.drewN n).alloc o):=
 Below.alloc (a:=w) (w:=w.drewN n) ⟨rfl,rfl,rfl,ax _,fun _ _=>rfl⟩ (ax _) o
structure Bx3(w wr:Wd)(a b r:Lz):Prop where
 A:IB wr w.heap.size 52 a
 B:IB wr (w.heap.size+1) 52 b
 R:IB wr (w.heap.size+1+1) 52 r
 bel:Bw w wr
theorem Bx3.lt{w wr:Wd}{a b r:Lz}(h:Bx3 w wr a b r):w.heap.size+1+1<wr.heap.size:=Blk.lt h.R
theorem Bx3.below{w wr c:Wd}{a b r:Lz}(h:Bx3 w wr a b r)(d:Bw wr c):Bx3 w c a b r:=
 ⟨Blk.below' h.A d,Blk.below' h.B d,Blk.below' h.R d,h.bel.trans (d.mono rX)⟩
theorem Bx3.setCell{w wr:Wd}{a b r:Lz}(h:Bx3 w wr a b r){g:Nat}(G:w.heap.size+1+1<g)(k:Nat)(v:Value):Bx3 w (wr.setCell ⟨g,k,none⟩ v) a b r:=
 ⟨Blk.far h.A aa5 _,Blk.far h.B aa0 _,Blk.far h.R (by show w.heap.size+1+1≠g;omega) _,h.bel.setCell (p:=⟨g,k,none⟩) aa9 _⟩
theorem Bx3.start(w:Wd)(a b:Lz):Bx3 w (((w.alloc (.cells (agi a) 52)).alloc (.cells (agi b) 52)).alloc (.cells (agi Z8) 52)) a b Z8:=by
 have h1:=IB.new w 52 a;have h2:=IB.new (w.alloc (.cells (agi a) 52)) 52 b;have h3:=IB.new ((w.alloc (.cells (agi a) 52)).alloc (.cells (agi b) 52)) 52 Z8;exact aix
theorem alb(a b:Lz)(num:Int)(w:Wd)(ha:a.length=8)(hb:b.length=8)(hn: -9223372036854775808<=num)(hn2:num<=9223372036854775807):Cl 109 #[.agg (agi a),.agg (agi b),.int .i64 num] w (Ar w a b num):=by
 have M:=af (Bx3.start w a b);have hR:=nz (fn:=Tryz.f109) (p:=6) (q:=7) (ty:=52) rfl;by_cases h1:num<0\/4<num
 ·have D:=af (IG (a:=a) (b:=b) (num:=num) (by unfold lH;simp;omega) (aS M.o.bel (g:=w.heap.size+1+1) ah (agi Z8)))
  have c:=af (M.o.R.setRow Z8);rcases h1 with h1|h1
  ·have d1:decide (num<0)=true:=ja
   go_enter Ll,Lm;go_wp2_with(refine aQ 52 (.tmp 6) (.tmp 27) Z8 Z8 8 M.o.R aJ rfl rfl ?_);exact VR
  have d1:decide (num<0)=false:=aC;have d2:decide (4<num)=true:=ja;go_enter Ll,Lm;go_wp2_with(refine aQ 52 (.tmp 6) (.tmp 27) Z8 Z8 8 M.o.R aJ rfl rfl ?_);exact VR
 have h0:0<=num:=ah;have h4:num<=4:=ah;have d1:decide (num<0)=false:=aC;have d2:decide (4<num)=false:=aC;have S:=af (fun l=>Xh a l ha);have U:=af (fun l=>Xh b l hb);have HA:=af ha;have H:=af hb;clear h1 ha hb;by_cases N:dH a=true
 ·rw[N] at S
  by_cases T:dH b=true
  ·rw[T] at U
   have G:lH a b num=true:=(by unfold lH;rw[N,T];simp;omega);have D:=af (fun(l:Wd) (ys:Lz)=>acI (w:=w) (w':=l) (ys:=ys) G);have SA:=af (fun i=>zX N i);have SB:=af (fun i=>zX T i);clear N T G;go_enter Ll,Lm;go_wp2_with(refine aK 52 (.tmp 3) a 8 M.o.A aU aJ HA.o ?_);refine(S.o _).mono ?_;rintro e l ⟨rfl,f⟩;have n:=af (M.o.below f);clear f;go_wp2_with(refine aK 52 (.tmp 4) b 8 n.o.B aU aJ H.o ?_);refine(U.o _).mono ?_;rintro e V ⟨rfl,t⟩;have L:=af (n.o.below t);have hl2:=L.o.lt;clear t n;have I3:=af (L.o.below (baqq _ (.cells (agi Z8) 52)));have O3:=af (IB.new V 52 Z8);rw[dP] at I3 O3;go_wp2;go_loopw[28] (fun iv wr=> ∃(k:Nat) (ys:Lz),k<=8/\iv=.int .i64 k/\Hy (ys.length=8/\∀j,j<k->ys.getD j 0=qo a b num j)/\Hy (Bx3 w wr a b Z8)/\Hy (IB wr V.heap.size 52 ys)) (fun iv _=>8-(intOf iv).toNat)
   case atStart=>exact⟨0,Z8,ah,rfl,af ⟨rfl,fun j h=>ah⟩,I3,O3⟩
   case round=>
    clear I3 O3 L M S U;obtain⟨k,ys,hk,rfl,HY,E,Q⟩:=hrel;by_cases hlt:k<8
    ·have Y:=E.o.A.cell k uP
     have cb:=E.o.B.cell k (by rw[H.o];exact hlt);have ra:=SA.o k;have rb:=SB.o k;obtain⟨x,hx⟩:=ak (a.getD k 0);obtain⟨y,hy⟩:=ak (b.getD k 0);rw[<-hx] at Y ra;rw[<-hy] at cb rb;have HX:=af hx;have d:=af hy;clear hx hy;obtain⟨b1,b2⟩:=ra;obtain⟨b3,b4⟩:=rb;obtain⟨m1,J,m3,m4⟩:=acl ⟨b1,b2⟩ ⟨b3,b4⟩ ⟨h0,h4⟩;go_wp2;go_quiet (fail);obtain⟨s,Z⟩:=ak (x*(4-num)+y*num);rw[<-Z];have hs1: -524288<=s:=ah;have hs2:s<=524288:=ah;have r:=aj (Hy ((ys.set k (s.tdiv 4)).length=8/\∀j,j<k+1->(ys.set k (s.tdiv 4)).getD j 0=qo a b num j)) (by
      obtain⟨q1,q4⟩:=HY.o;refine⟨wI,fun j hj=>?_⟩;by_cases he:k=j
      ·subst he
       rw[gQ _ _ _ ah,qo,<-HX.o,<-d.o,Z]
      ·rw[gV _ _ he]
       exact q4 j ah)
     clear Z Y cb m1 J m3 m4;have hls:=E.o.lt;have hlo:=Blk.lt Q.o;go_wp2_with fail;refine(jM _ s ah ah).mono ?_;rintro e w3 ⟨b3,rfl,hb3,C,z⟩;have Z3:=af (IntBlk.below (IntBlk.new (wr.drewN _) (.bool false) (.slice none 0 0)) z (ax _));have X3:=af C;have B3:=af (show Bw wr w3 from(ala wr _ _).trans (z.mono ay));clear C z;go_wp2_with fail;refine(nH _ 4 ah ah).mono ?_;rintro e w4 ⟨b4,rfl,hb4,C,z⟩;have P:=af (X3.o.below z (ax _));have Y4:=af C;have Z4:=af (Z3.o.below z (ax _));have B4:=af (aH B3.o z);clear C z X3 Z3 B3;go_wp2_with fail;refine(acJ _ wr.heap.size b3 b4 s 4 Z4.o P.o Y4.o (.inl ah) ah (bW ah) (bW aA)).mono ?_;rintro e w5 ⟨rfl,C,hG⟩;have m:=af C;have W:=af (eP B4.o hG (ax _));have ht1:=WH (x:=s) (e:=4) ah;clear C hG P Y4 Z4 B4;go_wp2_with fail;refine(qm _ wr.heap.size (s.tdiv 4) m.o ah ah).mono ?_;rintro e w6 ⟨rfl,rfl⟩;have X:=af (E.o.below W.o);have K:=af (Blk.below' Q.o W.o);have co:=IB.cell K.o k uO;have fo:=Blk.frozen K.o k;have HI6:=af (X.o.setCell (g:=V.heap.size) hl2 k (.int .i64 (s.tdiv 4)));have HO6:=af (IB.set_ K.o k (s.tdiv 4));clear ht1 W m;go_wp2;go_roundw;case rel=>exact⟨k+1,_,ah,aT,r.o,HI6,HO6⟩
     case measure=>exact aW
    obtain rfl:k=8:=ah;have F:=af (D.o (wr.setRow (w.heap.size+1+1) (agi ys)) ys HY.o.1 HY.o.2 (aS E.o.bel (g:=w.heap.size+1+1) ah (agi ys)));have I:=af (E.o.R.setRow ys);clear hlt;go_wp2_with(first
     |(refine aK 52 (.tmp 8) ys 8 Q.o aU aJ HY.o.1 ?_)
     |(refine aQ 52 (.tmp 6) (.tmp 52) Z8 ys 8 E.o.R aJ rfl HY.o.1 ?_))
    refine aX (v:=_) (hR _ _ _ 52 ys _ 8 rfl I.o aU rfl aJ HY.o.1) rfl ?_;exact F.o
  have O:dH b=false:=by simpa using T
  have u:=N;rw[O] at U;have D:=af (fun(l:Wd)=>IG (w:=w) (w':=l) (a:=a) (b:=b) (num:=num) (by unfold lH;rw[O];simp));clear N T O u;go_enter Ll,Lm;go_wp2_with(refine aK 52 (.tmp 3) a 8 M.o.A aU aJ HA.o ?_);refine(S.o _).mono ?_;rintro e l ⟨rfl,f⟩;have n:=af (M.o.below f);clear f;go_wp2_with(refine aK 52 (.tmp 4) b 8 n.o.B aU aJ H.o ?_);refine(U.o _).mono ?_;rintro e V ⟨rfl,t⟩;have L:=af (n.o.below t);have F:=af (D.o _ (aS L.o.bel (g:=w.heap.size+1+1) ah (agi Z8)));have I:=af (L.o.R.setRow Z8);clear t n;go_wp2_with(refine aQ 52 (.tmp 6) (.tmp 27) Z8 Z8 8 L.o.R aJ rfl rfl ?_);exact ai2
 have u:dH a=false:=by simpa using N
 rw[u] at S;have D:=af (fun(l:Wd)=>IG (w:=w) (w':=l) (a:=a) (b:=b) (num:=num) (by unfold lH;rw[u];simp));clear N u;go_enter Ll,Lm;go_wp2_with(refine aK 52 (.tmp 3) a 8 M.o.A aU aJ HA.o ?_);refine(S.o _).mono ?_;rintro e l ⟨rfl,f⟩;have n:=af (M.o.below f);have F:=af (D.o _ (aS n.o.bel (g:=w.heap.size+1+1) ah (agi Z8)));have I:=af (n.o.R.setRow Z8);clear f;go_wp2_with(refine aQ 52 (.tmp 6) (.tmp 27) Z8 Z8 8 n.o.R aJ rfl rfl ?_);exact ai2
def mi(k:Nat):Int:=dY.getD k 0
def Oi(f:Int)(k:Nat):Bool:=decide (f/2^(14-k)%2=1)
def jw(f:Int):Nat->Int
 |0=>1073741824
 |k+1=>if Oi f k then jw f k+jw f k*mi k/1073741824 else jw f k
def xe:Nat->Int
 |0=>1073741824
 |k+1=>xe k+xe k*mi k/1073741824
def qU(n f:Int):Bool:=decide ((0<=n/\n<=30)/\0<=f/\f<=32767)
def lQ(n f:Int):Int:=if qU n f then(if 2147483647<=jw f 15/2^(30-n).toNat then 2147483647 else jw f 15/2^(30-n).toNat) else 0
theorem IK(k:Nat):0<=mi k:=by
 unfold mi;by_cases h:k<15
 ·have:∀j,j<15->0<=dY.getD j 0:=aA
  exact this k h
 exact ajj
theorem acW(k:Nat):mi k<=444758425:=by
 unfold mi;by_cases h:k<15
 ·have:∀j,j<15->dY.getD j 0<=444758425:=aA
  exact this k h
 exact ajj
theorem alx:∀k,k<16->xe k<=2147483648:=aA
theorem IP(f:Int)(k:Nat):1073741824<=jw f k:=by
 induction k with
 |zero=>simp[jw]
 |succ k ih=>
  unfold jw;split
  ·have a:0<=jw f k*mi k:=qL ah (IK k)
   have b:0<=jw f k*mi k/1073741824:=BZ a ah;omega
  exact ih
theorem aly(f:Int)(k:Nat):jw f k<=xe k:=by
 induction k with
 |zero=>simp[jw,xe]
 |succ k ih=>
  have b:=IP f k;have a:jw f k*mi k<=xe k*mi k:=uB ih (IK k);have c:jw f k*mi k/1073741824<=xe k*mi k/1073741824:=ZW ah a;have d:0<=xe k*mi k/1073741824:=BZ (qL ah (IK k)) ah;unfold jw xe;split<;>omega
theorem alz(f:Int){k:Nat}(h:k<16):jw f k<=2147483648:=RQ (aly f k) (alx k h)
theorem acX{r:Int}(d:1073741824<=x)(b:x<=2147483648)(a:0<=r)(c:r<=444758425):0<=x*r/\x*r<=955124478797414400/\0<=x*r/1073741824/\x*r/1073741824<=889516850:=by
 have e:x*r<=2147483648*444758425:=Int.mul_le_mul b c a ah;have f:0<=x*r:=qL ah a;omega
theorem acY{a b c:Int}(h:a=b):Ending.returned (.tuple #[.int .i64 a,.int .i64 c])=.returned (.tuple #[.int .i64 b,.int .i64 c]):=by rw[h]
theorem alA(n f:Int)(w:Wd)(T:TabA w 4 dY)(y:0<=n)(G:n<=30)(E:0<=f)(F:f<=32767):
 Cl 155 #[.int .i64 n,.int .i64 f] w fun e w'=>e=.returned (.tuple #[.int .i64 (lQ n f),.int .i64 0])/\w=w':=by
 have A: ¬n<0:=ah;have B: ¬30<n:=ah;have C: ¬f<0:=ah;have D: ¬32767<f:=ah;have b:(Tryz.prog.info? 200).map (·.size)=some 15:=aB;have d:=af (fun(k:Nat) (j:k<15) (w:Wd)=>jW Tryz.underlying200 dY rfl k j w);have s:=af T;have h:=af b;clear T b;go_enter Tryz.func155,Tryz.ntmps155;go_wp2_with(refine ajr rfl 200 (.global 4) rfl _ dY 15 _ rfl s.o Tryz.underlying200 rfl h.o rfl ?_);go_loop [6,24] (fun z i=> ∃(k:Nat) (x:Int),k<=15/\i=.int .i64 k/\z=.int .i64 x/\Hy (x=jw f k)) (fun _ i=>15-(intOf i).toNat)
 case atStart=>exact⟨0,1073741824,ah,rfl,rfl,af rfl⟩
 case round=>
  obtain⟨k,x,j,rfl,rfl,HX⟩:=hrel;by_cases c:k<15
  ·have u:=d.o k c
   have N:1073741824<=x:=(by rw[HX.o];exact IP f k);have J:x<=2147483648:=Vw;have l:=IK k;have q:=acW k;have HR:=af (show jw f (k+1)=if Oi f k then x+x*mi k/1073741824 else x by rw[jw,<-HX.o]);unfold mi at l q HR;generalize dY.getD k 0=r at*
   obtain⟨H,I,K,L⟩:=acX N J l q;have HA:=Dx (f/2^(14-k));by_cases hb:f/2^(14-k)%2=1
   ·have t:(bits BinOp.and IntKind.i64 (f/2^(14-k)) 1==1)=true:=by rw[HA,hb];rfl
    have g:=af (show jw f (k+1)=x+x*r/1073741824 by rw[HR.o,if_pos Ul]);exact aiK
   have t:(bits BinOp.and IntKind.i64 (f/2^(14-k)) 1==1)=false:=(by rw[HA];simpa using hb);have g:=af (show jw f (k+1)=x by rw[HR.o,if_neg Ul]);exact aiK
  obtain rfl:k=15:=ah;obtain⟨m,rfl⟩:=gI y;have N:1073741824<=x:=by rw[HX.o];exact IP f 15
  have J:x<=2147483648:=Vw;have HV:=af (show lQ (m:Nat) f=(if 2147483647<=x/2^(30-m) then 2147483647 else x/2^(30-m)) by
   unfold lQ;rw[if_pos (by unfold qU;simp;omega),<-HX.o,show((30:Int)-(m:Nat)).toNat=30-m from ah])
  clear HX c;obtain⟨p,hp⟩:=ak (x/2^(30-m));rw[<-hp] at HV;by_cases hc:2147483647<=p
  ·have M:=af (show lQ (m:Nat) f=2147483647 by rw[HV.o,if_pos hc])
   have v:2147483647<=x/2^(30-m):=(by rw[<-hp];exact hc);exact aiS
  have M:=af (show lQ (m:Nat) f=x/2^(30-m) by rw[HV.o,if_neg hc,hp]);have v:x/2^(30-m)<2147483647:=ah;exact aiS
theorem alB(n f:Int)(w:Wd)(T:TabA w 4 dY):
 Cl 155 #[.int .i64 n,.int .i64 f] w fun e w'=>e=.returned (.tuple #[.int .i64 (lQ n f),.int .i64 (bz (qU n f))])/\w=w':=by
 by_cases h:(0<=n/\n<=30)/\0<=f/\f<=32767
 ·have a:qU n f=true:=Uu
  rw[a];exact alA n f w T h.1.1 h.1.2 h.2.1 h.2.2
 ·have a:qU n f=false:=Uu
  have b:lQ n f=0:=by unfold lQ;rw[a];rfl
  rw[a,b];clear a b T;by_cases c:n<0
  ·exact VW
  by_cases d:30<n
  ·exact VW
  by_cases g:f<0
  ·exact VW
  have i:32767<f:=ah;exact VW
def glB(n:Int):Bool:=decide (0<=n/\n<=31)
def glV(n:Int):Int:=if glB n then lQ ((24+3*n)/8) ((24+3*n)%8*4096) else 0
theorem acZ(a:0<=n)(b:n<=31):qU ((24+3*n)/8) ((24+3*n)%8*4096)=true:=by
 unfold qU;simp;omega
theorem Oj(a:0<=n)(b:n<=31):glB n=true:=by unfold glB;simp;omega
theorem IQ(h:n<0\/31<n):glB n=false:=by unfold glB;simp;omega
theorem IU(n:Int):0<=glV n/\glV n<=32767:=by
 by_cases h:0<=n/\n<=31
 ·obtain⟨k,rfl⟩:=gI h.1
  have:∀k:Nat,k<32->0<=glV (k:Nat)/\glV (k:Nat)<=32767:=wK;exact this k ah
 unfold glV;rw[IQ ah];simp
theorem ac0(n:Int)(w:Wd)(T:TabA w 4 dY):
 Cl 79 #[.int .i64 n] w fun e w'=>e=.returned (.tuple #[.int .i64 (glV n),.int .i64 (bz (glB n))])/\w=w':=by
 by_cases h:n<0\/31<n
 ·rw[show glV n=0 by unfold glV;rw[IQ h];rfl,IQ h]
  clear T;rcases h with h|h
  ·go_enter Tryz.func79,Tryz.ntmps79
   go_wp2;go_ret2;exact⟨rfl,rfl⟩
  have d: ¬n<0:=ah;go_enter Tryz.func79,Tryz.ntmps79;go_wp2;go_ret2;exact⟨rfl,rfl⟩
 ·have a:0<=n:=ah
  have b:n<=31:=ah;have f: ¬n<0:=ah;have g: ¬31<n:=ah;have K:=alB (3+3*n/8) (3*n%8*4096) w T;rw[show(3:Int)+3*n/8=(24+3*n)/8 from ah,show(3:Int)*n%8*4096=(24+3*n)%8*4096 from ah,acZ a b] at K;have c:lQ ((24+3*n)/8) ((24+3*n)%8*4096)=glV n:=by unfold glV;rw[Oj a b];rfl
  rw[c,show(24+3*n)/8=3+3*n/8 from ah,show(24+3*n)%8*4096=3*n%8*4096 from ah] at K;rw[Oj a b];have K:=af K;clear c T h;go_enter Tryz.func79,Tryz.ntmps79;go_wp2_with(go_at_call 155;(with_reducible refine K.o.mono ?_);rintro e w' ⟨rfl,rfl⟩);go_ret2;exact⟨rfl,rfl⟩
theorem aqI{i:Array Oper}{o:Oper}{a:Act}{w:Wd}{K:Act->Wd->Prop}{Q:Exit->Act->Wd->Prop}{E:Prop}(hgd:o.guard=none)(s x:Operand)
 (B:o.op=.call {callee:=.builtin .append,args:= #[s,x],argTypes:= #[26,26]})
 (base:Nat) (A:Oz) (c n:Nat) (xs:Lz) (Z:a.eval s=.slice A n c) (z:xs.length=n) (f:Own w base A c xs)
 (b:Addr) (y:Int) (G:a.eval x=.slice (some b) 1 1) (t:w.cell? b=some (.int .i64 y)) (I:n+1<=17592186044416) (d:base<=w.heap.size)
 (h:∀k c' w',Own w' base k c' (xs++[y])->w.grownBy w' (A.map (·.block))->K (a.put o.dst (.slice k (n+1) c')) w'):
 if Region.wanted o (yielded i a.tmps)=true then Oper.wp Tryz.prog o a w K Q else E:=by
 have F:Region.wanted o (yielded i a.tmps)=true:=MO;rw[if_pos F];subst z;obtain⟨H,hi,m,p,D⟩:=mJ GY;have C:Reads w (b.block+1) 1 (some b) 1 (au [y]):=⟨qP,fun _=>⟨b,rfl,ah,fun j u l=>by
  match j,l with
  |0,l=>simp[au] at l;subst l;have e:b.add 0=b:=by unfold Addr.add;simp
        rw[e];exact t⟩⟩
 obtain⟨J,w',g,q,h3,L⟩:=yh (P:=Tryz.prog) w base 26 o.type 3 H (.int .i64 0) 1 8 qH hi m p D rfl ah _ _ _ f (b.block+1) (some b) 1 1 (au [y]) C (o9 [y]) jg ah d;obtain⟨k,c',rfl,r⟩:=Wj q (GV xs [y]);have v:(xs++[y]).length=xs.length+1:=ay;unfold Oper.wp execOp;simp only[B,resolve,invoke,builtin,ng,uM,qh,ut,uu,uw,Z,G,g];rw[v];exact h k c' w' r zF
