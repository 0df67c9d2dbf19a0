/- Lemmas. -/
import Derived.Test.YtaahbkbnfpajdaaGreatDoorZef08
namespace Go.Proofs.YtaahbkbnfpajdaaGreatDoor
set_option linter.all false
set_option maxRecDepth 100000
set_option maxHeartbeats 8000000
open Go.RowKit
variable{n k j:Nat}{r:Lz}{w:Wd}
def tgB(t r:Lz):Bool:=aG t&&aG r
def lS(t r:Lz):Int:=if t.length=40/\r.length=40 then bz (tgB t r) else 1
def tgT(t r:Lz)(n i:Nat):Int:=t.getD i 0*jc r n i
def tgE(t r:Lz)(n:Nat):Int:=aN (tgT t r n) 40
def tgL(t r:Lz):Lz:=if lS t r=0 then(List.range 40).map (tgE t r) else[]
theorem iw{xs:Lz}(h:aG xs=true):fU xs:=gU h
theorem alJ(t r:Lz)(n:Nat):bQ t (kN r n) 40=tgE t r n:=
 oK 40 fun i hi=>by unfold tJ kN tgT;rw[bJ _ hi]
theorem ac4{t:Lz}(h:fU t)(r:Lz)(n k:Nat): -(1073741824*(k:Int))<=aN (tgT t r n) k/\aN (tgT t r n) k<=1073741824*(k:Int):=by
 induction k with
 |zero=>simp[aN]
 |succ k ih=>
  have a:=nO (h k).1 (h k).2 (yH r n k).1 (yH r n k).2;simp only[aN];unfold tgT at*
  push_cast;omega
theorem ac5(t r:Lz)(n:Nat):∀k,k<=n->aN (tgT t r n) k=0
 |0,_=>rfl
 |k+1,h=>by
  simp only[aN];rw[ac5 t r n k ah];unfold tgT jc;rw[if_neg ah];simp
def tgN(t r:Lz)(n k:Nat):Lz:=(List.range 40).map (fun j=>if j<n then tgE t r j else if j=n then aN (tgT t r n) k else 0)
theorem qX(t r:Lz)(n k:Nat):(tgN t r n k).length=40:=by simp[tgN]
theorem ac6(t r:Lz)(a:n<40):(tgN t r n k).getD n 0=aN (tgT t r n) k:=by
 unfold tgN;rw[bJ _ a,if_neg ah,if_pos rfl]
theorem alK(t r:Lz)(c:n<40):(tgN t r n k).set n (aN (tgT t r n) (k+1))=tgN t r n (k+1):=by
 refine dM (by simp[qX]) fun j b=>?_;rw[fP,qX] at b;by_cases e:n=j
 ·subst e;rw[gQ _ _ _ (by rw[qX];exact b),ac6 t r c]
 rw[gV _ _ e];unfold tgN;rw[bJ _ b,bJ _ b];by_cases a:j<n
 ·rw[if_pos a,if_pos a]
 rw[if_neg a,if_neg a,if_neg ah,if_neg ah]
theorem alL(t r:Lz)(n:Nat):tgN t r n 40=tgN t r (n+1) (n+1):=by
 refine dM (by rw[qX,qX]) fun j a=>?_;rw[qX] at a;unfold tgN;rw[bJ _ a,bJ _ a];by_cases b:j<n
 ·rw[if_pos b,if_pos ah]
 by_cases c:j=n
 ·subst c;rw[if_neg ah,if_pos rfl,if_pos ah];rfl
 rw[if_neg b,if_neg c,if_neg ah];by_cases d:j=n+1
 ·rw[if_pos d,ac5 t r (n+1) (n+1) (ax _)]
 rw[if_neg d]
theorem alM(t r:Lz):tgN t r 0 0=List.replicate 40 0:=by
 refine dM (by rw[qX];simp) fun j a=>?_;rw[qX] at a;rw[DC];unfold tgN;rw[bJ _ a,if_neg ah];split<;>rfl
theorem alN(t r:Lz):tgN t r 40 40=(List.range 40).map (tgE t r):=by
 refine dM (by rw[qX];simp) fun j a=>?_;rw[qX] at a;unfold tgN;rw[bJ _ a,bJ _ a,if_pos a]
theorem ac7{t:Lz}(h: ¬(t.length=40/\r.length=40)):lS t r=1:=by unfold lS;rw[if_neg h]
theorem XC{t:Lz}(a:t.length=40)(b:r.length=40):lS t r=bz (tgB t r):=by unfold lS;rw[if_pos ⟨a,b⟩]
theorem Ol{t:Lz}(h:lS t r≠0):tgL t r=[]:=by unfold tgL;rw[if_neg h]
theorem Om{t:Lz}(h:lS t r=0):tgL t r=(List.range 40).map (tgE t r):=by unfold tgL;rw[if_pos h]
theorem alO(A A2:Oz)(c c2:Nat)(t r:Lz)(w:Wd)(F:Rs w w.heap.size A t)(X:Rs w w.heap.size A2 r)(lt:t.length=40)(Y:r.length=40)(gt:aG t=true)(G:aG r=true):
 Cl 74 #[.slice A 40 c,.slice A2 40 c2] w (NewSE w ((List.range 40).map (tgE t r)) 0):=by
 have HT:=af F;have HR:=af X;have P:=af lt;have LR:=af Y;have z:=af (iw gt);have g:=af (iw G);clear F X lt Y gt G;go_enter Sl,Sr;go_wp2_with(at_make;refine nK rfl _ _ rfl .i64 .i64 40 rfl rfl w.heap.size ah (ax _) ?_;intro w1 L J;have C:=af (show Own w1 w.heap.size (some ⟨w.heap.size,0,none⟩) 40 (tgN t r 0 0) by rw[alM];exact L);have v:=af ((aP w.heap.size w).grown J (ax _) ay);clear L J);go_loopw[20] (fun d wr=> ∃n:Nat,n<=40/\d=.int .i64 n/\Hy (Own wr w.heap.size (some ⟨w.heap.size,0,none⟩) 40 (tgN t r n n))/\Hy (Bw w wr)) (fun d _=>40-(intOf d).toNat)
 case atStart=>exact⟨0,ah,rfl,C,v⟩
 case round=>
  clear C v;obtain⟨n,hn,rfl,Q,H⟩:=hrel;obtain⟨wo,rfl⟩:=ak (wr:Wd);by_cases b:n<40
  ·go_wp2
   go_loopw[8] (fun d wr=> ∃k:Nat,n<=k/\k<=40/\d=.int .i64 k/\Hy (Own wr w.heap.size (some ⟨w.heap.size,0,none⟩) 40 (tgN t r n k))/\Hy (Bw w wr)) (fun d _=>40-(intOf d).toNat)
   case atStart=>exact⟨n,ax _,hn,rfl,Q,H⟩
   case round=>
    clear Q H;obtain⟨k,j,hk,rfl,Q,H⟩:=hrel;by_cases i:k<40
    ·obtain⟨ad,rfl,M,c0⟩:=(HT.o.below H.o).at_ (k:=k) (by rw[P.o];exact i)
     obtain⟨R,rfl,U,c1⟩:=(HR.o.below H.o).at_ (k:=k-n) (by rw[LR.o];omega);have E:=Q.o.cell n (by rw[qX];exact b);rw[ac6 t r b] at E;have fo:=Q.o.frozen n;have sr:=ac4 z.o r n k;have f:=af (alK t r (n:=n) (k:=k) b);have D:=af (show aN (tgT t r n) (k+1)=aN (tgT t r n) k+t.getD k 0*r.getD (k-n) 0 by
      simp only[aN];unfold tgT jc;rw[if_pos j,mW (g.o _).1 (g.o _).2])
     have a:=z.o k;have q:=g.o (k-n);generalize t.getD k 0=x at*
     generalize r.getD (k-n) 0=y at*
     obtain⟨m,O⟩:=ak (k-n);rw[<-O] at c1;obtain⟨s,Z⟩:=ak (aN (tgT t r n) k);rw[<-Z] at E sr D;obtain⟨p1,p2⟩:=nO a.1 a.2 q.1 q.2;have s1: -1073741824000<=s:=ah;have s2:s<=1073741824000:=ah;have I:IntKind.i64.wrap ((k:Int)-(n:Nat))=(m:Nat):=aV;have l:IntKind.i64.wrap (x*y)=x*y:=aV;have u:IntKind.i64.wrap (s+x*y)=s+x*y:=aV;have T:Hy (∀W,Cl 150 #[.int .i64 x] W fun e w'=>e=.returned (.int .i64 x)/\w'=W):=af (fun W=>(zY x W).mono fun _ _ h=>⟨by rw[h.1,mW a.1 a.2],h.2.symm⟩);have KY:Hy (∀W,Cl 150 #[.int .i64 y] W fun e w'=>e=.returned (.int .i64 y)/\w'=W):=af (fun W=>(zY y W).mono fun _ _ h=>⟨by rw[h.1,mW q.1 q.2],h.2.symm⟩);have i1:(m:Int)<40:=ah;have i2:(0:Int)<=m:=ah;have i3:(k:Int)<40:=ah;have i4:(0:Int)<=k:=ah;have i5:(n:Int)<40:=ah;have i6:(0:Int)<=n:=ah;have B:=af (fun N=>show Own ((wr.drewN N).setCell ⟨w.heap.size,n,none⟩ (.int .i64 (s+x*y))) w.heap.size (some ⟨w.heap.size,0,none⟩) 40 (tgN t r n (k+1)) from by rw[<-f.o,D.o];exact(Q.o.drewN N).set_ n (by rw[qX];exact b) (s+x*y));have K:=af (fun N=>(aH H.o (jL wr N)).setCell (p:=⟨w.heap.size,n,none⟩) (ax _) (.int .i64 (s+x*y)));have HM:=af O;have HSS:=af Z;have S:ad.block≠w.heap.size:=ah;have V:R.block≠w.heap.size:=ah;clear O Z a q sr;go_wp2;go_quiet ((go_at_call 150;first|(with_reducible exact oW (T.o _))|(with_reducible exact oW (KY.o _))));go_wp2;go_region;clear I l u;go_wp2;go_roundw;case rel=>exact⟨k+1,ah,ah,aT,af (B.o _),af (K.o _)⟩
     case measure=>exact aW
    obtain rfl:k=40:=ah;have B:=af (show Own wr w.heap.size (some ⟨w.heap.size,0,none⟩) 40 (tgN t r (n+1) (n+1)) by rw[<-alL];exact Q.o);go_wp2;go_roundw;case rel=>exact⟨n+1,ah,aT,B,H⟩
    case measure=>exact aW
  obtain rfl:n=40:=ah;have B:=af (show Own wo w.heap.size (some ⟨w.heap.size,0,none⟩) 40 ((List.range 40).map (tgE t r)) by rw[<-alN];exact Q.o);go_wp2;go_ret2;exact⟨_,_,ay,B.o,H.o⟩
def Oo(w wr:Wd)(k:Nat):Prop:=∃xs:Lz,xs.length=40/\(-(1073741824*(k:Int))<=xs.getD 0 0/\xs.getD 0 0<=1073741824*(k:Int))/\Own wr w.heap.size (some ⟨w.heap.size,0,none⟩) 40 xs
theorem alP(A A2:Oz)(c c2:Nat)(t r:Lz)(w:Wd)(F:Rs w w.heap.size A t)(Y:Rs w w.heap.size A2 r)(lt:t.length=40)(lr:r.length=40)(X: ¬(aG t=true/\aG r=true))(wt:W64 t)(q:W64 r):
 Cl 74 #[.slice A 40 c,.slice A2 40 c2] w (NewSE w [] 2):=by
 have HT:=af F;have HR:=af Y;have P:=af lt;have G:=af lr;have j:=af X;have WT:=af wt;have WR:=af q;clear F Y lt lr X wt q;go_enter Sl,Sr;go_wp2_with(at_make;refine nK rfl _ _ rfl .i64 .i64 40 rfl rfl w.heap.size ah (ax _) ?_;intro w1 a L;have I:=af (show Oo w w1 0 from⟨List.replicate 40 0,ay,ay,a⟩);have E:=af ((aP w.heap.size w).grown L (ax _) ay);clear a L);go_loopw[20] (fun n wr=>n=.int .i64 0/\Hy (Oo w wr 0)/\Hy (Bw w wr)) (fun _ _=>0)
 case atStart=>exact⟨rfl,I,E⟩
 case round=>
  clear I E;obtain⟨rfl,Q,H⟩:=hrel;obtain⟨wo,rfl⟩:=ak (wr:Wd);go_wp2;go_loopw[8] (fun n wr=> ∃k:Nat,k<=40/\n=.int .i64 k/\Hy (allTo gY t k/\allTo gY r k)/\Hy (Oo w wr k)/\Hy (Bw w wr)) (fun n _=>40-(intOf n).toNat)
  case atStart=>exact⟨0,ah,rfl,af ⟨allTo.zero,allTo.zero⟩,Q,H⟩
  case round=>
   clear Q H;obtain⟨k,hk,rfl,u,Q,H⟩:=hrel;by_cases l:k<40
   ·obtain⟨ad,rfl,M,c0⟩:=(HT.o.below H.o).at_ (k:=k) (by rw[P.o];exact l)
    obtain⟨R,rfl,U,c1⟩:=(HR.o.below H.o).at_ (k:=k) (by rw[G.o];exact l);have b:=WT.o.at_ k;have g:=WR.o.at_ k;have v:=af (fun h1 h2=>lX (u.o.1.succ h1) (u.o.2.succ h2));generalize t.getD k 0=x at*
    generalize r.getD k 0=y at*
    have i3:(k:Int)<40:=ah;have i4:(0:Int)<=k:=ah;have T:Hy (∀W,Cl 150 #[.int .i64 x] W fun e w'=>e=.returned (.int .i64 (s16 x))/\w'=W):=af (fun W=>(zY x W).mono fun _ _ h=>⟨h.1,h.2.symm⟩);have KY:Hy (∀W,Cl 150 #[.int .i64 y] W fun e w'=>e=.returned (.int .i64 (s16 y))/\w'=W):=af (fun W=>(zY y W).mono fun _ _ h=>⟨h.1,h.2.symm⟩);by_cases hx:x< -32768\/32767<x
    ·have e1:(x==s16 x)=false:=ahn
     have S:(x !=s16 x)=true:=(by rw[qJ];exact fun h=>vg hx h.symm);clear hx b g;exact ail
    by_cases hy:y< -32768\/32767<y
    ·have e1:(y==s16 y)=false:=aho
     have S:(y !=s16 y)=true:=(by rw[qJ];exact fun h=>vg hy h.symm);have i:=mW (x:=x) ah ah;rw[i] at T;clear hx hy b g i;exact ail
    have i:=mW (x:=x) ah ah;have J:=mW (x:=y) ah ah;rw[i] at T;rw[J] at KY;have f:=af (v.o (sO ah ah) (sO ah ah));obtain⟨p1,p2⟩:=nO (x:=x) (y:=y) ah ah ah ah;obtain⟨xs,m,d,a⟩:=Q.o;have co:=a.cell 0 ah;have fo:=a.frozen 0;obtain⟨s,Z⟩:=ak (xs.getD 0 0);rw[<-Z] at co d;have s1: -1073741824000<=s:=ah;have s2:s<=1073741824000:=ah;have z:IntKind.i64.wrap (x*y)=x*y:=aV;have C:IntKind.i64.wrap (s+x*y)=s+x*y:=aV;have D:IntKind.i64.wrap ((k:Int))=k:=aV;have B:=af (fun N=>show Oo w ((wr.drewN N).setCell ⟨w.heap.size,0,none⟩ (.int .i64 (s+x*y))) (k+1) from⟨_,by rw[fP];exact m,by rw[gQ _ _ _ ah];omega,(a.drewN N).set_ 0 ah (s+x*y)⟩);have K:=af (fun N=>(aH H.o (jL wr N)).setCell (p:=⟨w.heap.size,0,none⟩) (ax _) (.int .i64 (s+x*y)));have O:ad.block≠w.heap.size:=ah;have V:R.block≠w.heap.size:=ah;have HSS:=af Z;clear hx hy b g i J Z m d a;go_wp2;go_quiet ((go_at_call 150;first|(with_reducible exact oW (T.o _))|(with_reducible exact oW (KY.o _))));go_wp2;go_region;clear z C D;go_wp2;go_roundw;case rel=>exact⟨k+1,ah,aT,f,af (B.o _),af (K.o _)⟩
    case measure=>exact aW
   exfalso;obtain rfl:k=40:=ah;exact j.o ⟨u.o.1.all (by rw[P.o];exact ax _),u.o.2.all (by rw[G.o];exact ax _)⟩
theorem alQ(A A2:Oz)(c c2 h i:Nat)(t r:Lz)(w:Wd)(F:Rs w w.heap.size A t)(j:Rs w w.heap.size A2 r)(g:t.length=h)(f:r.length=i)(k:W64 t)(b:W64 r):
 Cl 74 #[.slice A h c,.slice A2 i c2] w (NewSE w (tgL t r) (lS t r)):=by
 by_cases a:h=40;rotate_left
 ·have D:=af (fun w' (hB:Bw w w')=>show NewSE w (tgL t r) (lS t r) (.returned (.tuple #[.slice none 0 0,.int .i64 1])) w' from Vx)
  have l:((h:Int) !=40)=true:=aC;have m: ¬(h:Int)=40:=ah;clear a F j g f k b;go_enter Sl,Sr;exact o8
 by_cases e:i=40;rotate_left
 ·have D:=af (fun w' (hB:Bw w w')=>show NewSE w (tgL t r) (lS t r) (.returned (.tuple #[.slice none 0 0,.int .i64 1])) w' from Vx)
  subst a;have l:((i:Int) !=40)=true:=aC;have m: ¬(i:Int)=40:=ah;clear e F j g f k b;go_enter Sl,Sr;exact o8
 subst a;subst e;have J:=XC g f;by_cases G:aG t=true/\aG r=true
 ·have hb:tgB t r=true:=by unfold tgB;rw[G.1,G.2];rfl
  have d:lS t r=0:=Dc;rw[d,Om d];exact alO A A2 c c2 t r w F j g f G.1 G.2
 ·have hb:tgB t r=false:=by unfold tgB;simpa using G
  have d:lS t r=2:=Dc;rw[d,Ol (by rw[d];decide)];exact alP A A2 c c2 t r w F j g f G k b
theorem alR(A A2:Oz)(c c2 f g:Nat)(t r:Lz)(w:Wd)(F:Rs w w.heap.size A t)(l:Rs w w.heap.size A2 r)(b:t.length=f)(a:r.length=g)(l1:f<=17592186044416)(l2:g<=17592186044416)(v:W64 r):
 Cl 116 #[.slice A f c,.slice A2 g c2] w (NewSE w (tgL t r) (lS t r)):=by
 have i:=af (fun W (h:Rs W w.heap.size A t)=>mX A c f w.heap.size t W h b l1);have C:=af (fun W (h:Rs W w.heap.size A2 r)=>mX A2 c2 g w.heap.size r W h a l2);have B:=af F;have E:=af l;by_cases d:f=40;rotate_left
 ·have D:=af (fun w' (hB:Bw w w')=>show NewSE w (tgL t r) (lS t r) (.returned (.tuple #[.slice none 0 0,.int .i64 1])) w' from Vx)
  have d0:((f:Int) !=40)=true:=aC;have d1: ¬(f:Int)=40:=ah;clear d F l b a;go_enter Lp,Lr;exact o8
 by_cases u:g=40;rotate_left
 ·have D:=af (fun w' (hB:Bw w w')=>show NewSE w (tgL t r) (lS t r) (.returned (.tuple #[.slice none 0 0,.int .i64 1])) w' from Vx)
  subst d;have d0:((g:Int) !=40)=true:=aC;have d1: ¬(g:Int)=40:=ah;clear u F l b a;go_enter Lp,Lr;exact o8
 subst d;subst u;have J:=XC b a;by_cases gt:aG t=true;rotate_left
 ·have hb:tgB t r=false:=by unfold tgB;simp[gt]
  have D:=af (fun w' (hB:Bw w w')=>show NewSE w (tgL t r) (lS t r) (.returned (.tuple #[.slice none 0 0,.int .i64 2])) w' from by rw[Ol Vj,J,hb];exact NewSE.none_ hB);have p:aG t=false:=by simpa using gt
  rw[p] at i;clear gt p hb J F l b a;go_enter Lp,Lr;go_wp2_with fail;refine(i.o _ B.o).mono ?_;rintro e S ⟨rfl,rfl⟩;exact o8
 by_cases j:aG r=true;rotate_left
 ·have hb:tgB t r=false:=by unfold tgB;simp[j]
  have D:=af (fun w' (hB:Bw w w')=>show NewSE w (tgL t r) (lS t r) (.returned (.tuple #[.slice none 0 0,.int .i64 2])) w' from by rw[Ol Vj,J,hb];exact NewSE.none_ hB);have p:aG r=false:=by simpa using j
  rw[gt] at i;rw[p] at C;clear gt j p hb J F l b a;go_enter Lp,Lr;go_wp2_with fail;refine(i.o _ B.o).mono ?_;rintro e S ⟨rfl,rfl⟩;go_wp2_with fail;refine(C.o _ E.o).mono ?_;rintro e w2 ⟨rfl,rfl⟩;exact o8
 have hb:tgB t r=true:=by unfold tgB;rw[gt,j];rfl
 have L:=aj (lS t r=0) (Dc);have M:=aj (tgL t r=(List.range 40).map (tgE t r)) (Om L.o);have KL:=af (fun n W (h:Rs W W.heap.size A2 r) (hn:n<=40)=>alH A2 c2 r n W h a hn v);have Z:=af (fun n W Aq cq (h1:Rs W W.heap.size A t) (h2:Rs W W.heap.size Aq (kN r n))=>Dy A Aq c cq 40 40 t (kN r n) W h1 h2 b (Xy _ _) (ax _) ah (iw gt) (alC _ _));rw[gt] at i;rw[j] at C;clear gt j hb J F l b a v;go_enter Lp,Lr;go_wp2_with fail;refine(i.o _ B.o).mono ?_;rintro e S ⟨rfl,rfl⟩;go_wp2_with fail;refine(C.o _ E.o).mono ?_;rintro e w2 ⟨rfl,rfl⟩;have K:=af (aP w.heap.size w);go_wp2;go_loopw[6,7] (fun ov G wr=> ∃(k:Nat) (Ao:Oz) (m:Nat),k<=40/\G=.int .i64 k/\ov=.slice Ao k m/\Hy (Own wr w.heap.size Ao m ((List.range k).map (tgE t r)))/\Hy (Bw w wr)) (fun _ G _=>40-(intOf G).toNat)
 case atStart=>exact⟨0,none,0,ah,rfl,rfl,af Own.nil,K⟩
 case round=>
  clear K;obtain⟨k,Ao,m,hk,rfl,rfl,Q,H⟩:=hrel;by_cases hlt:k<40
  ·have s:k<=40:=hk
   go_wp2_with fail;refine(KL.o k wr ((E.o.below H.o).more H.o.size) s).mono ?_;rintro e w3 ⟨U,c3,rfl,q,hB⟩;have X:=af q;have N:=af (Q.o.below hB);have y:=af (aH H.o hB);clear q hB Q H;go_wp2_with fail;refine(Z.o k w3 U c3 ((B.o.below y.o).more y.o.size) X.o.reads).mono ?_;rintro e T ⟨rfl,hB⟩;have O:=af (N.o.below hB);have z:=af (aH y.o hB);have Y:=af (alJ t r k);generalize bQ t (kN r k) 40=x at*
   clear hB N y X;go_wp2_with(at_builtin;refine wR rfl (.tmp 28) (.tmp 34) rfl w.heap.size Ao m k ((List.range k).map (tgE t r)) rfl ay (O.o.alloc _) ⟨T.heap.size,0,none⟩ x rfl (oH T _ _) ah (dL z.o.size ay) ?_;intro I P w5 q R hA;have O5:=af q;have V:=af R;clear q R hA);have N1:=af (show Own w5 w.heap.size I P ((List.range (k+1)).map (tgE t r)) by rw[<-Ir,<-Y.o];exact O5.o);have N4:=af (uX (z.o.alloc z.o.size _) (O.o.alloc _) V.o (dL z.o.size ay));go_wp2;go_roundw;case rel=>exact⟨k+1,I,P,ah,aT,rfl,N1,N4⟩
   case measure=>exact aW
  obtain rfl:k=40:=ah;go_wp2;go_ret2;exact⟨Ao,m,by rw[M.o,L.o];simp,by rw[M.o];exact Q.o,H.o⟩
def okI(x:Int):Bool:=decide (0<=x/\x<=9)
theorem Oq{x:Int}(a:0<=x)(b:x<=9):okI x=true:=by unfold okI;simp;omega
theorem XD{x:Int}(h:x<0\/9<x):okI x=false:=by unfold okI;simp;omega
def atB(t p:Int):Bool:=decide (0<=t/\t<=3)&&okI p
def atV(t p:Int):Int:=if atB t p then t+4*p else 0
def AtAns(t p:Int)(w:Wd)(e:Ending)(w':Wd):Prop:=e=.returned (.tuple #[.int .i64 (atV t p),.int .i64 (bz (atB t p))])/\w=w'
theorem AtAns.bad{t p:Int}(h: ¬((0<=t/\t<=3)/\0<=p/\p<=9)):AtAns t p w (.returned (.tuple #[.int .i64 0,.int .i64 2])) w:=by
 have hb:atB t p=false:=Uw;exact⟨UQ,rfl⟩
theorem AtAns.good{t p:Int}(h:(0<=t/\t<=3)/\0<=p/\p<=9):AtAns t p w (.returned (.tuple #[.int .i64 (t+4*p),.int .i64 0])) w:=by
 have hb:atB t p=true:=Uw;exact⟨UQ,rfl⟩
theorem alS(t p:Int)(w:Wd):Cl 154 #[.int .i64 t,.int .i64 p] w (AtAns t p w):=by
 by_cases h:(0<=t/\t<=3)/\0<=p/\p<=9
 ·have D:=af (AtAns.good (w:=w) h)
  obtain⟨⟨d,e⟩,f,g⟩:=h;have a: ¬t<0:=ah;have c: ¬4<=t:=ah;have I: ¬3<t:=ah;have P: ¬p<0:=ah;have b: ¬10<=p:=ah;have u: ¬9<p:=ah;go_enter Tryz.func154,Tryz.ntmps154;go_wp2;go_ret2;first|exact D.o|(rw[Int.add_comm] at D;exact D.o)|exact D.o.comm
 have D:=af (AtAns.bad (w:=w) h);by_cases a:t<0
 ·exact VX
 by_cases c:3<t
 ·have I:4<=t:=ah
  exact VX
 have I: ¬4<=t:=ah;by_cases P:p<0
 ·exact VX
 have b:9<p:=ah;have u:10<=p:=ah;exact VX
def blS(signs size:Int):Bool:=decide ((0<=signs/\signs<=15)/\0<=size/\size<=32767)
def blB(idx:Lz)(signs size:Int):Bool:=blS signs size&&idx.all okI
def blE(idx:Lz)(signs size:Int)(j:Nat):Int:=if idx.getD (j%4) 0=(j/4:Nat) then(if signs/2^(j%4)%2=1 then size else-size) else 0
def blL(idx:Lz)(signs size:Int):Lz:=if blB idx signs size then(List.range 40).map (blE idx signs size) else[]
def blN(idx:Lz)(signs size:Int)(n:Nat):Lz:=(List.range 40).map (fun j=>if j%4<n then blE idx signs size j else 0)
def blK(idx:Lz)(signs size:Int)(k:Nat):Lz:=(List.range 40).map (fun j=>if j<k then blE idx signs size j else 0)
theorem vC(idx:Lz)(signs size:Int)(n:Nat):(blN idx signs size n).length=40:=by simp[blN]
theorem tK(idx:Lz)(signs size:Int)(n:Nat):(blK idx signs size n).length=40:=by simp[blK]
theorem alT(idx:Lz)(signs size:Int):blN idx signs size 0=List.replicate 40 0:=by
 refine dM (by simp[vC]) fun j a=>?_;rw[vC] at a;rw[DC];unfold blN;rw[bJ _ a,if_neg ah]
theorem alU(idx:Lz)(signs size:Int):blK idx signs size 0=List.replicate 40 0:=by
 refine dM (by simp[tK]) fun j a=>?_;rw[tK] at a;rw[DC];unfold blK;rw[bJ _ a,if_neg ah]
theorem alV(idx:Lz)(signs size:Int):blN idx signs size 4=(List.range 40).map (blE idx signs size):=by
 refine dM (by simp[vC]) fun j a=>?_;rw[vC] at a;unfold blN;rw[bJ _ a,bJ _ a,if_pos ah]
theorem alW(idx:Lz)(signs size:Int):blK idx signs size 40=(List.range 40).map (blE idx signs size):=by
 refine dM (by simp[tK]) fun j a=>?_;rw[tK] at a;unfold blK;rw[bJ _ a,bJ _ a,if_pos a]
theorem alX(idx:Lz)(signs size:Int){p:Nat}(f:n<4)(g:p<10)(h:idx.getD n 0=(p:Nat))(v:Int)(d:v=if signs/2^n%2=1 then size else-size):(blN idx signs size n).set (n+4*p) v=blN idx signs size (n+1):=by
 refine dM (by simp[vC]) fun j a=>?_;rw[fP,vC] at a;have O:(n+4*p)%4=n:=ah;have U:(n+4*p)/4=p:=ah;by_cases e:n+4*p=j
 ·subst e
  rw[gQ _ _ _ (by rw[vC];exact a)];unfold blN;rw[bJ _ a,if_pos ah];unfold blE;rw[O,U,if_pos h,d]
 rw[gV _ _ e];unfold blN;rw[bJ _ a,bJ _ a];by_cases b:j%4<n
 ·rw[if_pos b,if_pos ah]
 rw[if_neg b];by_cases c:j%4=n
 ·rw[if_pos ah]
  unfold blE;rw[c,h,if_neg ah]
 rw[if_neg ah]
theorem alY(idx:Lz)(signs size:Int)(b:k<40)(v:Int)(a:v=blE idx signs size k):(blK idx signs size k).set k v=blK idx signs size (k+1):=by
 refine dM (by simp[tK]) fun j hj=>?_;rw[fP,tK] at hj;by_cases e:k=j
 ·subst e
  rw[gQ _ _ _ (by rw[tK];exact hj),a];unfold blK;rw[bJ _ hj,if_pos ah]
 rw[gV _ _ e];unfold blK;exact GH
theorem alZ(idx:Lz)(signs size:Int)(h:blE idx signs size k=0):blK idx signs size (k+1)=blK idx signs size k:=by
 refine dM (by simp[tK]) fun j a=>?_;rw[tK] at a;unfold blK;rw[bJ _ a,bJ _ a];by_cases e:j=k
 ·subst e;rw[if_pos ah,if_neg ah,h]
 exact ahR
theorem Ot{idx:Lz}{signs size:Int}{w':Wd}(a:blB idx signs size=false)(b:Bw w w'):NewSE w (blL idx signs size) (bz (blB idx signs size)) (.returned (.tuple #[.slice none 0 0,.int .i64 2])) w':=by
 rw[show blL idx signs size=[] by unfold blL;rw[a];rfl,a];exact NewSE.none_ b
theorem ac8{idx:Lz}{signs size:Int}{w':Wd}{A:Oz}{c:Nat}(a:blB idx signs size=true)(d:Own w' w.heap.size A c ((List.range 40).map (blE idx signs size)))(b:Bw w w'):NewSE w (blL idx signs size) (bz (blB idx signs size)) (.returned (.tuple #[.slice A 40 c,.int .i64 0])) w':=by
 rw[show blL idx signs size=(List.range 40).map (blE idx signs size) by unfold blL;rw[a];rfl,a];exact⟨A,c,by simp;rfl,d,b⟩
theorem ac9(idx:Lz)(signs size:Int)(w:Wd)(E:idx.length=4)(Y: -9223372036854775808<=size)(Z:size<=9223372036854775807):
 Cl 76 #[.agg (agi idx),.int .i64 signs,.int .i64 size] w (NewSE w (blL idx signs size) (bz (blB idx signs size))):=by
 have BA:=af (baqq w (.cells (agi idx) 76));have KS:=af (fun W=>zY size W);by_cases h:(0<=signs/\signs<=15)/\0<=size/\size<=32767;rotate_left
 ·have FB:=af (fun w' (hB:Bw w w')=>Ot (idx:=idx) (signs:=signs) (size:=size) (w:=w) (w':=w') (by unfold blB blS;simp[h]) hB)
  by_cases k1:signs<0
  ·clear h
   exact VN
  by_cases k2:15<signs
  ·have I:16<=signs:=ah
   clear h;exact VN
  have I: ¬16<=signs:=ah;by_cases P:size< -32768\/32767<size
  ·have S:(size !=s16 size)=true:=by rw[qJ];exact fun h=>vg P h.symm
   have O:(size==s16 size)=false:=(by rw[Kq];exact fun h=>vg P h.symm);clear h P;exact VN
  have b:size<0:=ah;have r:=mW (x:=size) ah ah;rw[r] at KS;clear h P r;exact VN
 obtain⟨⟨g1,g2⟩,z1,z2⟩:=h;have R:blS signs size=true:=by unfold blS;simp;omega
 have FB:=af (fun w' (h:idx.all okI=false) (hB:Bw w w')=>Ot (idx:=idx) (signs:=signs) (size:=size) (w:=w) (w':=w') (by unfold blB;rw[h];simp) hB);have T:=af (fun w' A c (h:idx.all okI=true) (s:Own w' w.heap.size A c ((List.range 40).map (blE idx signs size))) (hB:Bw w w')=>ac8 (idx:=idx) (signs:=signs) (size:=size) (w:=w) (w':=w') (by unfold blB;rw[h,R];rfl) s hB);have r:=mW (x:=size) ah ah;rw[r] at KS;have M:=af (IB.new w 76 idx);have AY:(Tryz.prog.info? 76).map (·.size)=some 4:=aB;have V:=af AY;have z:=af (fun(k:Nat) (hk:k<4) (w:Wd)=>jW iO idx E k hk w);have HL:=af E;have k1: ¬signs<0:=ah;have I: ¬16<=signs:=ah;have b: ¬size<0:=ah;clear R r AY E;go_enter Tryz.func76,Tryz.ntmps76;go_wp2_with(first
  |(go_at_call 150;(with_reducible refine(KS.o _).mono ?_);rintro e w' ⟨rfl,rfl⟩)
  |(at_make;refine nK rfl _ _ rfl .i64 .i64 40 rfl rfl w.heap.size ah ay ?_;intro w1 s C;simp only[bT] at s;have N:=af (show Own w1 w.heap.size (some ⟨w.heap.size+1,0,none⟩) 40 (blN idx signs size 0) by rw[alT];exact s);have G:=af (Blk.grown M.o C ay);have J:=af (BA.o.grown C ay ay);clear s C)
  |(refine aK 76 (.tmp 3) idx 4 G.o iO V.o HL.o ?_))
 go_loopw[31] (fun F wr=> ∃n:Nat,n<=4/\F=.int .i64 n/\Hy (allTo okI idx n)/\Hy (Own wr w.heap.size (some ⟨w.heap.size+1,0,none⟩) 40 (blN idx signs size n))/\Hy (Bw w wr)) (fun F _=>4-(intOf F).toNat)
 case atStart=>exact⟨0,ah,rfl,af allTo.zero,N,J⟩
 case round=>
  clear N J G M;obtain⟨n,hn,rfl,L,Q,H⟩:=hrel;by_cases hlt:n<4
  ·have u:=z.o n hlt
   obtain⟨x,m⟩:=ak (idx.getD n 0);rw[<-m] at u;have g:=alS (n:Nat) x wr;by_cases t:0<=x/\x<=9
   ·obtain⟨p,rfl⟩:=gI t.1
    have hb:atB (n:Nat) (p:Nat)=true:=Uw;have q:atV (n:Nat) (p:Nat)=(n:Nat)+4*(p:Nat):=UQ;obtain⟨j,D⟩:=ak (n+4*p);unfold AtAns at g;rw[hb,q,show((n:Nat):Int)+4*((p:Nat):Int)=(j:Nat) from ah] at g;have l:=af g;have f:=af (L.o.succ (by rw[<-m];exact Oq ah ah));have a:j<40:=ah;have co:=Q.o.cell j UH;have fo:=Q.o.frozen j;have j1:(j:Int)<40:=ah;have j2:(0:Int)<=j:=ah;have ha:=Dx (signs/2^n);have Set:=af (fun v q=>alX idx signs size (p:=p) hlt ah m.symm v q);rw[<-D] at Set;have U:=af m;have HJ:=af D;have f2:((wr.setCell ⟨w.heap.size+1,j,none⟩ (.int .i64 (-size))).cell? ⟨w.heap.size+1,j,none⟩).isSome=true:=by
     rw[(Q.o.set_ j UH (-size)).cell j (by simp[vC];exact a)];rfl
    clear g hb q m D;by_cases d:signs/2^n%2=1
    ·have O:(bits BinOp.and IntKind.i64 (signs/2^n) 1==1)=true:=by rw[ha,d];rfl
     have B:=aj (Own ((wr.setCell ⟨w.heap.size+1,j,none⟩ (.int .i64 (-size))).setCell ⟨w.heap.size+1,j,none⟩ (.int .i64 size)) w.heap.size (some ⟨w.heap.size+1,0,none⟩) 40 (blN idx signs size (n+1))) (by
      rw[<-Set.o size (by rw[if_pos d])];have X:=(Q.o.set_ j UH (-size)).set_ j (by rw[fP,vC];exact a) size;rwa [Su] at X)
     have K:=af ((H.o.setCell (p:=⟨w.heap.size+1,j,none⟩) (show w.heap.size<=w.heap.size+1 from ah) (.int .i64 (-size))).setCell (p:=⟨w.heap.size+1,j,none⟩) (show w.heap.size<=w.heap.size+1 from ah) (.int .i64 size));exact air
    have O:(bits BinOp.and IntKind.i64 (signs/2^n) 1==1)=false:=(by rw[ha];simpa using d);have B:=aj (Own (wr.setCell ⟨w.heap.size+1,j,none⟩ (.int .i64 (-size))) w.heap.size (some ⟨w.heap.size+1,0,none⟩) 40 (blN idx signs size (n+1))) (by
     rw[<-Set.o (-size) (by rw[if_neg d])];exact Q.o.set_ j UH (-size))
    have K:=af (H.o.setCell (p:=⟨w.heap.size+1,j,none⟩) (show w.heap.size<=w.heap.size+1 from ah) (.int .i64 (-size)));exact air
   have hb:atB (n:Nat) x=false:=Uw;have q:atV (n:Nat) x=0:=UQ;unfold AtAns at g;rw[hb,q] at g;have l:=af g;have y:=af (FB.o wr (jb (i:=n) qN (by rw[<-m];exact XD ah)) H.o);have U:=af m;clear g hb q m t;go_wp2_with(go_at_call 154;(with_reducible refine l.o.mono ?_);rintro e w' ⟨rfl,rfl⟩);go_ret2;exact y.o
  obtain rfl:n=4:=ah;have y:=af (T.o wr _ _ (L.o.all Ui) (by rw[<-alV];exact Q.o) H.o);go_wp2;go_ret2;exact y.o
theorem ada(idx:Lz)(signs size:Int)(w:Wd)(hl:idx.length=4):
 Cl 118 #[.agg (agi idx),.int .i64 signs,.int .i64 size] w (NewSE w (blL idx signs size) (bz (blB idx signs size))):=by
 have BA:=af (baqq w (.cells (agi idx) 76));by_cases h:(0<=signs/\signs<=15)/\0<=size/\size<=32767;rotate_left
 ·have FB:=af (fun w' (hB:Bw w w')=>Ot (idx:=idx) (signs:=signs) (size:=size) (w:=w) (w':=w') (by unfold blB blS;simp[h]) hB)
  by_cases k1:signs<0
  ·exact VU
  by_cases k2:15<signs
  ·exact VU
  by_cases I:size<0
  ·exact VU
  have P:32767<size:=ah;exact VU
 obtain⟨⟨g1,g2⟩,z1,z2⟩:=h;have X:blS signs size=true:=by unfold blS;simp;omega
 have FB:=af (fun w' (h:idx.all okI=false) (hB:Bw w w')=>Ot (idx:=idx) (signs:=signs) (size:=size) (w:=w) (w':=w') (by unfold blB;rw[h];simp) hB);have FG:=af (fun w' A c (h:idx.all okI=true) (r:Own w' w.heap.size A c ((List.range 40).map (blE idx signs size))) (hB:Bw w w')=>ac8 (idx:=idx) (signs:=signs) (size:=size) (w:=w) (w':=w') (by unfold blB;rw[h,X];rfl) r hB);have M:=af (IB.new w 76 idx);have HL:=af hl;have k1: ¬signs<0:=ah;have k2: ¬15<signs:=ah;have I: ¬size<0:=ah;have P: ¬32767<size:=ah;clear X hl;go_enter Tryz.func118,Tryz.ntmps118;go_wp2_with(at_make;refine nK rfl _ _ rfl .i64 .i64 40 rfl rfl w.heap.size ah ay ?_;intro w1 r C;simp only[bT] at r;have W:=af (show Own w1 w.heap.size (some ⟨w.heap.size+1,0,none⟩) 40 (blK idx signs size 0) by rw[alU];exact r);have S:=af (Blk.grown M.o C ay);have T:=af (BA.o.grown C ay ay);clear r C);go_loopw[29] (fun R wr=> ∃k:Nat,k<=40/\R=.int .i64 k/\Hy (∀j,j<k->okI (idx.getD (j%4) 0)=true)/\Hy (Own wr w.heap.size (some ⟨w.heap.size+1,0,none⟩) 40 (blK idx signs size k))/\Hy (IB wr w.heap.size 76 idx)/\Hy (Bw w wr)) (fun R _=>40-(intOf R).toNat)
 case atStart=>exact⟨0,ah,rfl,af (fun j h=>ah),W,S,T⟩
 case round=>
  clear W T S M;obtain⟨k,hk,rfl,V,Q,E,H⟩:=hrel;by_cases a:k<40
  ·obtain⟨m,O⟩:=ak (k%4)
   obtain⟨d,U⟩:=ak (k/4);have s:m<4:=ah;have ci:=IB.cell E.o m (by rw[HL.o];exact s);have hmod:(k:Int)%4=(m:Nat):=ah;have Y:(k:Int)/4=(d:Nat):=ah;have z:=af (show blE idx signs size k=if idx.getD m 0=(d:Nat) then(if signs/2^m%2=1 then size else-size) else 0 by unfold blE;rw[<-O,<-U]);have q:=af (fun(h:okI (idx.getD m 0)=true)=>show∀j,j<k+1->okI (idx.getD (j%4) 0)=true from fun j Z=>by
    by_cases e:j=k
    ·subst e;rw[<-O];exact h
    ·exact V.o j ah)
   have n:=af (fun(h:okI (idx.getD m 0)=false)=>FB.o wr (jb (i:=m) (by rw[HL.o];exact s) h) H.o);obtain⟨x,G⟩:=ak (idx.getD m 0);rw[<-G] at ci z q n;have m1:(m:Int)<4:=ah;have J:(0:Int)<=m:=ah;have D:(0:Int)<2^m:=rU aA;have b1:0<=signs/2^m:=BZ g1 ah;have HX:=af G;have HM:=af O;have HD:=af U;clear G O U D;by_cases L:x<0
   ·have F:=af (n.o (XD (.inl L)))
    go_wp2;go_ret2;exact F.o
   by_cases N:9<x
   ·have F:=af (n.o (XD (.inr N)))
    go_wp2;go_ret2;exact F.o
   have f:=af (q.o (Oq ah ah));have co:=Q.o.cell k (by rw[tK];exact a);have fo:=Q.o.frozen k;by_cases he:x=(d:Nat)
   ·have q1:0<=signs/2^m%2:=ah
    have q2:signs/2^m%2<=1:=ah;obtain⟨b,u⟩:=ak (signs/2^m%2);rw[<-u] at q1 q2;have l:size*(2*b-1)=blE idx signs size k:=by
     rw[z.o,if_pos he,<-u];by_cases t:b=1
     ·rw[if_pos t,t];omega
     obtain rfl:b=0:=ah;rw[if_neg ah];omega
    obtain⟨v,y⟩:=ak (size*(2*b-1));have v1: -32767<=v/\v<=32767:=by
     rw[y];by_cases t:b=1
     ·rw[t];omega
     obtain rfl:b=0:=ah;omega
    obtain⟨v1,v2⟩:=v1;have B:=aj (Own (wr.setCell ⟨w.heap.size+1,k,none⟩ (.int .i64 v)) w.heap.size (some ⟨w.heap.size+1,0,none⟩) 40 (blK idx signs size (k+1))) (by
     rw[<-alY idx signs size a v (by rw[y,l])];exact Q.o.set_ k (by rw[tK];exact a) v)
    have NI:=af (Blk.far E.o (p:=⟨w.heap.size+1,k,none⟩) (show w.heap.size≠w.heap.size+1 from ah) (.int .i64 v));have K:=af (H.o.setCell (p:=⟨w.heap.size+1,k,none⟩) (show w.heap.size<=w.heap.size+1 from ah) (.int .i64 v));have hb':signs/2^m%2=b:=u.symm;have hv':size*(2*b-1)=v:=y.symm;subst he;clear u y l;go_wp2;go_roundw;case rel=>exact⟨k+1,ah,aT,f,B,NI,K⟩
    case measure=>exact aW
   have B:=aj (Own wr w.heap.size (some ⟨w.heap.size+1,0,none⟩) 40 (blK idx signs size (k+1))) (by
    rw[alZ idx signs size (by rw[z.o,if_neg he])];exact Q.o)
   have e1:(x==(d:Int))=false:=x8;clear co fo;go_wp2;go_roundw;case rel=>exact⟨k+1,ah,aT,f,B,E,H⟩
   case measure=>exact aW
  obtain rfl:k=40:=ah;have g:idx.all okI=true:=by
   (have:allTo okI idx 4:=fun j Z=>by have:=V.o j ah;rwa [zg Z] at this);exact this.all Ui
  have n:=af (FG.o wr _ _ g (by rw[<-alW];exact Q.o) H.o);clear g a;go_wp2;go_ret2;exact n.o
def foB(r l:Lz):Bool:=aG r&&aG l
def mr(r l:Lz):Int:=if r.length=l.length/\l.length<=80 then bz (foB r l) else 1
def foT(r l:Lz)(n i:Nat):Int:=r.getD i 0*l.getD (n-i) 0
def foE(r l:Lz)(n:Nat):Int:=s16 ((2048+aN (foT r l n) (n+1))/4096)
def foL(r l:Lz):Lz:=if mr r l=0 then(List.range l.length).map (foE r l) else[]
theorem aej{l:Lz}(h: ¬(r.length=l.length/\l.length<=80)):mr r l=1:=by unfold mr;rw[if_neg h]
theorem Yi{l:Lz}(a:r.length=l.length)(b:l.length<=80):mr r l=bz (foB r l):=by unfold mr;rw[if_pos ⟨a,b⟩]
theorem Jl{l:Lz}(h:mr r l≠0):foL r l=[]:=by unfold foL;rw[if_neg h]
theorem Jm{l:Lz}(h:mr r l=0):foL r l=(List.range l.length).map (foE r l):=by unfold foL;rw[if_pos h]
theorem am5(A A2:Oz)(c c2 d G:Nat)(r l:Lz)(w:Wd)(U:Rs w w.heap.size A r)(P:Rs w w.heap.size A2 l)(V:r.length=d)(z:l.length=G)(f:W64 r)(X:W64 l):
 Cl 68 #[.slice A d c,.slice A2 G c2] w (NewSE w (foL r l) (mr r l)):=by
 by_cases E:d=G;rotate_left
 ·have D:=af (fun w' (hB:Bw w w')=>show NewSE w (foL r l) (mr r l) (.returned (.tuple #[.slice none 0 0,.int .i64 1])) w' from Vy)
  have d0:((d:Int) !=G)=true:=aC;have d1: ¬(d:Int)=G:=ah;clear E U P V z f X;go_enter Tryz.func68,Tryz.ntmps68;exact o8
 subst E;by_cases F:80<d
 ·have D:=af (fun w' (hB:Bw w w')=>show NewSE w (foL r l) (mr r l) (.returned (.tuple #[.slice none 0 0,.int .i64 1])) w' from Vy)
  have d1:(80:Int)<d:=ah;clear F U P V z f X;go_enter Tryz.func68,Tryz.ntmps68;exact o8
 have hN:d<=80:=ah;have J:=Yi (r:=r) (l:=l) ah ah;have b:=af (fun w' (hb:foB r l=false) (hB:Bw w w')=>show NewSE w (foL r l) (mr r l) (.returned (.tuple #[.slice none 0 0,.int .i64 2])) w' from by rw[Jl Vj,J,hb];exact NewSE.none_ hB);have g:=af (fun w' A3 c3 (hb:foB r l=true) (N:Own w' w.heap.size A3 c3 ((List.range d).map (foE r l))) (hB:Bw w w')=>show NewSE w (foL r l) (mr r l) (.returned (.tuple #[.slice A3 d c3,.int .i64 0])) w' from⟨A3,c3,by rw[Jm Dc,J,hb,z];simp;rfl,by rw[Jm Dc,z];exact N,hB⟩);have HR:=af U;have HL:=af P;have LR:=af V;have LL:=af z;have WR:=af f;have WL:=af X;have d2: ¬(80:Int)<d:=ah;clear J F U P V z f X;go_enter Tryz.func68,Tryz.ntmps68;go_wp2;go_loopw[6,22] (fun ov p wr=> ∃(n:Nat) (Ao:Oz) (u:Nat),n<=d/\p=.int .i64 n/\ov=.slice Ao n u/\Hy (allTo gY r n/\allTo gY l n)/\Hy (Own wr w.heap.size Ao u ((List.range n).map (foE r l)))/\Hy (Bw w wr)) (fun _ p _=>d-(intOf p).toNat)
 case atStart=>exact⟨0,none,0,ah,rfl,rfl,af ⟨allTo.zero,allTo.zero⟩,af Own.nil,af (aP _ _)⟩
 case round=>
  obtain⟨n,Ao,u,hn,rfl,rfl,HA,Q,H⟩:=hrel;obtain⟨wo,rfl⟩:=ak (wr:Wd);by_cases hlt:n<d
  ·go_wp2
   go_loopw[8,9] (fun av p wr=> ∃(k:Nat) (s:Int),k<=n+1/\p=.int .i64 k/\av=.int .i64 s/\Hy (s=2048+aN (foT r l n) k)/\Hy (∀i,i<k->gY (r.getD i 0)=true/\gY (l.getD (n-i) 0)=true)/\(-1073741824*(k:Int)<=s-2048/\s-2048<=1073741824*(k:Int))/\Hy (Own wr w.heap.size Ao u ((List.range n).map (foE r l)))/\Hy (Bw w wr)) (fun _ p _=>n+1-(intOf p).toNat)
   case atStart=>exact⟨0,2048,ah,rfl,rfl,af rfl,af (fun i h=>ah),ah,Q,H⟩
   case round=>
    clear Q H;obtain⟨k,s,hk,rfl,rfl,C,Y,⟨K,L⟩,Q,H⟩:=hrel;by_cases hlk:k<n+1
    ·obtain⟨ad,rfl,hadb,c0⟩:=(HR.o.below H.o).at_ (k:=k) (by rw[LR.o];omega)
     obtain⟨R,rfl,haeb,c1⟩:=(HL.o.below H.o).at_ (k:=n-k) (by rw[LL.o];omega);have q:=WR.o.at_ k;have t:=WL.o.at_ (n-k);have ST:=af (show 2048+aN (foT r l n) (k+1)=s+r.getD k 0*l.getD (n-k) 0 by rw[C.o];simp only[aN];unfold foT;omega);have Z:=af (fun(h1:gY (r.getD k 0)=true) (h2:gY (l.getD (n-k) 0)=true)=>show∀i,i<k+1->gY (r.getD i 0)=true/\gY (l.getD (n-i) 0)=true from fun i hi=>by
      by_cases e:i=k
      ·subst e;exact⟨h1,h2⟩
      ·exact Y.o i ah)
     have a:=af (fun(h:gY (r.getD k 0)=false)=>show foB r l=false by unfold foB;rw[show aG r=false from jb (i:=k) (by rw[LR.o];omega) h];rfl);have BY:=af (fun(h:gY (l.getD (n-k) 0)=false)=>show foB r l=false by unfold foB;rw[show aG l=false from jb (i:=n-k) (by rw[LL.o];omega) h];simp);generalize r.getD k 0=x at*
     generalize l.getD (n-k) 0=y at*
     obtain⟨m,O⟩:=ak (n-k);rw[<-O] at c1;have I:IntKind.i64.wrap ((n:Int)-(k:Nat))=(m:Nat):=aV;have i1:(m:Int)<d:=ah;have i2:(0:Int)<=m:=ah;have i3:(k:Int)<d:=ah;have i4:(0:Int)<=k:=ah;have i5:(k:Int)<=n:=ah;have T:Hy (∀W,Cl 143 #[.int .i64 x] W fun e w'=>e=.returned (.int .i64 (s16 x))/\w'=W):=af (fun W=>(Ad x W).mono fun _ _ h=>⟨h.1,h.2.symm⟩);have KY:Hy (∀W,Cl 143 #[.int .i64 y] W fun e w'=>e=.returned (.int .i64 (s16 y))/\w'=W):=af (fun W=>(Ad y W).mono fun _ _ h=>⟨h.1,h.2.symm⟩);have HM:=af O;clear O;by_cases hx:x< -32768\/32767<x
     ·have e1:(x==s16 x)=false:=ahn
      have S:(x !=s16 x)=true:=(by rw[qJ];exact fun h=>vg hx h.symm);have FB:=af (a.o (ve hx));clear hx q t;exact aij
     by_cases hy:y< -32768\/32767<y
     ·have e1:(y==s16 y)=false:=aho
      have S:(y !=s16 y)=true:=(by rw[qJ];exact fun h=>vg hy h.symm);have FB:=af (BY.o (ve hy));have B:=mW (x:=x) ah ah;rw[B] at T;clear hx hy q t B;exact aij
     have B:=mW (x:=x) ah ah;have e4:=mW (x:=y) ah ah;rw[B] at T;rw[e4] at KY;have HK3:=af (Z.o (sO ah ah) (sO ah ah));obtain⟨p1,p2⟩:=nO (x:=x) (y:=y) ah ah ah ah;have hw2:IntKind.i64.wrap (x*y)=x*y:=aV;have hw3:IntKind.i64.wrap (s+x*y)=s+x*y:=aV;have M: -1073741824*((k+1:Nat):Int)<=s+x*y-2048/\s+x*y-2048<=1073741824*((k+1:Nat):Int):=(by push_cast;omega);have SB3:=af M;clear hx hy q t B e4 M K L;go_wp2;go_quiet ((go_at_call 143;first|(with_reducible exact oW (T.o _))|(with_reducible exact oW (KY.o _))));go_wp2;go_quiet (fail);clear I hw2 hw3;go_wp2;go_roundw;case rel=>exact⟨k+1,_,ah,aT,rfl,af ST.o.symm,HK3,SB3.o,af (Q.o.drewN _),af (aH H.o (jL _ _))⟩
     case measure=>exact aW
    obtain rfl:k=n+1:=ah;have HN:=af (show allTo gY r (n+1)/\allTo gY l (n+1) from⟨fun j hj=>(Y.o j hj).1,fun j hj=>by have:=(Y.o (n-j) ah).2;rwa [show n-(n-j)=j from ah] at this⟩);have HV:=af (show foE r l n=s16 (s/4096) by unfold foE;rw[C.o]);have KS:=af (fun W=>Ad (s/4096) W);obtain⟨v,hv⟩:=ak (s16 (s/4096));rw[<-hv] at KS HV;clear hv K L hlk;go_wp2_with(first
     |(go_at_call 143;(with_reducible refine(KS.o _).mono ?_);rintro e w' ⟨rfl,rfl⟩)
     |(at_builtin;refine wR rfl (.tmp 69) (.tmp 73) rfl w.heap.size Ao u n ((List.range n).map (foE r l)) rfl ay (Q.o.alloc _) ⟨wr.heap.size,0,none⟩ v rfl (oH wr _ _) ah (dL H.o.size ay) ?_;intro A5 c5 w5 N hG hA;have O5:=af N;have G5:=af hG;clear N hG hA))
    have N1:=af (show Own w5 w.heap.size A5 c5 ((List.range (n+1)).map (foE r l)) by rw[<-Ir,HV.o];exact O5.o);have N4:=af (uX (H.o.alloc H.o.size _) (Q.o.alloc _) G5.o (dL H.o.size ay));go_wp2;go_roundw;case rel=>exact⟨n+1,A5,c5,ah,aT,rfl,HN,N1,N4⟩
    case measure=>exact aW
  obtain rfl:n=d:=ah;have FG:=af (g.o wo Ao u (by unfold foB;rw[show aG r=true from HA.o.1.all (by rw[LR.o];exact ax _),show aG l=true from HA.o.2.all (by rw[LL.o];exact ax _)];rfl) Q.o H.o);go_wp2;go_ret2;exact FG.o
def fdT(r l:Lz)(j i:Nat):Int:=if i<=j then l.getD i 0*r.getD (j-i) 0 else 0
def fdS(r l:Lz)(j i:Nat):Int:=aN (fdT r l j) i
def kz(r l:Lz)(n i k:Nat):Lz:=(List.range n).map (fun j=>fdS r l j i+if i<=j/\j<i+k then l.getD i 0*r.getD (j-i) 0 else 0)
theorem qF(r l:Lz)(n i k:Nat):(kz r l n i k).length=n:=by simp[kz]
theorem am6(r l:Lz){i:Nat}(h:i+k<n):(kz r l n i k).getD (i+k) 0=fdS r l (i+k) i:=by
 unfold kz;rw[bJ _ h,if_neg ah];omega
theorem am7(r l:Lz){i:Nat}(h:i+k<n):(kz r l n i k).set (i+k) (fdS r l (i+k) i+l.getD i 0*r.getD k 0)=kz r l n i (k+1):=by
 refine dM (by simp[qF]) fun j hj=>?_;rw[fP,qF] at hj;by_cases e:i+k=j
 ·subst e
  rw[gQ _ _ _ (by rw[qF];exact hj)];unfold kz;rw[bJ _ hj,if_pos ah,show i+k-i=k from ah]
 rw[gV _ _ e];exact aiH
theorem am8(r l:Lz){i:Nat}(h:n<=i+k):kz r l n i (k+1)=kz r l n i k:=by
 refine dM (by simp[qF]) fun j hj=>?_;rw[qF] at hj;exact aiH
theorem am9(r l:Lz)(n i:Nat):kz r l n i n=kz r l n (i+1) 0:=by
 refine dM (by simp[qF]) fun j a=>?_;rw[qF] at a;unfold kz;rw[bJ _ a,bJ _ a,if_neg (show¬(i+1<=j/\j<i+1+0) from ah)];unfold fdS;simp only[aN];unfold fdT;by_cases h:i<=j
 ·rw[if_pos ah,if_pos h];omega
 rw[if_neg ah,if_neg h];simp
theorem ana(r l:Lz)(n:Nat):kz r l n 0 0=List.replicate n 0:=by
 refine dM (by simp[qF]) fun j a=>?_;rw[qF] at a;rw[DC];unfold kz;rw[bJ _ a,if_neg ah];rfl
theorem aek{l:Lz}(b:fU r)(a:fU l)(j i:Nat): -(1073741824*(i:Int))<=fdS r l j i/\fdS r l j i<=1073741824*(i:Int):=by
 unfold fdS;induction i with
 |zero=>simp[aN]
 |succ i ih=>
  simp only[aN];have c:=nO (a i).1 (a i).2 (b (j-i)).1 (b (j-i)).2;have F: -1073741824<=fdT r l j i/\fdT r l j i<=1073741824:=by unfold fdT;split<;>omega
  push_cast;omega
theorem anb(r l:Lz)(h:j<n):fdS r l j n=aN (foT r l j) (j+1):=by
 unfold fdS;obtain⟨d,rfl⟩:∃d,n=(j+1)+d:=⟨n-(j+1),ah⟩;rw[ali];have a:aN (fun i=>fdT r l j (j+1+i)) d=0:=by
  rw[oK d (g:=fun _=>0) (fun i _=>by unfold fdT;rw[if_neg ah])];exact Xl d
 rw[a,Int.add_zero,alh];refine oK (j+1) fun i hi=>?_;show fdT r l j (j+1-1-i)=foT r l j i;unfold fdT foT;rw[if_pos ah,show j+1-1-i=j-i from ah,show j-(j-i)=i from ah,oC]
def fdM(r l:Lz)(n m:Nat):Lz:=(List.range n).map (fun j=>if j<m then foE r l j else fdS r l j n)
theorem xm(r l:Lz)(n m:Nat):(fdM r l n m).length=n:=by simp[fdM]
theorem anc(r l:Lz)(n:Nat):kz r l n n 0=fdM r l n 0:=by
 refine dM (by simp[qF,xm]) fun j a=>?_;rw[qF] at a;unfold kz fdM;rw[bJ _ a,bJ _ a,if_neg ah,if_neg ah];omega
theorem ane(r l:Lz){m:Nat}(h:m<n):(fdM r l n m).getD m 0=fdS r l m n:=by
 unfold fdM;rw[bJ _ h,if_neg ah]
theorem anf(r l:Lz){m:Nat}(h:m<n):(fdM r l n m).set m (s16 ((fdS r l m n+2048)/4096))=fdM r l n (m+1):=by
 refine dM (by simp[xm]) fun j a=>?_;rw[fP,xm] at a;by_cases e:m=j
 ·subst e
  rw[gQ _ _ _ (by rw[xm];exact a)];unfold fdM;rw[bJ _ a,if_pos ah];unfold foE;rw[anb r l a,Int.add_comm]
 rw[gV _ _ e];unfold fdM;rw[bJ _ a,bJ _ a];by_cases b:j<m
 ·rw[if_pos b,if_pos ah]
 rw[if_neg b,if_neg ah]
theorem ang(r l:Lz)(n:Nat):fdM r l n n=(List.range n).map (foE r l):=by
 refine dM (by simp[xm]) fun j a=>?_;rw[xm] at a;unfold fdM;rw[bJ _ a,bJ _ a,if_pos a]
theorem anh(A A2:Oz)(c c2 a G:Nat)(r l:Lz)(w:Wd)(T:Rs w w.heap.size A r)(M:Rs w w.heap.size A2 l)(U:r.length=a)(z:l.length=G)(l1:a<=17592186044416)(l2:G<=17592186044416):
 Cl 112 #[.slice A a c,.slice A2 G c2] w (NewSE w (foL r l) (mr r l)):=by
 by_cases R:a=G;rotate_left
 ·have D:=af (fun w' (hB:Bw w w')=>show NewSE w (foL r l) (mr r l) (.returned (.tuple #[.slice none 0 0,.int .i64 1])) w' from Vy)
  have d0:((a:Int) !=G)=true:=aC;have d1: ¬(a:Int)=G:=ah;clear R T M U z;go_enter LJ,LQ;exact o8
 subst R;by_cases S:80<a
 ·have D:=af (fun w' (hB:Bw w w')=>show NewSE w (foL r l) (mr r l) (.returned (.tuple #[.slice none 0 0,.int .i64 1])) w' from Vy)
  have d1:(80:Int)<a:=ah;clear S T M U z;go_enter LJ,LQ;exact o8
 have hN:a<=80:=ah;have J:=Yi (r:=r) (l:=l) ah ah;have b:=af (fun w' (hb:foB r l=false) (hB:Bw w w')=>show NewSE w (foL r l) (mr r l) (.returned (.tuple #[.slice none 0 0,.int .i64 2])) w' from by rw[Jl Vj,J,hb];exact NewSE.none_ hB);have t:=af (fun w' A3 c3 (hb:foB r l=true) (W:Own w' w.heap.size A3 c3 ((List.range a).map (foE r l))) (hB:Bw w w')=>show NewSE w (foL r l) (mr r l) (.returned (.tuple #[.slice A3 a c3,.int .i64 0])) w' from⟨A3,c3,by rw[Jm Dc,J,hb,z];simp;rfl,by rw[Jm Dc,z];exact W,hB⟩);have HR:=af T;have HL:=af M;have LR:=af U;have LL:=af z;have d2: ¬(80:Int)<a:=ah;have E:=af (mX A c a w.heap.size r w T U l1);have V:=af (mX A2 c2 a w.heap.size l w M z l2);clear J S T M U z;by_cases n:aG r=true;rotate_left
 ·have Y:=af (b.o w (by unfold foB;simp[n]) (aP _ _))
  have L:aG r=false:=by simpa using n
  rw[L] at E;clear n L;go_enter LJ,LQ;go_wp2_with fail;refine E.o.mono ?_;rintro e I ⟨rfl,rfl⟩;go_wp2;go_ret2;exact Y.o
 by_cases u:aG l=true;rotate_left
 ·have Y:=af (b.o w (by unfold foB;simp[u]) (aP _ _))
  have L:aG l=false:=by simpa using u
  rw[n] at E;rw[L] at V;clear n u L;go_enter LJ,LQ;go_wp2_with fail;refine E.o.mono ?_;rintro e I ⟨rfl,rfl⟩;go_wp2_with fail;refine V.o.mono ?_;rintro e I ⟨rfl,rfl⟩;go_wp2;go_ret2;exact Y.o
 have hb:foB r l=true:=by unfold foB;rw[n,u];rfl
 have HBB:=af hb;have GR:=af (iw n);have Z:=af (iw u);rw[n] at E;rw[u] at V;clear hb n u b;go_enter LJ,LQ;go_wp2_with fail;refine E.o.mono ?_;rintro e I ⟨rfl,rfl⟩;go_wp2_with fail;refine V.o.mono ?_;rintro e I ⟨rfl,rfl⟩;go_wp2_with(at_make;refine nK rfl _ _ rfl .i64 .i64 a rfl rfl w.heap.size ah (ax _) ?_;intro I W hG;have O1:=af (show Own I w.heap.size (some ⟨w.heap.size,0,none⟩) a (kz r l a 0 0) by rw[ana];exact W);have B1:=af ((aP w.heap.size w).grown hG (ax _) ay);clear W hG);go_loopw[35] (fun h wr=> ∃i:Nat,i<=a/\h=.int .i64 i/\Hy (Own wr w.heap.size (some ⟨w.heap.size,0,none⟩) a (kz r l a i 0))/\Hy (Bw w wr)) (fun h _=>a-(intOf h).toNat)
 case atStart=>exact⟨0,ah,rfl,O1,B1⟩
 case round=>
  clear O1 B1;obtain⟨i,hi,rfl,Q,H⟩:=hrel;obtain⟨wo,rfl⟩:=ak (wr:Wd);by_cases N:i<a
  ·obtain⟨al,rfl,halb,cl⟩:=(HL.o.below H.o).at_ (k:=i) (by rw[LL.o];exact N)
   obtain⟨x,X⟩:=ak (l.getD i 0);rw[<-X] at cl;have C:=Z.o i;rw[<-X] at C;have HX:=af X;clear X;go_wp2;go_loopw[42] (fun h wr=> ∃k:Nat,k<=a/\h=.int .i64 k/\Hy (Own wr w.heap.size (some ⟨w.heap.size,0,none⟩) a (kz r l a i k))/\Hy (Bw w wr)) (fun h _=>a-(intOf h).toNat)
   case atStart=>exact⟨0,ah,rfl,Q,H⟩
   case round=>
    clear Q H cl;obtain⟨k,hk,rfl,Q,H⟩:=hrel;by_cases hlk:k<a
    ·obtain⟨ad,rfl,hadb,c0⟩:=(HR.o.below H.o).at_ (k:=k) (by rw[LR.o];exact hlk)
     have q:=GR.o k;obtain⟨p1,p2⟩:=nO C.1 C.2 q.1 q.2;by_cases f:i+k<a
     ·have F:=Q.o.cell (i+k) (by rw[qF];exact f)
      rw[am6 r l f] at F;have fo:=Q.o.frozen (i+k);have sr:=aek GR.o Z.o (i+k) i;have d:=af (am7 r l f);rw[<-HX.o] at d;generalize r.getD k 0=y at*
      generalize fdS r l (i+k) i=s at*
      have s1: -1073741824000<=s:=ah;have s2:s<=1073741824000:=ah;obtain⟨j,hj⟩:=ak (i+k);rw[<-hj] at F fo d f;have hsum:(i:Int)+(k:Nat)=(j:Nat):=ah;have P:(j:Int)<a:=ah;have hj0:(0:Int)<=j:=ah;have B:=aj (Own (wr.setCell ⟨w.heap.size,j,none⟩ (.int .i64 (s+x*y))) w.heap.size (some ⟨w.heap.size,0,none⟩) a (kz r l a i (k+1))) (by rw[<-d.o];exact Q.o.set_ j (by rw[qF];exact f) (s+x*y));have K:=af (H.o.setCell (p:=⟨w.heap.size,j,none⟩) (ax _) (.int .i64 (s+x*y)));have HJ:=af hj;clear sr hj;go_wp2;go_roundw;case rel=>exact⟨k+1,ah,aT,B,K⟩
      case measure=>exact aW
     have P: ¬(i:Int)+(k:Nat)<a:=ah;have B:=aj (Own wr w.heap.size (some ⟨w.heap.size,0,none⟩) a (kz r l a i (k+1))) (by rw[am8 r l ah];exact Q.o);generalize r.getD k 0=y at*
     clear f;go_wp2;go_roundw;case rel=>exact⟨k+1,ah,aT,B,H⟩
     case measure=>exact aW
    obtain rfl:k=a:=ah;have B:=af (show Own wr w.heap.size (some ⟨w.heap.size,0,none⟩) k (kz r l k (i+1) 0) by rw[<-am9];exact Q.o);go_wp2;go_roundw;case rel=>exact⟨i+1,ah,aT,B,H⟩
    case measure=>exact aW
  obtain rfl:i=a:=ah;have O2:=af (show Own wo w.heap.size (some ⟨w.heap.size,0,none⟩) i (fdM r l i 0) by rw[<-anc];exact Q.o);clear Q N;go_wp2;go_loopw[68] (fun h wr=> ∃m:Nat,m<=i/\h=.int .i64 m/\Hy (Own wr w.heap.size (some ⟨w.heap.size,0,none⟩) i (fdM r l i m))/\Hy (Bw w wr)) (fun h _=>i-(intOf h).toNat)
  case atStart=>exact⟨0,ah,rfl,O2,H⟩
  case round=>
   clear O2 H;obtain⟨m,O,rfl,Q,H⟩:=hrel;by_cases g:m<i
   ·have F:=Q.o.cell m (by rw[xm];exact g)
    rw[ane r l g] at F;have sr:=aek GR.o Z.o m i;have d:=af (anf r l g);generalize fdS r l m i=s at*
    have s1: -1073741824000<=s:=ah;have s2:s<=1073741824000:=ah;clear sr;go_wp2_with fail;refine(NC (s+2048) wr ah ah).mono ?_;rintro e w3 ⟨rfl,hB⟩;have O3:=af (Q.o.below hB);have B3:=af (aH H.o hB);clear hB Q H F;go_wp2_with fail;refine(sN ((s+2048)/4096) w3 ah ah).mono ?_;rintro e w4 ⟨rfl,hB⟩;have O4:=af (O3.o.below hB);have B4:=af (aH B3.o hB);clear hB;have F:=O4.o.cell m (by rw[xm];exact g);have fo:=O4.o.frozen m;have B:=aj (Own (w4.setCell ⟨w.heap.size,m,none⟩ (.int .i64 (s16 ((s+2048)/4096)))) w.heap.size (some ⟨w.heap.size,0,none⟩) i (fdM r l i (m+1))) (by rw[<-d.o];exact O4.o.set_ m (by rw[xm];exact g) _);have K:=af (B4.o.setCell (p:=⟨w.heap.size,m,none⟩) (ax _) (.int .i64 (s16 ((s+2048)/4096))));generalize s16 ((s+2048)/4096)=v at*
    go_wp2;go_roundw;case rel=>exact⟨m+1,ah,aT,B,K⟩
    case measure=>exact aW
   obtain rfl:m=i:=ah;have FG:=af (t.o wr _ _ HBB.o (by rw[<-ang];exact Q.o) H.o);go_wp2;go_ret2;exact FG.o
def ug(l:Lz):Int:=if l.length=120 then bz (aG l) else 1
theorem mG:(Tryz.prog.info? 73).map (·.size)=some 9:=aB
def pU:Array Value:=agi (List.replicate 120 0)
theorem an1:pU=agi (List.replicate 120 0):=rfl
theorem aeS:pU.size=120:=by unfold pU;rw[dX,rW]
theorem an2: ¬pU= #[]:=fun h=>by
 have:=aeS;rw[h] at this;simp at this
theorem an3(w:Wd):(zeroValue 51).run Tryz.prog w=.ok (.agg pU) w:=aB
def iR(l:Lz)(k:Nat):Lz:=(List.range 120).map (fun j=>if j<k then fJ l j else 0)
theorem uh(l:Lz)(k:Nat):(iR l k).length=120:=by simp[iR]
theorem aeT(l:Lz):iR l 0=List.replicate 120 0:=by
 refine dM (by rw[uh];simp) fun j hj=>?_;rw[uh] at hj;unfold iR;exact ai6
theorem aeU(l:Lz)(a:k<120):(iR l k).set k (fJ l k)=iR l (k+1):=by
 refine dM (by rw[fP,uh,uh]) fun j hj=>?_;rw[fP,uh] at hj;by_cases e:k=j
 ·subst e
  rw[gQ _ _ _ (by rw[uh];exact a)];unfold iR;rw[bJ _ hj,if_pos ah]
 rw[gV _ _ e];unfold iR;exact GH
theorem Qd(l:Lz)(a:j<120):(iR l 120).getD j 0=fJ l j:=by unfold iR;rw[bJ _ a,if_pos a]
def kT(l:Lz)(k n:Nat):Lz:=(List.range 9).map (fun j=>if j<k then fZ l j (120-j) else if j=k then fZ l k n else 0)
theorem nX(l:Lz)(k n:Nat):(kT l k n).length=9:=by simp[kT]
theorem an4(l:Lz)(a:k<9)(n:Nat):(kT l k n).getD k 0=fZ l k n:=by unfold kT;rw[bJ _ a,if_neg ah,if_pos rfl]
theorem an5(l:Lz)(c:k<9)(n:Nat):(kT l k n).set k (fZ l k (n+1))=kT l k (n+1):=by
 refine dM (by rw[fP,nX,nX]) fun j b=>?_;rw[fP,nX] at b;by_cases e:k=j
 ·subst e
  rw[gQ _ _ _ (by rw[nX];exact c)];unfold kT;rw[bJ _ b,if_neg ah,if_pos rfl]
 rw[gV _ _ e];unfold kT;rw[bJ _ b,bJ _ b];by_cases a:j<k
 ·rw[if_pos a,if_pos a]
 rw[if_neg a,if_neg ah,if_neg a,if_neg ah]
theorem an6(l:Lz)(k:Nat):kT l k (120-k)=kT l (k+1) 0:=by
 refine dM (by rw[nX,nX]) fun j a=>?_;rw[nX] at a;unfold kT;rw[bJ _ a,bJ _ a];by_cases b:j<k
 ·rw[if_pos b,if_pos ah]
 rw[if_neg b];by_cases c:j=k
 ·subst c;rw[if_pos rfl,if_pos ah]
 rw[if_neg c,if_neg ah];by_cases d:j=k+1
 ·subst d;rw[if_pos rfl];rfl
 rw[if_neg d]
theorem aeV(l:Lz)(a:j<9):(kT l 9 0).getD j 0=fZ l j (120-j):=by unfold kT;rw[bJ _ a,if_pos a]
def jB(l:Lz)(j:Nat):Int:=if j=0 then fG l else fZ l j (120-j)
theorem Qe(l:Lz)(c:j<9): -fG l<=jB l j/\jB l j<=fG l:=by
 have a:=YM l 120;have b:=aeR l;unfold jB;split
 ·omega
 have:=an0 l (k:=j) (n:=120-j) ah;omega
def Ef(x:Int)(k:Nat):Int:=x-x*k*k/8192
def fM(l:Lz)(f:Int->Int)(k:Nat):Lz:=(List.range 9).map (fun j=>if j<k then Ef (f (jB l j)) j else jB l j)
theorem ry(l:Lz)(f:Int->Int)(k:Nat):(fM l f k).length=9:=by simp[fM]
theorem aeW(l:Lz)(f:Int->Int)(a:k<9):(fM l f k).getD k 0=jB l k:=by unfold fM;rw[bJ _ a,if_neg ah]
theorem aeX(l:Lz)(f:Int->Int)(a:k<9):(fM l f k).set k (Ef (f (jB l k)) k)=fM l f (k+1):=by
 refine dM (by rw[fP,ry,ry]) fun j hj=>?_;rw[fP,ry] at hj;by_cases e:k=j
 ·subst e
  rw[gQ _ _ _ (by rw[ry];exact a)];unfold fM;rw[bJ _ hj,if_pos ah]
 rw[gV _ _ e];unfold fM;exact GH
theorem aeY(l:Lz)(f:Int->Int):(kT l 9 0).set 0 (fG l)=fM l f 0:=by
 refine dM (by rw[fP,nX,ry]) fun j a=>?_;rw[fP,nX] at a;unfold fM;rw[bJ _ a,if_neg ah];unfold jB;by_cases e:0=j
 ·subst e
  rw[gQ _ _ _ (by rw[nX];omega),if_pos rfl]
 rw[gV _ _ e,if_neg ah,aeV l a]
def aeZ(l:Lz)(w:Wd)(e:Ending)(w':Wd):Prop:=
 ∃(f:Int->Int) (N:Int),e=.returned (.tuple #[.agg (agi (fM l f 9)),.int .i64 N,.int .i64 0])/\Bw w w'/\
  ((∃n:Nat,N=(n:Int)/\0<n/\f=(fun x=>x/2^n)/\fG l/2^n<=2147483647/\2147483647<fG l/2^(n-1))\/
   (∃m:Nat,N= -(m:Int)/\f=(fun x=>x*2^m)/\fG l<=2147483647/\1073741824<=fG l*2^m/\∀j,j<m->fG l*2^j<1073741824))
theorem an7(A:Oz)(c n:Nat)(l:Lz)(w:Wd)(hr:Rs w w.heap.size A l)(hn:l.length=120)(g:aG l=true):
 Cl 25 #[.slice A 120 c] w (aeZ l w):=by
 have hR:=sG (fn:=Tryz.f25) (p:=2) (q:=3) (r:=4) (ty:=73) rfl;have KR:=af (fun(W:Wd) (h:Rs W W.heap.size A l)=>Iq A c 120 W.heap.size l W h hn ah);rw[g] at KR;have G:=aj (fU l) (gU g);have HR:=af hr;have HN:=af hn;have B0:=((baqq w (.cells (agi Z9) 73)).alloc ay (.cells (agi Z9) 73));have B1:=B0.alloc aC (.cells pU 51);have M:=Blk.alloc (Blk.alloc (IB.new w 73 Z9) (.cells (agi Z9) 73)) (.cells pU 51);have R0:=Blk.alloc (IB.new (w.alloc (.cells (agi Z9) 73)) 73 Z9) (.cells pU 51);have W0:=Blk.new ((w.alloc (.cells (agi Z9) 73)).alloc (.cells (agi Z9) 73)) 51 pU;simp only[bT] at M R0 W0;clear hr hn g;have hzv:∀w,(zeroValue 51).run Tryz.prog w=.ok (.agg pU) w:=an3;have hzn:=an2;have hzs:=aeS;go_enter Tryz.func25,Tryz.ntmps25;go_wp2_with fail;refine(KR.o _ ((HR.o.below B0).more B0.size)).mono ?_;rintro e w1 ⟨rfl,rfl⟩;clear B0;go_wp2;clear hzv hzn hzs;have I1:=aj (IB (((w.alloc (.cells (agi Z9) 73)).alloc (.cells (agi Z9) 73)).alloc (.cells pU 51)) w.heap.size 73 Z9) (M);have R1:=aj (IB (((w.alloc (.cells (agi Z9) 73)).alloc (.cells (agi Z9) 73)).alloc (.cells pU 51)) (w.heap.size+1) 73 Z9) (R0);have t:=aj (IB (((w.alloc (.cells (agi Z9) 73)).alloc (.cells (agi Z9) 73)).alloc (.cells pU 51)) (w.heap.size+1+1) 51 (iR l 0)) (by rw[aeT];unfold IB;rw[<-an1];exact W0);have BH:=af B1;clear B1;obtain⟨V,hV⟩:=ak ((((w.alloc (.cells (agi Z9) 73)).alloc (.cells (agi Z9) 73)).alloc (.cells pU 51)));rw[<-hV] at I1 R1 t BH|-;clear hV M R0 W0;go_loopw[23] (fun iv wr=> ∃i:Nat,i<=120/\iv=.int .i64 i/\Hy (IB wr w.heap.size 73 Z9)/\Hy (IB wr (w.heap.size+1) 73 Z9)/\Hy (IB wr (w.heap.size+1+1) 51 (iR l i))/\Hy (Bw w wr)) (fun iv _=>120-(intOf iv).toNat)
 case atStart=>exact⟨0,ah,rfl,I1,R1,t,BH⟩
 case round=>
  clear I1 R1 t BH;obtain⟨i,hi,rfl,E,P,R,H⟩:=hrel;by_cases hlt:i<120
  ·obtain⟨ad,rfl,hadb,c0⟩:=(HR.o.below H.o).at_ (k:=i) iT
   have x16:=G.o i;have yr:=YJ (i:Nat);have Q:=af (aeU l hlt);have L:=aj (fJ l i=(l.getD i 0*wgt (i:Nat)+16384)/32768) (rfl);have cw:=IB.cell R.o i (by rw[uh];exact hlt);have fw:=Blk.frozen R.o i;have KW:=af (fun W=>anV (i:Nat) W);generalize l.getD i 0=x at*
   generalize wgt (i:Nat)=y at*
   have pr:=iU (x:=x) (X:=32768) (y:=y) (Y:=32767) ah ah ⟨ah,ah⟩ ⟨ah,ah⟩;have p1: -1073709056<=x*y:=ah;have p2:x*y<=1073709056:=ah;have in0:(0:Int)<=i:=ah;have in1:(i:Int)<120:=ah;have NW:=aj (IB (wr.setCell ⟨w.heap.size+1+1,i,none⟩ (.int .i64 ((x*y+16384)/32768))) (w.heap.size+1+1) 51 (iR l (i+1))) (by rw[<-Q.o,L.o];exact IB.set_ R.o i _);have NI:=af (Blk.far E.o (p:=⟨w.heap.size+1+1,i,none⟩) Me (.int .i64 ((x*y+16384)/32768)));have S:=af (Blk.far P.o (p:=⟨w.heap.size+1+1,i,none⟩) ni (.int .i64 ((x*y+16384)/32768)));have K:=af (H.o.setCell (p:=⟨w.heap.size+1+1,i,none⟩) qM (.int .i64 ((x*y+16384)/32768)));clear pr x16 yr;go_wp2_with(go_at_call 60;(with_reducible refine(KW.o _).mono ?_);rintro e w' ⟨rfl,rfl⟩);go_roundw;case rel=>exact⟨i+1,ah,aT,NI,S,NW,K⟩
   case measure=>exact aW
  obtain rfl:i=120:=ah;have RZ:=aj (IB wr (w.heap.size+1) 73 (kT l 0 0)) (by
   have e:kT l 0 0=Z9:=by
    refine dM (by rw[nX];rfl) fun j hj=>?_;rw[nX] at hj;unfold kT Z9;rw[bJ _ hj,if_neg ah,bK,BO,if_pos hj];split<;>rfl
   rw[e];exact P.o)
  go_wp2;go_loopw[37] (fun kv wr=> ∃k:Nat,k<=9/\kv=.int .i64 k/\Hy (IB wr w.heap.size 73 Z9)/\Hy (IB wr (w.heap.size+1) 73 (kT l k 0))/\Hy (IB wr (w.heap.size+1+1) 51 (iR l 120))/\Hy (Bw w wr)) (fun kv _=>9-(intOf kv).toNat)
  case atStart=>exact⟨0,ah,rfl,E,RZ,R,H⟩
  case round=>
   clear E RZ R H P;obtain⟨k,hk,rfl,E,P,R,H⟩:=hrel;obtain⟨wo,rfl⟩:=ak (wr:Wd);by_cases hlk:k<9
   ·have hdec:decide ((k:Int)<9)=true:=aC
    go_wp2;go_loopw[10] (fun iv wr=> ∃(i m:Nat),i<=120/\i=m+k/\iv=.int .i64 i/\Hy (IB wr w.heap.size 73 Z9)/\Hy (IB wr (w.heap.size+1) 73 (kT l k m))/\Hy (IB wr (w.heap.size+1+1) 51 (iR l 120))/\Hy (Bw w wr)) (fun iv _=>120-(intOf iv).toNat)
    case atStart=>exact⟨k,0,ah,ah,rfl,E,P,R,H⟩
    case round=>
     clear E P R H;obtain⟨i,m,hi,him,rfl,E,P,R,H⟩:=hrel;by_cases hli:i<120
     ·have D:=IB.cell P.o k (by rw[nX];exact hlk)
      rw[an4 l hlk] at D;have B:=Blk.frozen P.o k;have ci:=IB.cell R.o i (by rw[uh];exact hli);rw[Qd l hli] at ci;have cm:=IB.cell R.o m MV;rw[Qd l ah] at cm;have ST:=af (show fZ l k (m+1)=fZ l k m+fJ l i*fJ l m by
       unfold fZ;simp only[aN];unfold vH;rw[him,oC])
      have Q:=af (an5 l hlk m);have sr:=Qb G.o k m ah;have r1:=Ee G.o i;have r2:=Ee G.o m;generalize fJ l i=x at*
      generalize fJ l m=y at*
      obtain⟨s,Z⟩:=ak (fZ l k m);rw[<-Z] at D ST sr;have pr:=iU (x:=x) (X:=32768) (y:=y) (Y:=32768) ah ah ⟨ah,ah⟩ ⟨ah,ah⟩;have p1: -1073741824<=x*y:=ah;have p2:x*y<=1073741824:=ah;have I:IntKind.i64.wrap ((i:Int)-(k:Nat))=(m:Nat):=aV;have hw1:IntKind.i64.wrap (x*y)=x*y:=aV;have hw2:IntKind.i64.wrap (s+x*y)=s+x*y:=aV;have i1:(i:Int)<120:=ah;have i2:(0:Int)<=i:=ah;have i3:(m:Int)<120:=ah;have i4:(0:Int)<=m:=ah;have i5:(k:Int)<9:=ah;have i6:(0:Int)<=k:=ah;have S:=aj (IB (wr.setCell ⟨w.heap.size+1,k,none⟩ (.int .i64 (s+x*y))) (w.heap.size+1) 73 (kT l k (m+1))) (by rw[<-Q.o,ST.o];exact IB.set_ P.o k _);have NI:=af (Blk.far E.o (p:=⟨w.heap.size+1,k,none⟩) FH (.int .i64 (s+x*y)));have NW:=af (Blk.far R.o (p:=⟨w.heap.size+1,k,none⟩) aaM (.int .i64 (s+x*y)));have K:=af (H.o.setCell (p:=⟨w.heap.size+1,k,none⟩) vY (.int .i64 (s+x*y)));have C:=af Z;have HIM:=af him;clear pr r1 r2 sr Z him;go_wp2;go_region;clear I hw1 hw2 D ci cm B;go_wp2;go_roundw;case rel=>exact⟨i+1,m+1,ah,by have:=HIM.o;omega,aT,af (Blk.drew NI.o),af (Blk.drew S.o),af (Blk.drew NW.o),af K.o.drew⟩
      case measure=>exact aW
     obtain rfl:i=120:=ah;have S:=aj (IB wr (w.heap.size+1) 73 (kT l (k+1) 0)) (by rw[<-an6,show 120-k=m from ah];exact P.o);go_wp2;go_roundw;case rel=>exact⟨k+1,ah,aT,E,S,R,H⟩
     case measure=>exact aW
   obtain rfl:k=9:=ah;have c0:=IB.cell P.o 0 (by rw[nX];omega);rw[aeV l (by omega:0<9)] at c0;have f0:=Blk.frozen P.o 0;have zr:=yO G.o;have ZE:=aj (fG l=fZ l 0 120+1) (rfl);have hz:=ZE.o;obtain⟨s,Z⟩:=ak (fZ l 0 (120-0));rw[show(120:Nat)-0=120 from rfl] at Z;rw[show(120:Nat)-0=120 from rfl,<-Z] at c0;rw[<-Z] at hz;have hzs:s+1=fG l:=ah;have s1:0<=s:=ah;have s2:s<=128849018880:=ah;have S:=aj (IB (wo.setCell ⟨w.heap.size+1,0,none⟩ (.int .i64 (s+1))) (w.heap.size+1) 73 ((kT l 9 0).set 0 (s+1))) (IB.set_ P.o 0 _);have NI:=af (Blk.far E.o (p:=⟨w.heap.size+1,0,none⟩) FH (.int .i64 (s+1)));have K:=af (H.o.setCell (p:=⟨w.heap.size+1,0,none⟩) vY (.int .i64 (s+1)));have b:=af hzs;clear Z hz zr hzs;go_wp2;generalize wo.setCell ⟨w.heap.size+1,0,none⟩ (.int .i64 (s+1))=w2 at S NI K|-;obtain⟨z,hz⟩:=ak (s+1);have z1:1<=z:=ah;have z2:z<=128849018881:=ah;rw[<-hz] at S;have HZ:=af hz;have cz:=IB.cell S.o 0 (by rw[fP,nX];omega);rw[gQ _ _ _ (by rw[nX];omega)] at cz;clear hz c0 f0;go_loop [11] (fun nv=> ∃n:Nat,n<=10/\nv=.int .i64 n/\Hy (∀m,m<n->2147483647<z/2^m)) (fun nv=>10-(intOf nv).toNat)
   case atStart=>exact⟨0,ah,rfl,af (fun m O=>ah)⟩
   case round=>
    obtain⟨n,hn,rfl,HM⟩:=hrel;have n0:(0:Int)<=n:=ah;have n64:(n:Int)<64:=ah;have HX6:=af (fun(h:2147483647<z/2^n)=>show n<7 from by
     refine zl fun hc=>?_;have h7:(2:Int)^7<=2^n:=(by exact_mod_cast jK (by decide:0<2) (by omega:7<=n));have h8:z/2^n<=z/2^7:=by
      have h0:(0:Int)<2^n:=rU aA;refine Int.le_of_lt_add_one ((Int.ediv_lt_iff_lt_mul h0).2 ?_);have:=Int.lt_ediv_add_one_mul_self z (show(0:Int)<2^7 from aA);have h9:(0:Int)<=z/2^7+1:=(by have:=BZ (show 0<=z from ah) (show(0:Int)<=2^7 from aA);omega);exact Int.lt_of_lt_of_le this (Lc h7 h9)
     have h10:z/2^7<=128849018881/2^7:=ZW aA z2;have h11:(128849018881:Int)/2^7=1006632960:=aA;omega)
    go_wp2
    ·rename_i hgt
     have hn7:=HX6.o hgt;refine⟨⟨n+1,ah,aT,af fun m O=>?_⟩,?_⟩
     ·by_cases e:m=n
      ·subst e;exact hgt
      exact HM.o m ah
     simp[intOf]<;>omega
    have T:z/2^n<=2147483647:=mQ;by_cases d:n=0
    ·subst d
     have z31:z<=2147483647:=(by simpa using T);clear T HX6 HM;go_loop [11] (fun nv=> ∃m:Nat,nv=.int .i64 (-(m:Int))/\Hy (∀j,j<m->z*2^j<1073741824)) (fun nv=>(40+intOf nv).toNat)
     case atStart=>exact⟨0,rfl,af (fun j hj=>ah)⟩
     case round=>
      obtain⟨m,rfl,HJ⟩:=hrel;have hb:z*2^m<2147483648:=by
       by_cases e:m=0
       ·subst e;simpa using(by omega:z<2147483648)
       obtain⟨q,rfl⟩:∃q,m=q+1:=⟨m-1,ah⟩;have:=HJ.o q ah;rw[Int.pow_succ,<-Fh];omega
      have hb0:1<=z*2^m:=by
       have h0:(0:Int)<2^m:=rU aA;have:=Int.mul_pos (show 0<z from ah) h0;omega
      have hm31:m<32:=by
       refine zl fun hc=>?_;have h7:(2:Int)^32<=2^m:=(by exact_mod_cast jK (by decide:0<2) (by omega:32<=m));have h8:(2:Int)^m<=z*2^m:=by
        have:=uB (show 1<=z from ah) (show(0:Int)<=2^m from Tz (rU aA));rwa [vT] at this
       have h9:(2:Int)^32=4294967296:=aA;omega
      have f:(0:Int)<=m:=ah;have m64:(m:Int)<64:=ah;have hneg:decide (-(m:Int)<=0)=true:=Gu;go_wp2
      ·have hlt30:z*2^m<1073741824:=mQ
       refine⟨⟨m+1,by push_cast;congr 1;omega,af fun j hj=>?_⟩,?_⟩
       ·by_cases e:j=m
        ·subst e;exact hlt30
        exact HJ.o j ah
       simp[intOf]<;>omega
      have hge30:1073741824<=z*2^m:=mQ;have RF:=aj (IB w2 (w.heap.size+1) 73 (fM l (fun x=>x*2^m) 0)) (by
       rw[<-aeY];have e:z=fG l:=MG;rw[<-e];exact S.o)
      have WF:=af (Blk.far R.o (p:=⟨w.heap.size+1,0,none⟩) aaM (.int .i64 (s+1)));clear cz;go_wp2;go_loopw[85] (fun kv wr=> ∃k:Nat,k<=9/\kv=.int .i64 k/\Hy (IB wr w.heap.size 73 Z9)/\Hy (IB wr (w.heap.size+1) 73 (fM l (fun x=>x*2^m) k))/\Hy (Bw w wr)) (fun kv _=>9-(intOf kv).toNat)
      case atStart=>exact⟨0,ah,rfl,NI,RF,K⟩
      case round=>
       clear RF NI K WF;obtain⟨k,hk,rfl,E,HF,H⟩:=hrel;by_cases hlk:k<9
       ·have D:=IB.cell HF.o k UJ
        rw[aeW l _ hlk] at D;have B:=Blk.frozen HF.o k;have Q:=af (aeX l (fun x=>x*2^m) hlk);have xr:=Qe l hlk;have zr:=yO G.o;generalize jB l k=x at*
        have k0:(0:Int)<=k:=ah;have k9:(k:Int)<9:=ah;have N: -2147483648<=x*2^m/\x*2^m<=2147483648:=by
         have d1:(0:Int)<=2^m:=Tz (rU aA);have ez:z=fG l:=MG;generalize (2:Int)^m=dd at*
         have m1:x*dd<=z*dd:=uB ah d1;have J: -z*dd<=x*dd:=uB ah d1;rw[xO] at J;omega
        have hwx:IntKind.i64.wrap (x*2^m)=x*2^m:=aV;have hsg:decide (0< -(m:Int))=false:=Gu;have R3:=aj (IB (wr.setCell ⟨w.heap.size+1,k,none⟩ (.int .i64 (x*2^m))) (w.heap.size+1) 73 ((fM l (fun x=>x*2^m) k).set k (x*2^m))) (IB.set_ HF.o k _);have I3:=af (Blk.far E.o (p:=⟨w.heap.size+1,k,none⟩) FH (.int .i64 (x*2^m)));have B3:=af (H.o.setCell (p:=⟨w.heap.size+1,k,none⟩) vY (.int .i64 (x*2^m)));go_wp2;generalize wr.setCell ⟨w.heap.size+1,k,none⟩ (.int .i64 (x*2^m))=w3 at R3 I3 B3|-;have c3:=IB.cell R3.o k (by rw[fP,ry];exact hlk);rw[gQ _ _ _ UJ] at c3;have f3:=Blk.frozen R3.o k;have R4:=af (fun v=>IB.set_ R3.o k v);have HQ:=aj (Ef (x*2^m) k=x*2^m-x*2^m*k*k/8192) (rfl);generalize x*2^m=y at*
        have q1:=iU (x:=y) (X:=128849018881) (y:=(k:Int)) (Y:=8) ah ah ⟨ah,ah⟩ ⟨ah,ah⟩;have q2:=iU (x:=y*k) (X:=1030792151048) (y:=(k:Int)) (Y:=8) ah ah ⟨ah,ah⟩ ⟨ah,ah⟩;have hw1:IntKind.i64.wrap (y*k)=y*k:=aV;have hw2:IntKind.i64.wrap (y*k*k)=y*k*k:=aV;have hw3:IntKind.i64.wrap (y-y*k*k/8192)=y-y*k*k/8192:=aV;have R5:=aj (IB (w3.setCell ⟨w.heap.size+1,k,none⟩ (.int .i64 (y-y*k*k/8192))) (w.heap.size+1) 73 (fM l (fun x=>x*2^m) (k+1))) (by
         have:=R4.o (y-y*k*k/8192);rw[Su,<-HQ.o,Q.o] at this;rw[<-HQ.o];exact this)
        exact ahU
       obtain rfl:k=9:=ah;have u:=af (ry l (fun x=>x*2^m) 9);have a:=af (IB.setRow E.o (fM l (fun x=>x*2^m) 9));have BE:=af (aS H.o (ax _) (agi (fM l (fun x=>x*2^m) 9)));have EZ:=aj (z=fG l) (MG);go_wp2_with(first
        |(refine aK 73 (.tmp 5) (fM l (fun x=>x*2^m) 9) 9 HF.o bP mG u.o ?_)
        |(refine aQ 73 (.tmp 2) (.tmp 119) Z9 (fM l (fun x=>x*2^m) 9) 9 E.o mG rfl u.o ?_))
       refine aX (v:=_) (hR _ _ _ 73 (fM l (fun x=>x*2^m) 9) _ 9 rfl a.o bP rfl mG u.o) rfl ?_;exact⟨fun x=>x*2^m,-(m:Int),rfl,BE.o,.inr ⟨m,rfl,rfl,by rw[<-EZ.o];exact z31,by rw[<-EZ.o];exact hge30,by rw[<-EZ.o];exact HJ.o⟩⟩
    have U:decide ((n:Int)<=0)=false:=aC;have hd2:decide (0<(n:Int))=true:=aC;have RF:=aj (IB w2 (w.heap.size+1) 73 (fM l (fun x=>x/2^n) 0)) (by
     rw[<-aeY];have e:z=fG l:=MG;rw[<-e];exact S.o)
    have WF:=af (Blk.far R.o (p:=⟨w.heap.size+1,0,none⟩) aaM (.int .i64 (s+1)));have HLE:=af T;have F:=af (HM.o (n-1) ah);clear T HX6 HM cz;refine wp_loop_rounds 1 ?_;rw[rounds_succ];go_wp2;go_loopw[85] (fun kv wr=> ∃k:Nat,k<=9/\kv=.int .i64 k/\Hy (IB wr w.heap.size 73 Z9)/\Hy (IB wr (w.heap.size+1) 73 (fM l (fun x=>x/2^n) k))/\Hy (Bw w wr)) (fun kv _=>9-(intOf kv).toNat)
    case atStart=>exact⟨0,ah,rfl,NI,RF,K⟩
    case round=>
     clear RF NI K WF;obtain⟨k,hk,rfl,E,HF,H⟩:=hrel;by_cases hlk:k<9
     ·have D:=IB.cell HF.o k UJ
      rw[aeW l _ hlk] at D;have B:=Blk.frozen HF.o k;have Q:=af (aeX l (fun x=>x/2^n) hlk);have xr:=Qe l hlk;have zr:=yO G.o;generalize jB l k=x at*
      have k0:(0:Int)<=k:=ah;have k9:(k:Int)<9:=ah;have N: -128849018881<=x/2^n/\x/2^n<=128849018881:=by
       have d1:(1:Int)<=2^n:=rU aA;generalize (2:Int)^n=dd at*
       have m1:128849018881*1<=128849018881*dd:=Lc d1 aA;exact⟨Int.le_ediv_of_mul_le ah (by rw[xO];omega),Int.ediv_le_of_le_mul ah ah⟩
      have R3:=aj (IB (wr.setCell ⟨w.heap.size+1,k,none⟩ (.int .i64 (x/2^n))) (w.heap.size+1) 73 ((fM l (fun x=>x/2^n) k).set k (x/2^n))) (IB.set_ HF.o k _);have I3:=af (Blk.far E.o (p:=⟨w.heap.size+1,k,none⟩) FH (.int .i64 (x/2^n)));have B3:=af (H.o.setCell (p:=⟨w.heap.size+1,k,none⟩) vY (.int .i64 (x/2^n)));have n0:(0:Int)<=n:=ah;go_wp2;generalize wr.setCell ⟨w.heap.size+1,k,none⟩ (.int .i64 (x/2^n))=w3 at R3 I3 B3|-;have c3:=IB.cell R3.o k (by rw[fP,ry];exact hlk);rw[gQ _ _ _ UJ] at c3;have f3:=Blk.frozen R3.o k;have R4:=af (fun v=>IB.set_ R3.o k v);have HQ:=aj (Ef (x/2^n) k=x/2^n-x/2^n*k*k/8192) (rfl);generalize x/2^n=y at*
      have q1:=iU (x:=y) (X:=128849018881) (y:=(k:Int)) (Y:=8) ah ah ⟨ah,ah⟩ ⟨ah,ah⟩;have q2:=iU (x:=y*k) (X:=1030792151048) (y:=(k:Int)) (Y:=8) ah ah ⟨ah,ah⟩ ⟨ah,ah⟩;have hw1:IntKind.i64.wrap (y*k)=y*k:=aV;have hw2:IntKind.i64.wrap (y*k*k)=y*k*k:=aV;have hw3:IntKind.i64.wrap (y-y*k*k/8192)=y-y*k*k/8192:=aV;have R5:=aj (IB (w3.setCell ⟨w.heap.size+1,k,none⟩ (.int .i64 (y-y*k*k/8192))) (w.heap.size+1) 73 (fM l (fun x=>x/2^n) (k+1))) (by
       have:=R4.o (y-y*k*k/8192);rw[Su,<-HQ.o,Q.o] at this;rw[<-HQ.o];exact this)
      exact ahU
     obtain rfl:k=9:=ah;have u:=af (ry l (fun x=>x/2^n) 9);have a:=af (IB.setRow E.o (fM l (fun x=>x/2^n) 9));have BE:=af (aS H.o (ax _) (agi (fM l (fun x=>x/2^n) 9)));have EZ:=aj (z=fG l) (MG);go_wp2_with(first
      |(refine aK 73 (.tmp 5) (fM l (fun x=>x/2^n) 9) 9 HF.o bP mG u.o ?_)
      |(refine aQ 73 (.tmp 2) (.tmp 119) Z9 (fM l (fun x=>x/2^n) 9) 9 E.o mG rfl u.o ?_))
     refine aX (v:=_) (hR _ _ _ 73 (fM l (fun x=>x/2^n) 9) _ 9 rfl a.o bP rfl mG u.o) rfl ?_;exact⟨fun x=>x/2^n,n,rfl,BE.o,.inl ⟨n,rfl,ah,rfl,by rw[<-EZ.o];exact HLE.o,by rw[<-EZ.o];exact F.o⟩⟩
def Eg(w:Wd)(er:Int)(e:Ending)(w':Wd):Prop:=e=.returned (.tuple #[.agg (agi Z9),.int .i64 0,.int .i64 er])/\Bw w w'
theorem an8(A:Oz)(c n:Nat)(w:Wd)(e:n≠120):Cl 25 #[.slice A n c] w (Eg w 1):=by
 have hR:=sG (fn:=Tryz.f25) (p:=2) (q:=3) (r:=4) (ty:=73) rfl;have d:=(baqq w (.cells (agi Z9) 73)).alloc ay (.cells (agi Z9) 73);have M:=Blk.alloc (IB.new w 73 Z9) (.cells (agi Z9) 73);have b:=IB.new (w.alloc (.cells (agi Z9) 73)) 73 Z9;simp only[bT] at b;have a:=af (IB.setRow M Z9);have BE:=af (aS d (ax _) (agi Z9));have M:=aj (IB ((w.alloc (.cells (agi Z9) 73)).alloc (.cells (agi Z9) 73)) w.heap.size 73 Z9) (M);have b:=af b;have f:((n:Int) !=120)=true:=aC;have g: ¬(n:Int)=120:=ah;clear e;go_enter Tryz.func25,Tryz.ntmps25;go_wp2_with(first
  |(refine aK 73 (.tmp 5) Z9 9 b.o bP mG rfl ?_)
  |(refine aQ 73 (.tmp 2) (.tmp 16) Z9 Z9 9 M.o mG rfl rfl ?_))
 exact VQ
theorem an9(A:Oz)(c:Nat)(l:Lz)(w:Wd)(j:Rs w w.heap.size A l)(i:l.length=120)(g:aG l=false):Cl 25 #[.slice A 120 c] w (Eg w 2):=by
 have f:=af (fun(W:Wd) (h:Rs W W.heap.size A l)=>Iq A c 120 W.heap.size l W h i ah);rw[g] at f;have k:=af j;have hR:=sG (fn:=Tryz.f25) (p:=2) (q:=3) (r:=4) (ty:=73) rfl;have b:=(baqq w (.cells (agi Z9) 73)).alloc ay (.cells (agi Z9) 73);have M:=Blk.alloc (IB.new w 73 Z9) (.cells (agi Z9) 73);have d:=IB.new (w.alloc (.cells (agi Z9) 73)) 73 Z9;simp only[bT] at d;have a:=af (IB.setRow M Z9);have BE:=af (aS b (ax _) (agi Z9));have M:=aj (IB ((w.alloc (.cells (agi Z9) 73)).alloc (.cells (agi Z9) 73)) w.heap.size 73 Z9) (M);have d:=af d;clear j i g;go_enter Tryz.func25,Tryz.ntmps25;go_wp2_with fail;refine(f.o _ ((k.o.below b).more b.size)).mono ?_;rintro e m ⟨rfl,rfl⟩;clear b;go_wp2_with(first
  |(refine aK 73 (.tmp 5) Z9 9 d.o bP mG rfl ?_)
  |(refine aQ 73 (.tmp 2) (.tmp 20) Z9 Z9 9 M.o mG rfl rfl ?_))
 exact VQ
